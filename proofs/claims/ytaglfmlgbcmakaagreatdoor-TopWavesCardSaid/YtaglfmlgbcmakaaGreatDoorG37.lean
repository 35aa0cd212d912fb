/-
  Words of a slice of words, one by one.
-/
import Derived.Test.YtaglfmlgbcmakaaGreatDoorG13
set_option linter.all false
set_option maxRecDepth 100000
set_option maxHeartbeats 4000000
namespace Go.Proofs.YtaglfmlgbcmakaaGreatDoor
open Go.RowKit Go.Shelf
theorem Z4 {ops:Array Oper}{S:World->Prop}{op:Oper}{ac:Act}(hw:Region.wanted op (yielded ops ac.tmps)=true)(x:Operand)(ho:op.op= .load 55 x)
  (b o:Nat) (s:Bj) (hx:ac.eval x= .pointer (some ⟨b,o,none⟩)) (hS:∀w,S w->w.rangeAt b o s.cells):YieldsIf Tryz.prog ops S op (Ez s.l s.a) ac:=
 .inl ⟨hw,fun w hw'=>by
  unfold execOp;simp only[ho,hx,Instr.loadAt,Instr.sureAddr,Sem.run_bind,Sem.run_pure,Result.andThen_ok,Jg (hS w hw')]⟩
end Go.Proofs.YtaglfmlgbcmakaaGreatDoor
