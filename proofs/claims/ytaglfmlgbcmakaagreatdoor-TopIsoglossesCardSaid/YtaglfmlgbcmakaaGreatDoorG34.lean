/-
  The sounds and laws of the examples, in plain words.
  Appends to a list of laws of one's own.
  Slices that are built of laws.
  Slices that are built.
-/
import Derived.Test.YtaglfmlgbcmakaaGreatDoorG15
set_option linter.all false
set_option maxRecDepth 100000
set_option maxHeartbeats 4000000
namespace Go.Proofs.YtaglfmlgbcmakaaGreatDoor
open Go.RowKit Go.Shelf
end Go.Proofs.YtaglfmlgbcmakaaGreatDoor
namespace Go.Proofs.YtaglfmlgbcmakaaGreatDoor
open Go.RowKit Go.Shelf
def Aee:Value:= .agg #[.string ⟨#[]⟩, .int .i64 0, .int .u32 0, .int .u32 0, .bool false, .int .i64 0, .int .i64 0, .slice none 0 0, .int .i64 0, .int .u32 0, .int .u32 0, .bool false, .int .i64 0, .int .i64 0, .slice none 0 0, .slice none 0 0, .slice none 0 0, .int .i64 0]
theorem Yb:(Tryz.prog.info? 55).map (fun i=>(i.zero,i.size,i.bytes))=some (some Aee,18,200):=by kernel_rfl
theorem Wa:Aee.cells.size=18:=by kernel_rfl
theorem Yc (xs:List B8):∀u∈xs.flatMap B8.cells,u.oneCell'=true:=by
 intro u hu;obtain⟨x,_,hx⟩:=List.mem_flatMap.1 hu;have h:=Abx x.l x.a;rw[Array.all_eq_true_iff_forall_mem]at h;exact h u (by simpa[B8.cells]using hx)
theorem Rr {ops:Array Oper}{rest:List Oper}{o:Oper}{a:Act}{w:World}{Q:Exit->Act->World->Prop}(hgd:o.guard=none)(s x:Operand)
  (ho:o.op= .call {callee:= .builtin .append,args:= #[s,x],argTypes:= #[26,26]})
  (base:Nat) (v:Value) (n:Nat) (xs:List B8) (hs:a.eval s=v) (hown:w.ownsRow base 55 18 v n (xs.flatMap B8.cells))
  (A:Option Addr) (m c:Nat) (ys:List B8) (hx:a.eval x= .slice A m c) (hr:Dg B8.cells 18 w A m c ys) (hl:n+m<=4096) (hbase:base<=w.heap.size)
  (h:∀v' w',w'.ownsRow base 55 18 v' (n+m) ((xs++ys).flatMap B8.cells)->w.grownBy w' v.ownBlock->(v'= .slice none 0 0↔v= .slice none 0 0/\m=0)→
   wpList Tryz.prog ops Q rest (a.put o.dst v') w'):wpList Tryz.prog ops Q (o::rest) a w:=by
 obtain⟨i0,hi,a2,a1,a0⟩:=info_parts Yb
 refine Di w hgd s x 26 ho base 55 i0 _ 18 200 Tryz.underlying26 hi a2 a1 a0 Wa (by decide) v n _ hs hown A m c _ hx hr.1
  (Yc ys) (by unfold maxLen;omega) (by omega) hbase ?_
 rw[←List.flatMap_append];exact h
def Vh (w:World)(xs:List B8)(e:Ending)(w':World):Prop:=
 ∃A n c,e= .returned (.slice A n c)/\B1 w' A n c xs/\Below w.heap.size w w'∧∀ad,A=some ad->w.heap.size<=ad.block
theorem Vh.of_own {w w':World}{xs:List B8}{base:Nat}{n:Nat}{v:Value}{e:Ending}(he:e= .returned v)(h:w'.ownsRow base 55 18 v n (xs.flatMap B8.cells))(hl:∀x∈xs,E9 w' x.l x.a)(hb:Below w.heap.size w w')(hbase:w.heap.size<=base):
  Vh w xs e w':=by
 obtain⟨A,c,rfl⟩:=Bg h;refine⟨A,n,c,he,⟨Dg.of_own h B8.len (by decide),hl⟩,hb,fun ad had=> ?_⟩
 subst had;exact Nat.le_trans hbase (h.lt ad.block rfl).1
theorem Tv (x:B8)(w:World):(Instr.buildSlice 26 1 #[(0,Fj x.l x.a)]).run Tryz.prog w= .ok (.slice (some ⟨w.heap.size,0,none⟩) 1 1) (w.alloc (.cells (x.cells).toArray 55)):=by kernel_rfl
section
variable {ops:Array Oper}{rest:List Oper}{op:Oper}{ac:Act}{w:World}{Q:Exit->Act->World->Prop}
theorem Tw (hgd:op.guard=none)(p:Operand)(ho:op.op= .buildSlice 26 1 #[(0,p)])(x:B8)(hp:ac.eval p=Fj x.l x.a)
  (h:wpList Tryz.prog ops Q rest (ac.put op.dst (.slice (some ⟨w.heap.size,0,none⟩) 1 1)) (w.alloc (.cells (x.cells).toArray 55))):wpList Tryz.prog ops Q (op::rest) ac w:=by
 refine wpList_plain hgd fun K hK=> ?_
 have hr:=Tv x w;unfold Oper.wp execOp;simp only[ho,List.map_toArray,List.map_cons,List.map_nil,hp,hr,Sem.run_bind,Sem.run_pure,Result.andThen_ok];exact hK _ _ h
end
end Go.Proofs.YtaglfmlgbcmakaaGreatDoor
namespace Go.Proofs.YtaglfmlgbcmakaaGreatDoor
open Go.RowKit Go.Shelf
end Go.Proofs.YtaglfmlgbcmakaaGreatDoor
