/-
  Arguments that are words are read, with the ranges of their numbers.
-/
import Derived.Test.YtaglfmlgbcmakaaGreatDoorG23
import Derived.Test.YtaglfmlgbcmakaaGreatDoorG20
set_option linter.all false
set_option maxRecDepth 100000
set_option maxHeartbeats 4000000
namespace Go.Proofs.YtaglfmlgbcmakaaGreatDoor
open Go.RowKit Go.ChangeShapes Go.WideShapes
theorem Ll {a:Int}(h:(Lit.int .u32 a).wf=true):U32 a:=by
 simpa[U32,Lit.wf,IntKind.min,IntKind.max,IntKind.signed,IntKind.bits]using h
section
variable {H:Type}{enc:TypeId×Value->H}{w:World}{base:Nat}{spare:Nat->Bool}{held:Bool}
set_option maxRecDepth 100000
theorem Nq {fuel:Nat}{r:List Value}{x:DataW H×List MemPlace}(h:DataW.trod enc Tryz.prog w base spare held fuel 49 r=some x):∃s:Snd,r=Y2 s/\Tc s:=by
 obtain⟨n,_,hl,hf⟩:=Fp Tryz.underlying49 h;rw[Y4]at hl
 match r,hl with
 |[c0,c1],_=>
  simp only[List.mem_cons,forall_eq_or_imp,List.not_mem_nil,false_implies,implies_true,and_true,Alm,List.drop_zero,List.drop_succ_cons,List.take_succ_cons,List.take_zero]at hf;obtain⟨⟨_,h0⟩,⟨_,h1⟩⟩:=hf;obtain⟨p,e0,_,w0⟩:=DataW.trod_int Tryz.underlying47 h0;obtain⟨m,e1,_,w1⟩:=DataW.trod_int Tryz.underlying47 h1;obtain rfl:c0= .int .u32 p:=by simpa using e0
  obtain rfl:c1= .int .u32 m:=by simpa using e1
  exact⟨(p,m),rfl,Ll w0,Ll w1⟩
theorem Rp {fuel:Nat}{cs:List Value}{x:DataW H×List MemPlace}(h:DataW.trod enc Tryz.prog w base spare held fuel 28 cs=some x):∃A n c xs,cs=[.slice A n c]/\Ak w A n c xs/\Ck xs:=by
 obtain⟨A,n,c,m,L,rfl,hL,hc,hr⟩:=Gl Tryz.underlying28 (by rw[Y4];decide) h;obtain⟨xs,rfl,hq⟩:=Gy (g:=Y2) L (fun r hr'=>Nq (hr r hr').2.2.choose_spec);rw[Y4,Rn]at hc;exact⟨A,n,c,xs,rfl,hc,hq⟩
end
section
variable {H:Type}{enc:TypeId×Value->H}{w:World}{base:Nat}{spare:Nat->Bool}{held:Bool}{A:Option Addr}{n c:Nat}{d:DataW H}{p:List MemPlace}
end
end Go.Proofs.YtaglfmlgbcmakaaGreatDoor
