/-
  Arguments that are words are read, with the ranges of their numbers.
-/
import Derived.Test.YtlgliddhideflaaGreatDoorG23
import Derived.Test.YtlgliddhideflaaGreatDoorG20
set_option linter.all false
set_option maxRecDepth 100000
set_option maxHeartbeats 4000000
namespace Go.Proofs.YtlgliddhideflaaGreatDoor
open Go.RowKit Go.ChangeShapes Go.WideShapes
theorem Mb {a:Int}(h:(Lit.int .u32 a).wf=true):U32 a:=by
 simpa[U32,Lit.wf,IntKind.min,IntKind.max,IntKind.signed,IntKind.bits]using h
section
variable {H:Type}{enc:TypeId×Value->H}{w:World}{base:Nat}{spare:Nat->Bool}{held:Bool}
set_option maxRecDepth 100000
theorem Pe {fuel:Nat}{r:List Value}{x:DataW H×List MemPlace}(h:DataW.trod enc Tryz.prog w base spare held fuel 24 r=some x):∃s:Snd,r=Abb s/\Wd s:=by
 obtain⟨n,_,hl,hf⟩:=Ko Tryz.underlying24 h;rw[Abc]at hl
 match r,hl with
 |[c0,c1],_=>
  simp only[List.mem_cons,forall_eq_or_imp,List.not_mem_nil,false_implies,implies_true,and_true,Amn,List.drop_zero,List.drop_succ_cons,List.take_succ_cons,List.take_zero]at hf;obtain⟨⟨_,h0⟩,⟨_,h1⟩⟩:=hf;obtain⟨p,e0,_,w0⟩:=DataW.trod_int Tryz.underlying22 h0;obtain⟨m,e1,_,w1⟩:=DataW.trod_int Tryz.underlying22 h1;obtain rfl:c0= .int .u32 p:=by simpa using e0
  obtain rfl:c1= .int .u32 m:=by simpa using e1
  exact⟨(p,m),rfl,Mb w0,Mb w1⟩
theorem Tk {fuel:Nat}{cs:List Value}{x:DataW H×List MemPlace}(h:DataW.trod enc Tryz.prog w base spare held fuel 32 cs=some x):∃A n c xs,cs=[.slice A n c]/\Ad w A n c xs/\Bq xs:=by
 obtain⟨A,n,c,m,L,rfl,hL,hc,hr⟩:=Nf Tryz.underlying32 (by rw[Abc];decide) h;obtain⟨xs,rfl,hq⟩:=My (g:=Abb) L (fun r hr'=>Pe (hr r hr').2.2.choose_spec);rw[Abc,Tj]at hc;exact⟨A,n,c,xs,rfl,hc,hq⟩
end
section
variable {H:Type}{enc:TypeId×Value->H}{w:World}{base:Nat}{spare:Nat->Bool}{held:Bool}{A:Option Addr}{n c:Nat}{d:DataW H}{p:List MemPlace}
theorem Ho (h:DataW.Trod enc Tryz.prog w base spare held 32 (.slice A n c) d p):∃xs,Ad w A n c xs/\Bq xs:=by
 obtain⟨_,hf⟩:=h;obtain⟨A',n',c',xs,e,hx⟩:=Tk hf;simp[Value.cells]at e;obtain⟨rfl,rfl,rfl⟩:=e;exact⟨xs,hx⟩
end
end Go.Proofs.YtlgliddhideflaaGreatDoor
