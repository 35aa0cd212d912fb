/-
  A parameter that is a case of chapter 38 (a map, laws, waves, a word, numbers) is opened.
-/
import Derived.Test.YtaglfmlgbcmakaaGreatDoorG20
import Derived.Test.YtaglfmlgbcmakaaGreatDoorH08
set_option linter.all false
set_option maxRecDepth 100000
set_option maxHeartbeats 4000000
namespace Go.Proofs.YtaglfmlgbcmakaaGreatDoor
open Go.RowKit Go.ChangeShapes Go.WideShapes Go.ChangeAt
theorem S1 {a:Int}(h:(Lit.int .i64 a).wf=true): -9223372036854775808<=a/\a<=9223372036854775807:=by
 simpa[Lit.wf,IntKind.min,IntKind.max,IntKind.signed,IntKind.bits]using h
theorem Lj {α:Type}(g:α->Value):∀l:List α,(l.map fun x=>[g x]).flatten=l.map g
 |[]=>rfl
 |x::l=>by rw[List.map_cons,List.flatten_cons,Lj g l];rfl
section
variable {H:Type}{enc:TypeId×Value->H}{w:World}{base:Nat}{spare:Nat->Bool}{held:Bool}
set_option maxRecDepth 100000
theorem Ag6:Tryz.prog.cellsOf 2=1:=by kernel_rfl
theorem Al0:Tryz.prog.cellsOf 36=1:=by kernel_rfl
theorem Al1:Tryz.prog.cellsOf 22=1:=by kernel_rfl
theorem Abc:Tryz.prog.cellsOf 64=3:=by kernel_rfl
theorem Akd:Tryz.prog.cellsOf 23=1:=by kernel_rfl
theorem Al2:Tryz.prog.cellsOf 26=1:=by kernel_rfl
theorem Abd:Tryz.prog.cellsOf 38=5:=by kernel_rfl
theorem Ake:Tryz.prog.cellsOf 27=1:=by kernel_rfl
theorem Ana:Tryz.prog.cellsOf 66=9:=by kernel_rfl
theorem Lk {fuel:Nat}{r:List Value}{x:DataW H×List MemPlace}(h:DataW.trod enc Tryz.prog w base spare held fuel 3 r=some x):∃a:Int,r=[.int .i64 a]∧ -9223372036854775808<=a/\a<=9223372036854775807:=by
 obtain⟨p,e0,_,w0⟩:=DataW.trod_int Tryz.underlying3 h;exact⟨p,e0,S1 w0⟩
theorem Pd {fuel:Nat}{r:List Value}{x:DataW H×List MemPlace}(h:DataW.trod enc Tryz.prog w base spare held fuel 2 r=some x):∃a:Int,r=[.int .i64 a]∧ -9223372036854775808<=a/\a<=9223372036854775807:=by
 obtain⟨p,e0,_,w0⟩:=DataW.trod_int Tryz.underlying2 h;exact⟨p,e0,S1 w0⟩
theorem Abe {fuel:Nat}{cs:List Value}{x:DataW H×List MemPlace}(h:DataW.trod enc Tryz.prog w base spare held fuel 36 cs=some x):∃A n c xs,cs=[.slice A n c]/\Ci w A n c xs∧∀a∈xs, -9223372036854775808<=a/\a<=9223372036854775807:=by
 obtain⟨A,n,c,m,L,rfl,hL,hc,hr⟩:=Gl Tryz.underlying36 (by rw[Ro];decide) h;obtain⟨xs,rfl,hq⟩:=Gy (g:=fun a:Int=>[Value.int .i64 a]) L (fun r hr'=>Lk (hr r hr').2.2.choose_spec);rw[Ro,Lj]at hc;exact⟨A,n,c,xs,rfl,hc,hq⟩
theorem Akf {fuel:Nat}{r:List Value}{x:DataW H×List MemPlace}(h:DataW.trod enc Tryz.prog w base spare held fuel 9 r=some x):∃s:ByteArray,r=[.string s]/\s.size<=9223372036854775807:=by
 obtain⟨s,e0,_,hs⟩:=DataW.trod_string Tryz.underlying9 h;exact⟨s,e0,by unfold maxLen at hs;omega⟩
theorem Abf {fuel:Nat}{cs:List Value}{x:DataW H×List MemPlace}(h:DataW.trod enc Tryz.prog w base spare held fuel 22 cs=some x):∃A n c xs,cs=[.slice A n c]/\Hi w A n c xs∧∀s∈xs,s.size<=9223372036854775807:=by
 obtain⟨A,n,c,m,L,rfl,hL,hc,hr⟩:=Gl Tryz.underlying22 (by rw[S2];decide) h;obtain⟨xs,rfl,hq⟩:=Gy (g:=fun s:ByteArray=>[Value.string s]) L (fun r hr'=>Akf (hr r hr').2.2.choose_spec);rw[S2,Lj]at hc;exact⟨A,n,c,xs,rfl,hc,hq⟩
theorem Ag7 {fuel:Nat}{r:List Value}{x:DataW H×List MemPlace}(h:DataW.trod enc Tryz.prog w base spare held fuel 64 r=some x):∃s:Ep,r=Ma s/\True:=by
 obtain⟨n,_,hl,hf⟩:=Fp Tryz.underlying64 h;rw[Abc]at hl
 match r,hl with
 |[c0,c1,c2],_=>
  simp only[List.mem_cons,forall_eq_or_imp,List.not_mem_nil,false_implies,implies_true,and_true,Ro,Ag6,List.drop_zero,List.drop_succ_cons,List.take_succ_cons,List.take_zero]at hf;obtain⟨⟨_,h0⟩,⟨_,h1⟩,⟨_,h2⟩⟩:=hf;obtain⟨n0,e0,_⟩:=Lk h0;obtain⟨n1,e1,_⟩:=Lk h1;obtain⟨n2,e2,_⟩:=Pd h2;simp only[List.cons.injEq,and_true]at e0 e1 e2;subst e0 e1 e2;exact⟨(n0,n1,n2),rfl,trivial⟩
theorem Y0 {fuel:Nat}{cs:List Value}{x:DataW H×List MemPlace}(h:DataW.trod enc Tryz.prog w base spare held fuel 23 cs=some x):∃A n c xs,cs=[.slice A n c]/\D7 w A n c xs:=by
 obtain⟨A,n,c,m,L,rfl,hL,hc,hr⟩:=Gl Tryz.underlying23 (by rw[show Tryz.prog.cellsOf _=3 from Abc];decide) h;obtain⟨xs,rfl,_⟩:=Gy (g:=Ma) L (fun r hr'=>Ag7 (hr r hr').2.2.choose_spec);rw[show Tryz.prog.cellsOf _=3 from Abc,Gm]at hc;exact⟨A,n,c,xs,rfl,hc,by simpa using hL⟩
theorem Ag8 {fuel:Nat}{r:List Value}{x:DataW H×List MemPlace}(h:DataW.trod enc Tryz.prog w base spare held fuel 38 r=some x):∃s:Cs,r=s.cells/\Js w s:=by
 obtain⟨n,_,hl,hf⟩:=Fp Tryz.underlying38 h;rw[Abd]at hl
 match r,hl with
 |[c0,c1,c2,c3,c4],_=>
  simp only[List.mem_cons,forall_eq_or_imp,List.not_mem_nil,false_implies,implies_true,and_true,Ro,Ag6,Al0,List.drop_zero,List.drop_succ_cons,List.take_succ_cons,List.take_zero]at hf;obtain⟨⟨_,h0⟩,⟨_,h1⟩,⟨_,h2⟩,⟨_,h3⟩,⟨_,h4⟩⟩:=hf;obtain⟨n0,e0,u0⟩:=Lk h0;obtain⟨A,m,c,ps,e1,hp,u1⟩:=Abe h1;obtain⟨n2,e2,u2⟩:=Pd h2;obtain⟨n3,e3,u3⟩:=Pd h3;obtain⟨n4,e4,u4⟩:=Pd h4;simp only[List.cons.injEq,and_true]at e0 e1 e2 e3 e4;subst e0 e1 e2 e3 e4;exact⟨⟨⟨n0,ps,n2,n3,n4⟩,A,m,c⟩,rfl,hp,u0,u2,u3,u4,u1⟩
theorem Y1 {fuel:Nat}{cs:List Value}{x:DataW H×List MemPlace}(h:DataW.trod enc Tryz.prog w base spare held fuel 27 cs=some x):∃A n c xs,cs=[.slice A n c]/\Cm w A n c xs:=by
 obtain⟨A,n,c,m,L,rfl,hL,hc,hr⟩:=Gl Tryz.underlying27 (by rw[show Tryz.prog.cellsOf _=5 from Abd];decide) h;obtain⟨xs,rfl,hx⟩:=Gy (g:=Cs.cells) L (fun r hr'=>Ag8 (hr r hr').2.2.choose_spec);rw[show Tryz.prog.cellsOf _=5 from Abd,Gm]at hc;exact⟨A,n,c,xs,rfl,⟨hc,by simpa using hL⟩,hx⟩
end
section
variable {H:Type}{enc:TypeId×Value->H}{w:World}{base:Nat}{spare:Nat->Bool}{held:Bool}{d:DataW H}{p:List MemPlace}
end
end Go.Proofs.YtaglfmlgbcmakaaGreatDoor
