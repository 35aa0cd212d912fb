/-
  A parameter that is a case of chapter 38 (a map, laws, waves, a word, numbers) is opened.
-/
import Derived.Test.YtaglfmlgbcmakaaGreatDoorG20
import Derived.Test.YtaglfmlgbcmakaaGreatDoorH07
set_option linter.all false
set_option maxRecDepth 100000
set_option maxHeartbeats 4000000
namespace Go.Proofs.YtaglfmlgbcmakaaGreatDoor
open Go.RowKit Go.ChangeShapes Go.WideShapes Go.ChangeAt
theorem Qk {a:Int}(h:(Lit.int .i64 a).wf=true): -9223372036854775808<=a/\a<=9223372036854775807:=by
 simpa[Lit.wf,IntKind.min,IntKind.max,IntKind.signed,IntKind.bits]using h
theorem Jj {α:Type}(g:α->Value):∀l:List α,(l.map fun x=>[g x]).flatten=l.map g
 |[]=>rfl
 |x::l=>by rw[List.map_cons,List.flatten_cons,Jj g l];rfl
section
variable {H:Type}{enc:TypeId×Value->H}{w:World}{base:Nat}{spare:Nat->Bool}{held:Bool}
set_option maxRecDepth 100000
theorem Adk:Tryz.prog.cellsOf 2=1:=by kernel_rfl
theorem Ahj:Tryz.prog.cellsOf 36=1:=by kernel_rfl
theorem Ahk:Tryz.prog.cellsOf 22=1:=by kernel_rfl
theorem Yx:Tryz.prog.cellsOf 64=3:=by kernel_rfl
theorem Af1:Tryz.prog.cellsOf 23=1:=by kernel_rfl
theorem Ahl:Tryz.prog.cellsOf 26=1:=by kernel_rfl
theorem Yy:Tryz.prog.cellsOf 38=5:=by kernel_rfl
theorem Af2:Tryz.prog.cellsOf 27=1:=by kernel_rfl
theorem Aia:Tryz.prog.cellsOf 66=9:=by kernel_rfl
theorem Jk {fuel:Nat}{r:List Value}{x:DataW H×List MemPlace}(h:DataW.trod enc Tryz.prog w base spare held fuel 3 r=some x):∃a:Int,r=[.int .i64 a]∧ -9223372036854775808<=a/\a<=9223372036854775807:=by
 obtain⟨p,e0,_,w0⟩:=DataW.trod_int Tryz.underlying3 h;exact⟨p,e0,Qk w0⟩
theorem L7 {fuel:Nat}{r:List Value}{x:DataW H×List MemPlace}(h:DataW.trod enc Tryz.prog w base spare held fuel 2 r=some x):∃a:Int,r=[.int .i64 a]∧ -9223372036854775808<=a/\a<=9223372036854775807:=by
 obtain⟨p,e0,_,w0⟩:=DataW.trod_int Tryz.underlying2 h;exact⟨p,e0,Qk w0⟩
theorem Yz {fuel:Nat}{cs:List Value}{x:DataW H×List MemPlace}(h:DataW.trod enc Tryz.prog w base spare held fuel 36 cs=some x):∃A n c xs,cs=[.slice A n c]/\Ba w A n c xs∧∀a∈xs, -9223372036854775808<=a/\a<=9223372036854775807:=by
 obtain⟨A,n,c,m,L,rfl,hL,hc,hr⟩:=E3 Tryz.underlying36 (by rw[N0];decide) h;obtain⟨xs,rfl,hq⟩:=Fg (g:=fun a:Int=>[Value.int .i64 a]) L (fun r hr'=>Jk (hr r hr').2.2.choose_spec);rw[N0,Jj]at hc;exact⟨A,n,c,xs,rfl,hc,hq⟩
theorem Af3 {fuel:Nat}{r:List Value}{x:DataW H×List MemPlace}(h:DataW.trod enc Tryz.prog w base spare held fuel 9 r=some x):∃s:ByteArray,r=[.string s]/\s.size<=9223372036854775807:=by
 obtain⟨s,e0,_,hs⟩:=DataW.trod_string Tryz.underlying9 h;exact⟨s,e0,by unfold maxLen at hs;omega⟩
theorem Y0 {fuel:Nat}{cs:List Value}{x:DataW H×List MemPlace}(h:DataW.trod enc Tryz.prog w base spare held fuel 22 cs=some x):∃A n c xs,cs=[.slice A n c]/\Gk w A n c xs∧∀s∈xs,s.size<=9223372036854775807:=by
 obtain⟨A,n,c,m,L,rfl,hL,hc,hr⟩:=E3 Tryz.underlying22 (by rw[Ql];decide) h;obtain⟨xs,rfl,hq⟩:=Fg (g:=fun s:ByteArray=>[Value.string s]) L (fun r hr'=>Af3 (hr r hr').2.2.choose_spec);rw[Ql,Jj]at hc;exact⟨A,n,c,xs,rfl,hc,hq⟩
theorem Adl {fuel:Nat}{r:List Value}{x:DataW H×List MemPlace}(h:DataW.trod enc Tryz.prog w base spare held fuel 64 r=some x):∃s:D2,r=Js s/\True:=by
 obtain⟨n,_,hl,hf⟩:=Ee Tryz.underlying64 h;rw[Yx]at hl
 match r,hl with
 |[c0,c1,c2],_=>
  simp only[List.mem_cons,forall_eq_or_imp,List.not_mem_nil,false_implies,implies_true,and_true,N0,Adk,List.drop_zero,List.drop_succ_cons,List.take_succ_cons,List.take_zero]at hf;obtain⟨⟨_,h0⟩,⟨_,h1⟩,⟨_,h2⟩⟩:=hf;obtain⟨n0,e0,_⟩:=Jk h0;obtain⟨n1,e1,_⟩:=Jk h1;obtain⟨n2,e2,_⟩:=L7 h2;simp only[List.cons.injEq,and_true]at e0 e1 e2;subst e0 e1 e2;exact⟨(n0,n1,n2),rfl,trivial⟩
theorem Wp {fuel:Nat}{cs:List Value}{x:DataW H×List MemPlace}(h:DataW.trod enc Tryz.prog w base spare held fuel 23 cs=some x):∃A n c xs,cs=[.slice A n c]/\Dl w A n c xs:=by
 obtain⟨A,n,c,m,L,rfl,hL,hc,hr⟩:=E3 Tryz.underlying23 (by rw[show Tryz.prog.cellsOf _=3 from Yx];decide) h;obtain⟨xs,rfl,_⟩:=Fg (g:=Js) L (fun r hr'=>Adl (hr r hr').2.2.choose_spec);rw[show Tryz.prog.cellsOf _=3 from Yx,E4]at hc;exact⟨A,n,c,xs,rfl,hc,by simpa using hL⟩
theorem Adm {fuel:Nat}{r:List Value}{x:DataW H×List MemPlace}(h:DataW.trod enc Tryz.prog w base spare held fuel 38 r=some x):∃s:Cr,r=s.cells/\Jh w s:=by
 obtain⟨n,_,hl,hf⟩:=Ee Tryz.underlying38 h;rw[Yy]at hl
 match r,hl with
 |[c0,c1,c2,c3,c4],_=>
  simp only[List.mem_cons,forall_eq_or_imp,List.not_mem_nil,false_implies,implies_true,and_true,N0,Adk,Ahj,List.drop_zero,List.drop_succ_cons,List.take_succ_cons,List.take_zero]at hf;obtain⟨⟨_,h0⟩,⟨_,h1⟩,⟨_,h2⟩,⟨_,h3⟩,⟨_,h4⟩⟩:=hf;obtain⟨n0,e0,u0⟩:=Jk h0;obtain⟨A,m,c,ps,e1,hp,u1⟩:=Yz h1;obtain⟨n2,e2,u2⟩:=L7 h2;obtain⟨n3,e3,u3⟩:=L7 h3;obtain⟨n4,e4,u4⟩:=L7 h4;simp only[List.cons.injEq,and_true]at e0 e1 e2 e3 e4;subst e0 e1 e2 e3 e4;exact⟨⟨⟨n0,ps,n2,n3,n4⟩,A,m,c⟩,rfl,hp,u0,u2,u3,u4,u1⟩
theorem Wq {fuel:Nat}{cs:List Value}{x:DataW H×List MemPlace}(h:DataW.trod enc Tryz.prog w base spare held fuel 27 cs=some x):∃A n c xs,cs=[.slice A n c]/\Ct w A n c xs:=by
 obtain⟨A,n,c,m,L,rfl,hL,hc,hr⟩:=E3 Tryz.underlying27 (by rw[show Tryz.prog.cellsOf _=5 from Yy];decide) h;obtain⟨xs,rfl,hx⟩:=Fg (g:=Cr.cells) L (fun r hr'=>Adm (hr r hr').2.2.choose_spec);rw[show Tryz.prog.cellsOf _=5 from Yy,E4]at hc;exact⟨A,n,c,xs,rfl,⟨hc,by simpa using hL⟩,hx⟩
theorem Ahm {fuel:Nat}{r:List Value}{x:DataW H×List MemPlace}(h:DataW.trod enc Tryz.prog w base spare held fuel 66 r=some x):∃s:EdR,r=s.cells/\M5 w s:=by
 obtain⟨n,_,hl,hf⟩:=Ee Tryz.underlying66 h;rw[Aia]at hl
 match r,hl with
 |[c0,c1,c2,c3,c4,c5,c6,c7,c8],_=>
  simp only[List.mem_cons,forall_eq_or_imp,List.not_mem_nil,false_implies,implies_true,and_true,N0,Adk,Ahk,Af1,Ahl,Af2,Adn,List.drop_zero,List.drop_succ_cons,List.take_succ_cons,List.take_zero]at hf;obtain⟨⟨_,h0⟩,⟨_,h1⟩,⟨_,h2⟩,⟨_,h3⟩,⟨_,h4⟩,⟨_,h5⟩,⟨_,h6⟩,⟨_,h7⟩,⟨_,h8⟩⟩:=hf;obtain⟨A0,m0,d0,l0,e0,p0,z0⟩:=Y0 h0;obtain⟨A1,m1,d1,l1,e1,p1⟩:=Wp h1;obtain⟨A2,m2,d2,l2,e2,p2⟩:=Y4 h2;obtain⟨A3,m3,d3,l3,e3,p3⟩:=Wq h3;obtain⟨A4,m4,d4,l4,e4,p4⟩:=Qm h4;obtain⟨n5,e5,u5⟩:=Jk h5;obtain⟨n6,e6,u6⟩:=Jk h6;obtain⟨n7,e7,u7⟩:=Jk h7;obtain⟨n8,e8,u8⟩:=L7 h8;simp only[List.cons.injEq,and_true]at e0 e1 e2 e3 e4 e5 e6 e7 e8;subst e0 e1 e2 e3 e4 e5 e6 e7 e8;exact⟨⟨A0,m0,d0,l0,A1,m1,d1,l1,A2,m2,d2,l2,A3,m3,d3,l3,A4,m4,d4,l4,n5,n6,n7,n8⟩,rfl,p0,p1,p2,p3,p4,u8,z0⟩
end
section
variable {H:Type}{enc:TypeId×Value->H}{w:World}{base:Nat}{spare:Nat->Bool}{held:Bool}{d:DataW H}{p:List MemPlace}
theorem L8 {cs:Array Value}(h:DataW.Trod enc Tryz.prog w base spare held 66 (.agg cs) d p):∃x:EdR,cs= #[.slice x.An x.nn x.cn, .slice x.Ar x.nr x.cr, .slice x.Al x.nl x.cl, .slice x.Av x.nv x.cv, .slice x.Aw x.nw x.cw, .int .i64 x.a, .int .i64 x.i, .int .i64 x.j, .int .i64 x.now]/\M5 w x:=by
 obtain⟨_,hf⟩:=h;obtain⟨x,e,hx⟩:=Ahm hf;refine⟨x, ?_,hx⟩;apply Array.ext';simpa[Value.cells,EdR.cells]using e
end
end Go.Proofs.YtaglfmlgbcmakaaGreatDoor
