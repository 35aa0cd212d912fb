/-
  Arguments are read, with the ranges of their numbers.
-/
import Derived.Test.YtlgliddhideflaaGreatDoorG28
import Derived.Test.YtlgliddhideflaaGreatDoorG53
set_option linter.all false
set_option maxRecDepth 100000
set_option maxHeartbeats 4000000
namespace Go.Proofs.YtlgliddhideflaaGreatDoor
open Go.RowKit Go.ChangeShapes Go.WideShapes
theorem Ai3:∀ps:List Vr,(∀p∈ps,NdU p.k/\FoU p.ch)->FoU (Aga ps)
 |[],_=>trivial
 |p::ps,h=>⟨(h p (by simp)).1,(h p (by simp)).2,Ai3 ps fun q hq=>h q (by simp[hq])⟩
section
variable {H:Type}{enc:TypeId×Value->H}{w:World}{base:Nat}{spare:Nat->Bool}{held:Bool}
set_option maxRecDepth 100000
theorem Ai4 {fuel:Nat}{r:List Value}{x:DataW H×List MemPlace}(h:DataW.trod enc Tryz.prog w base spare held fuel 30 r=some x):∃s:Fe,r=s.cells/\Al0 s:=by
 obtain⟨n,_,hl,hf⟩:=Ko Tryz.underlying30 h;rw[Ai0]at hl
 match r,hl with
 |[c0,c1,c2,c3,c4,c5],_=>
  simp only[List.mem_cons,forall_eq_or_imp,List.not_mem_nil,false_implies,implies_true,and_true,Amn,Aiy,Abc,List.drop_zero,List.drop_succ_cons,List.take_succ_cons,List.take_zero]at hf;obtain⟨⟨_,h0⟩,⟨_,h1⟩,⟨_,h2⟩,⟨_,h3⟩,⟨_,h4⟩⟩:=hf;obtain⟨n0,e0,_⟩:=DataW.trod_int Tryz.underlying3 h0;obtain⟨n1,e1,_,w1⟩:=DataW.trod_int Tryz.underlying22 h1;obtain⟨n2,e2,w2⟩:=Pe h2;obtain⟨n3,e3,_,w3⟩:=DataW.trod_int Tryz.underlying22 h3;obtain⟨n4,e4,_⟩:=DataW.trod_int Tryz.underlying3 h4;simp only[List.cons.injEq,and_true,Abb]at e0 e1 e2 e3 e4;obtain⟨rfl,rfl⟩:=e2;subst e0 e1 e3 e4;exact⟨⟨n0,n1,n2.1,n2.2,n3,n4⟩,rfl,Mb w1,w2.1,w2.2,Mb w3⟩
theorem Abe {fuel:Nat}{cs:List Value}{x:DataW H×List MemPlace}(h:DataW.trod enc Tryz.prog w base spare held fuel 31 cs=some x):∃A n c xs,cs=[.slice A n c]/\Gz Fe.cells 6 w A n c xs∧∀x∈xs,Al0 x:=by
 obtain⟨A,n,c,m,L,rfl,hL,hc,hr⟩:=Nf Tryz.underlying31 (by rw[show Tryz.prog.cellsOf _=6 from Ai0];decide) h;obtain⟨xs,rfl,hq⟩:=My (g:=Fe.cells) L (fun r hr'=>Ai4 (hr r hr').2.2.choose_spec);rw[show Tryz.prog.cellsOf _=6 from Ai0,Kp]at hc;exact⟨A,n,c,xs,rfl,⟨hc,by simpa using hL⟩,hq⟩
theorem Yc {fuel:Nat}(ih:∀(f:Nat) (cs:List Value) (x:DataW H×List MemPlace),f<fuel->DataW.trod enc Tryz.prog w base spare held f 25 cs=some x→∃A n c fo,cs=[.slice A n c]/\FSl w A n c fo/\FoU fo)
  {r:List Value} {x:DataW H×List MemPlace} (h:DataW.trod enc Tryz.prog w base spare held fuel 27 r=some x):∃p:Vr,r=p.cells/\FSl w p.A p.ch.len p.c p.ch/\NdU p.k/\FoU p.ch:=by
 obtain⟨n,hn,hl,hf⟩:=Ko Tryz.underlying27 h;rw[Ae8]at hl
 match r,hl with
 |[c0,c1,c2,c3,c4,c5,c6],_=>
  simp only[List.mem_cons,forall_eq_or_imp,List.not_mem_nil,false_implies,implies_true,and_true,Aiy,Abc,Am4,Am5,List.drop_zero,List.drop_succ_cons,List.take_succ_cons,List.take_zero]at hf;obtain⟨⟨_,h0⟩,⟨_,h1⟩,⟨_,h2⟩,⟨_,h3⟩,⟨_,h4⟩,⟨_,h5⟩⟩:=hf;obtain⟨n0,e0,_⟩:=DataW.trod_int Tryz.underlying3 h0;obtain⟨n1,e1,w1⟩:=Pe h1;obtain⟨n2,e2,_⟩:=DataW.trod_bool Tryz.underlying4 h2;obtain⟨n3,e3,_⟩:=DataW.trod_int Tryz.underlying3 h3;obtain⟨n4,e4,_⟩:=DataW.trod_int Tryz.underlying3 h4;obtain⟨A,m,c,fo,e5,a0,a1⟩:=ih n _ _ hn h5;simp only[List.cons.injEq,and_true,Abb]at e0 e1 e2 e3 e4 e5;obtain⟨rfl,rfl⟩:=e1;subst e0 e2 e3 e4 e5;obtain rfl:=a0.1.1;exact⟨⟨⟨n0,n1.1,n1.2,n2,n3,n4⟩,A,c,fo⟩,rfl,a0,w1,a1⟩
theorem Abf:∀(fuel:Nat) (cs:List Value) (x:DataW H×List MemPlace),DataW.trod enc Tryz.prog w base spare held fuel 25 cs=some x→∃A n c fo,cs=[.slice A n c]/\FSl w A n c fo/\FoU fo:=by
 intro fuel
 induction fuel using Nat.strongRecOn with
 |ind fuel ih=>
  intro cs x h;obtain⟨A,n,c,m,L,rfl,hL,hc,hr⟩:=Nf Tryz.underlying25 (by rw[show Tryz.prog.cellsOf _=7 from Ae8];decide) h;obtain⟨ps,rfl,hp⟩:=My (g:=Vr.cells) L (fun r hr'=>Yc (fun f cs x hf hx=>ih f (Nat.lt_trans hf (hr r hr').1) cs x hx) (hr r hr').2.2.choose_spec)
  rw[show Tryz.prog.cellsOf _=7 from Ae8,Kp]at hc;obtain rfl:ps.length=n:=by simpa using hL
  refine⟨A,_,c,Aga ps,rfl,⟨⟨(Abd ps).symm,hc.2.1,hc.2.2.1,hc.2.2.2.1⟩, ?_⟩,Ai3 ps fun p hp'=>(hp p hp').2⟩
  cases ps with
  |nil=>trivial
  |cons p ps=>
   obtain⟨b,off,rfl,hb,a0⟩:=hc.2.2.2.2 (by simp);exact Ai2 hb _ 0 (fun j v hv=>by rw[show off+0*7+j=off+j by omega];exact a0 j v hv) fun p hp'=>(hp p hp').1
theorem Abg {fuel:Nat}{r:List Value}{x:DataW H×List MemPlace}(h:DataW.trod enc Tryz.prog w base spare held fuel 27 r=some x):∃p:Vr,r=p.cells/\FSl w p.A p.ch.len p.c p.ch/\NdU p.k/\FoU p.ch:=
 Yc (fun f cs x _ hx=>Abf f cs x hx) h
theorem Abh {fuel:Nat}{r:List Value}{x:DataW H×List MemPlace}(h:DataW.trod enc Tryz.prog w base spare held fuel 34 r=some x):∃l:Co,r=l.cells/\Cv w l.l l.a/\Lb l.l:=by
 obtain⟨n,hn,hl,hf⟩:=Ko Tryz.underlying34 h;rw[Ai1]at hl
 match r,hl with
 |[c0,c1,c2,c3,c4,c5,c6,c7,c8,c9,c10,c11,c12,c13,c14,c15,c16,c17],_=>
  simp only[List.mem_cons,forall_eq_or_imp,List.not_mem_nil,false_implies,implies_true,and_true,Aiy,Aiz,Ae8,Am7,Am6,List.drop_zero,List.drop_succ_cons,List.take_succ_cons,List.take_zero]at hf;obtain⟨⟨_,h0⟩,⟨_,h1⟩,⟨_,h2⟩,⟨_,h3⟩,⟨_,h4⟩,⟨_,h5⟩⟩:=hf;obtain⟨n0,e0,_,hs⟩:=DataW.trod_string Tryz.underlying9 h0;obtain⟨p,e1,hp,up⟩:=Abg h1;obtain⟨q,e2,hq,uq⟩:=Abg h2;obtain⟨Ai,mi,ci,is,e3,hi,ui⟩:=Tk h3;obtain⟨Ao,mo,co,os,e4,ho,uo⟩:=Abe h4;obtain⟨n5,e5,_⟩:=DataW.trod_int Tryz.underlying3 h5;simp only[List.cons.injEq,and_true,Vr.cells,B6]at e0 e1 e2 e3 e4 e5;obtain⟨rfl,rfl,rfl,rfl,rfl,rfl,rfl⟩:=e1;obtain⟨rfl,rfl,rfl,rfl,rfl,rfl,rfl⟩:=e2;subst e0 e3 e4 e5;obtain rfl:=hi.len;obtain rfl:=ho.2;have a0:n0.size<=9223372036854775807:=by unfold maxLen at hs;omega
  exact⟨⟨⟨n0,(p.k,p.ch),(q.k,q.ch),is,os,n5⟩,⟨p.A,p.c,q.A,q.c,Ai,ci,Ao,co⟩⟩,rfl,⟨hp,hq,hi,ho,a0⟩,up.1,up.2,uq.1,uq.2,ui,uo⟩
theorem Abi {fuel:Nat}{cs:List Value}{x:DataW H×List MemPlace}(h:DataW.trod enc Tryz.prog w base spare held fuel 35 cs=some x):∃A n c xs,cs=[.slice A n c]/\B4 w A n c xs/\Jj xs:=by
 obtain⟨A,n,c,m,L,rfl,hL,hc,hr⟩:=Nf Tryz.underlying35 (by rw[show Tryz.prog.cellsOf _=18 from Ai1];decide) h;obtain⟨xs,rfl,hx⟩:=My (g:=Co.cells) L (fun r hr'=>Abh (hr r hr').2.2.choose_spec);rw[show Tryz.prog.cellsOf _=18 from Ai1,Kp]at hc;exact⟨A,n,c,xs,rfl,⟨⟨hc,by simpa using hL⟩,fun x h=>(hx x h).1⟩,fun x h=>(hx x h).2⟩
end
section
variable {H:Type}{enc:TypeId×Value->H}{w:World}{base:Nat}{spare:Nat->Bool}{held:Bool}{A:Option Addr}{n c:Nat}{d:DataW H}{p:List MemPlace}
theorem Vs (h:DataW.Trod enc Tryz.prog w base spare held 35 (.slice A n c) d p):∃xs,B4 w A n c xs/\Jj xs:=by
 obtain⟨_,hf⟩:=h;obtain⟨A',n',c',xs,e,hx⟩:=Abi hf;simp[Value.cells]at e;obtain⟨rfl,rfl,rfl⟩:=e;exact⟨xs,hx⟩
end
end Go.Proofs.YtlgliddhideflaaGreatDoor
