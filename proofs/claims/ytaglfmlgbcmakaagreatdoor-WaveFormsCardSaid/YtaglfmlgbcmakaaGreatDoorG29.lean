/-
  Arguments are read, with the ranges of their numbers.
-/
import Derived.Test.YtaglfmlgbcmakaaGreatDoorG28
import Derived.Test.YtaglfmlgbcmakaaGreatDoorG53
set_option linter.all false
set_option maxRecDepth 100000
set_option maxHeartbeats 4000000
namespace Go.Proofs.YtaglfmlgbcmakaaGreatDoor
open Go.RowKit Go.ChangeShapes Go.WideShapes
theorem Ahe:∀ps:List S3,(∀p∈ps,NdU p.k/\FoU p.ch)->FoU (Ad1 ps)
 |[],_=>trivial
 |p::ps,h=>⟨(h p (by simp)).1,(h p (by simp)).2,Ahe ps fun q hq=>h q (by simp[hq])⟩
section
variable {H:Type}{enc:TypeId×Value->H}{w:World}{base:Nat}{spare:Nat->Bool}{held:Bool}
set_option maxRecDepth 100000
theorem Ahf {fuel:Nat}{r:List Value}{x:DataW H×List MemPlace}(h:DataW.trod enc Tryz.prog w base spare held fuel 104 r=some x):∃s:Fj,r=s.cells/\Akv s:=by
 obtain⟨n,_,hl,hf⟩:=Fp Tryz.underlying104 h;rw[Ahb]at hl
 match r,hl with
 |[c0,c1,c2,c3,c4,c5],_=>
  simp only[List.mem_cons,forall_eq_or_imp,List.not_mem_nil,false_implies,implies_true,and_true,Alm,Ro,Y4,List.drop_zero,List.drop_succ_cons,List.take_succ_cons,List.take_zero]at hf;obtain⟨⟨_,h0⟩,⟨_,h1⟩,⟨_,h2⟩,⟨_,h3⟩,⟨_,h4⟩⟩:=hf;obtain⟨n0,e0,_⟩:=DataW.trod_int Tryz.underlying3 h0;obtain⟨n1,e1,_,w1⟩:=DataW.trod_int Tryz.underlying47 h1;obtain⟨n2,e2,w2⟩:=Nq h2;obtain⟨n3,e3,_,w3⟩:=DataW.trod_int Tryz.underlying47 h3;obtain⟨n4,e4,_⟩:=DataW.trod_int Tryz.underlying3 h4;simp only[List.cons.injEq,and_true,Y2]at e0 e1 e2 e3 e4;obtain⟨rfl,rfl⟩:=e2;subst e0 e1 e3 e4;exact⟨⟨n0,n1,n2.1,n2.2,n3,n4⟩,rfl,Ll w1,w2.1,w2.2,Ll w3⟩
theorem Y6 {fuel:Nat}{cs:List Value}{x:DataW H×List MemPlace}(h:DataW.trod enc Tryz.prog w base spare held fuel 53 cs=some x):∃A n c xs,cs=[.slice A n c]/\Eb Fj.cells 6 w A n c xs∧∀x∈xs,Akv x:=by
 obtain⟨A,n,c,m,L,rfl,hL,hc,hr⟩:=Gl Tryz.underlying53 (by rw[show Tryz.prog.cellsOf _=6 from Ahb];decide) h;obtain⟨xs,rfl,hq⟩:=Gy (g:=Fj.cells) L (fun r hr'=>Ahf (hr r hr').2.2.choose_spec);rw[show Tryz.prog.cellsOf _=6 from Ahb,Gm]at hc;exact⟨A,n,c,xs,rfl,⟨hc,by simpa using hL⟩,hq⟩
theorem Vh {fuel:Nat}(ih:∀(f:Nat) (cs:List Value) (x:DataW H×List MemPlace),f<fuel->DataW.trod enc Tryz.prog w base spare held f 50 cs=some x→∃A n c fo,cs=[.slice A n c]/\FSl w A n c fo/\FoU fo)
  {r:List Value} {x:DataW H×List MemPlace} (h:DataW.trod enc Tryz.prog w base spare held fuel 52 r=some x):∃p:S3,r=p.cells/\FSl w p.A p.ch.len p.c p.ch/\NdU p.k/\FoU p.ch:=by
 obtain⟨n,hn,hl,hf⟩:=Fp Tryz.underlying52 h;rw[Acy]at hl
 match r,hl with
 |[c0,c1,c2,c3,c4,c5,c6],_=>
  simp only[List.mem_cons,forall_eq_or_imp,List.not_mem_nil,false_implies,implies_true,and_true,Ro,Y4,Al3,Al4,List.drop_zero,List.drop_succ_cons,List.take_succ_cons,List.take_zero]at hf;obtain⟨⟨_,h0⟩,⟨_,h1⟩,⟨_,h2⟩,⟨_,h3⟩,⟨_,h4⟩,⟨_,h5⟩⟩:=hf;obtain⟨n0,e0,_⟩:=DataW.trod_int Tryz.underlying3 h0;obtain⟨n1,e1,w1⟩:=Nq h1;obtain⟨n2,e2,_⟩:=DataW.trod_bool Tryz.underlying4 h2;obtain⟨n3,e3,_⟩:=DataW.trod_int Tryz.underlying3 h3;obtain⟨n4,e4,_⟩:=DataW.trod_int Tryz.underlying3 h4;obtain⟨A,m,c,fo,e5,a0,a1⟩:=ih n _ _ hn h5;simp only[List.cons.injEq,and_true,Y2]at e0 e1 e2 e3 e4 e5;obtain⟨rfl,rfl⟩:=e1;subst e0 e2 e3 e4 e5;obtain rfl:=a0.1.1;exact⟨⟨⟨n0,n1.1,n1.2,n2,n3,n4⟩,A,c,fo⟩,rfl,a0,w1,a1⟩
theorem Y7:∀(fuel:Nat) (cs:List Value) (x:DataW H×List MemPlace),DataW.trod enc Tryz.prog w base spare held fuel 50 cs=some x→∃A n c fo,cs=[.slice A n c]/\FSl w A n c fo/\FoU fo:=by
 intro fuel
 induction fuel using Nat.strongRecOn with
 |ind fuel ih=>
  intro cs x h;obtain⟨A,n,c,m,L,rfl,hL,hc,hr⟩:=Gl Tryz.underlying50 (by rw[show Tryz.prog.cellsOf _=7 from Acy];decide) h;obtain⟨ps,rfl,hp⟩:=Gy (g:=S3.cells) L (fun r hr'=>Vh (fun f cs x hf hx=>ih f (Nat.lt_trans hf (hr r hr').1) cs x hx) (hr r hr').2.2.choose_spec)
  rw[show Tryz.prog.cellsOf _=7 from Acy,Gm]at hc;obtain rfl:ps.length=n:=by simpa using hL
  refine⟨A,_,c,Ad1 ps,rfl,⟨⟨(Y5 ps).symm,hc.2.1,hc.2.2.1,hc.2.2.2.1⟩, ?_⟩,Ahe ps fun p hp'=>(hp p hp').2⟩
  cases ps with
  |nil=>trivial
  |cons p ps=>
   obtain⟨b,off,rfl,hb,a0⟩:=hc.2.2.2.2 (by simp);exact Ahd hb _ 0 (fun j v hv=>by rw[show off+0*7+j=off+j by omega];exact a0 j v hv) fun p hp'=>(hp p hp').1
theorem Y8 {fuel:Nat}{r:List Value}{x:DataW H×List MemPlace}(h:DataW.trod enc Tryz.prog w base spare held fuel 52 r=some x):∃p:S3,r=p.cells/\FSl w p.A p.ch.len p.c p.ch/\NdU p.k/\FoU p.ch:=
 Vh (fun f cs x _ hx=>Y7 f cs x hx) h
theorem Ahg {fuel:Nat}{r:List Value}{x:DataW H×List MemPlace}(h:DataW.trod enc Tryz.prog w base spare held fuel 55 r=some x):∃l:Cb,r=l.cells/\Df w l.l l.a/\Ps l.l:=by
 obtain⟨n,hn,hl,hf⟩:=Fp Tryz.underlying55 h;rw[Ahc]at hl
 match r,hl with
 |[c0,c1,c2,c3,c4,c5,c6,c7,c8,c9,c10,c11,c12,c13,c14,c15,c16,c17],_=>
  simp only[List.mem_cons,forall_eq_or_imp,List.not_mem_nil,false_implies,implies_true,and_true,Ro,S2,Acy,Aha,Al5,List.drop_zero,List.drop_succ_cons,List.take_succ_cons,List.take_zero]at hf;obtain⟨⟨_,h0⟩,⟨_,h1⟩,⟨_,h2⟩,⟨_,h3⟩,⟨_,h4⟩,⟨_,h5⟩⟩:=hf;obtain⟨n0,e0,_,hs⟩:=DataW.trod_string Tryz.underlying9 h0;obtain⟨p,e1,hp,up⟩:=Y8 h1;obtain⟨q,e2,hq,uq⟩:=Y8 h2;obtain⟨Ai,mi,ci,is,e3,hi,ui⟩:=Rp h3;obtain⟨Ao,mo,co,os,e4,ho,uo⟩:=Y6 h4;obtain⟨n5,e5,_⟩:=DataW.trod_int Tryz.underlying3 h5;simp only[List.cons.injEq,and_true,S3.cells,Cx]at e0 e1 e2 e3 e4 e5;obtain⟨rfl,rfl,rfl,rfl,rfl,rfl,rfl⟩:=e1;obtain⟨rfl,rfl,rfl,rfl,rfl,rfl,rfl⟩:=e2;subst e0 e3 e4 e5;obtain rfl:=hi.len;obtain rfl:=ho.2;have a0:n0.size<=9223372036854775807:=by unfold maxLen at hs;omega
  exact⟨⟨⟨n0,(p.k,p.ch),(q.k,q.ch),is,os,n5⟩,⟨p.A,p.c,q.A,q.c,Ai,ci,Ao,co⟩⟩,rfl,⟨hp,hq,hi,ho,a0⟩,up.1,up.2,uq.1,uq.2,ui,uo⟩
theorem Y9 {fuel:Nat}{cs:List Value}{x:DataW H×List MemPlace}(h:DataW.trod enc Tryz.prog w base spare held fuel 26 cs=some x):∃A n c xs,cs=[.slice A n c]/\Cf w A n c xs/\Pm xs:=by
 obtain⟨A,n,c,m,L,rfl,hL,hc,hr⟩:=Gl Tryz.underlying26 (by rw[show Tryz.prog.cellsOf _=18 from Ahc];decide) h;obtain⟨xs,rfl,hx⟩:=Gy (g:=Cb.cells) L (fun r hr'=>Ahg (hr r hr').2.2.choose_spec);rw[show Tryz.prog.cellsOf _=18 from Ahc,Gm]at hc;exact⟨A,n,c,xs,rfl,⟨⟨hc,by simpa using hL⟩,fun x h=>(hx x h).1⟩,fun x h=>(hx x h).2⟩
end
section
variable {H:Type}{enc:TypeId×Value->H}{w:World}{base:Nat}{spare:Nat->Bool}{held:Bool}{A:Option Addr}{n c:Nat}{d:DataW H}{p:List MemPlace}
end
end Go.Proofs.YtaglfmlgbcmakaaGreatDoor
