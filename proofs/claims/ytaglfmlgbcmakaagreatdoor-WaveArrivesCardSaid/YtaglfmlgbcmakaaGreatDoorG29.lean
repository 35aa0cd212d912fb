/-
  Arguments are read, with the ranges of their numbers.
-/
import Derived.Test.YtaglfmlgbcmakaaGreatDoorG28
import Derived.Test.YtaglfmlgbcmakaaGreatDoorG53
set_option linter.all false
set_option maxRecDepth 100000
set_option maxHeartbeats 4000000
namespace Go.Proofs.YtaglfmlgbcmakaaGreatDoor
open Go.RowKit Go.ChangeShapes Go.WideShapes
theorem Ag7:∀ps:List Mc,(∀p∈ps,NdU p.k/\FoU p.ch)->FoU (Aa7 ps)
 |[],_=>trivial
 |p::ps,h=>⟨(h p (by simp)).1,(h p (by simp)).2,Ag7 ps fun q hq=>h q (by simp[hq])⟩
section
variable {H:Type}{enc:TypeId×Value->H}{w:World}{base:Nat}{spare:Nat->Bool}{held:Bool}
set_option maxRecDepth 100000
theorem Ag8 {fuel:Nat}{r:List Value}{x:DataW H×List MemPlace}(h:DataW.trod enc Tryz.prog w base spare held fuel 104 r=some x):∃s:Fe,r=s.cells/\Al0 s:=by
 obtain⟨n,_,hl,hf⟩:=C9 Tryz.underlying104 h;rw[Uu]at hl
 match r,hl with
 |[c0,c1,c2,c3,c4,c5],_=>
  simp only[List.mem_cons,forall_eq_or_imp,List.not_mem_nil,false_implies,implies_true,and_true,Acw,K0,L0,List.drop_zero,List.drop_succ_cons,List.take_succ_cons,List.take_zero]at hf;obtain⟨⟨_,h0⟩,⟨_,h1⟩,⟨_,h2⟩,⟨_,h3⟩,⟨_,h4⟩⟩:=hf;obtain⟨n0,e0,_⟩:=DataW.trod_int Tryz.underlying3 h0;obtain⟨n1,e1,_,w1⟩:=DataW.trod_int Tryz.underlying47 h1;obtain⟨n2,e2,w2⟩:=Md h2;obtain⟨n3,e3,_,w3⟩:=DataW.trod_int Tryz.underlying47 h3;obtain⟨n4,e4,_⟩:=DataW.trod_int Tryz.underlying3 h4;simp only[List.cons.injEq,and_true,Nf]at e0 e1 e2 e3 e4;obtain⟨rfl,rfl⟩:=e2;subst e0 e1 e3 e4;exact⟨⟨n0,n1,n2.1,n2.2,n3,n4⟩,rfl,Kb w1,w2.1,w2.2,Kb w3⟩
theorem Yv {fuel:Nat}{cs:List Value}{x:DataW H×List MemPlace}(h:DataW.trod enc Tryz.prog w base spare held fuel 53 cs=some x):∃A n c xs,cs=[.slice A n c]/\Cr Fe.cells 6 w A n c xs∧∀x∈xs,Al0 x:=by
 obtain⟨A,n,c,m,L,rfl,hL,hc,hr⟩:=Eb Tryz.underlying53 (by rw[show Tryz.prog.cellsOf _=6 from Uu];decide) h;obtain⟨xs,rfl,hq⟩:=Em (g:=Fe.cells) L (fun r hr'=>Ag8 (hr r hr').2.2.choose_spec);rw[show Tryz.prog.cellsOf _=6 from Uu,Ee]at hc;exact⟨A,n,c,xs,rfl,⟨hc,by simpa using hL⟩,hq⟩
theorem Uw {fuel:Nat}(ih:∀(f:Nat) (cs:List Value) (x:DataW H×List MemPlace),f<fuel->DataW.trod enc Tryz.prog w base spare held f 50 cs=some x→∃A n c fo,cs=[.slice A n c]/\FSl w A n c fo/\FoU fo)
  {r:List Value} {x:DataW H×List MemPlace} (h:DataW.trod enc Tryz.prog w base spare held fuel 52 r=some x):∃p:Mc,r=p.cells/\FSl w p.A p.ch.len p.c p.ch/\NdU p.k/\FoU p.ch:=by
 obtain⟨n,hn,hl,hf⟩:=C9 Tryz.underlying52 h;rw[Qd]at hl
 match r,hl with
 |[c0,c1,c2,c3,c4,c5,c6],_=>
  simp only[List.mem_cons,forall_eq_or_imp,List.not_mem_nil,false_implies,implies_true,and_true,K0,L0,Ag4,Ag5,List.drop_zero,List.drop_succ_cons,List.take_succ_cons,List.take_zero]at hf;obtain⟨⟨_,h0⟩,⟨_,h1⟩,⟨_,h2⟩,⟨_,h3⟩,⟨_,h4⟩,⟨_,h5⟩⟩:=hf;obtain⟨n0,e0,_⟩:=DataW.trod_int Tryz.underlying3 h0;obtain⟨n1,e1,w1⟩:=Md h1;obtain⟨n2,e2,_⟩:=DataW.trod_bool Tryz.underlying4 h2;obtain⟨n3,e3,_⟩:=DataW.trod_int Tryz.underlying3 h3;obtain⟨n4,e4,_⟩:=DataW.trod_int Tryz.underlying3 h4;obtain⟨A,m,c,fo,e5,a0,a1⟩:=ih n _ _ hn h5;simp only[List.cons.injEq,and_true,Nf]at e0 e1 e2 e3 e4 e5;obtain⟨rfl,rfl⟩:=e1;subst e0 e2 e3 e4 e5;obtain rfl:=a0.1.1;exact⟨⟨⟨n0,n1.1,n1.2,n2,n3,n4⟩,A,c,fo⟩,rfl,a0,w1,a1⟩
theorem Yw:∀(fuel:Nat) (cs:List Value) (x:DataW H×List MemPlace),DataW.trod enc Tryz.prog w base spare held fuel 50 cs=some x→∃A n c fo,cs=[.slice A n c]/\FSl w A n c fo/\FoU fo:=by
 intro fuel
 induction fuel using Nat.strongRecOn with
 |ind fuel ih=>
  intro cs x h;obtain⟨A,n,c,m,L,rfl,hL,hc,hr⟩:=Eb Tryz.underlying50 (by rw[show Tryz.prog.cellsOf _=7 from Qd];decide) h;obtain⟨ps,rfl,hp⟩:=Em (g:=Mc.cells) L (fun r hr'=>Uw (fun f cs x hf hx=>ih f (Nat.lt_trans hf (hr r hr').1) cs x hx) (hr r hr').2.2.choose_spec)
  rw[show Tryz.prog.cellsOf _=7 from Qd,Ee]at hc;obtain rfl:ps.length=n:=by simpa using hL
  refine⟨A,_,c,Aa7 ps,rfl,⟨⟨(Se ps).symm,hc.2.1,hc.2.2.1,hc.2.2.2.1⟩, ?_⟩,Ag7 ps fun p hp'=>(hp p hp').2⟩
  cases ps with
  |nil=>trivial
  |cons p ps=>
   obtain⟨b,off,rfl,hb,a0⟩:=hc.2.2.2.2 (by simp);exact Aa8 hb _ 0 (fun j v hv=>by rw[show off+0*7+j=off+j by omega];exact a0 j v hv) fun p hp'=>(hp p hp').1
theorem Yx {fuel:Nat}{r:List Value}{x:DataW H×List MemPlace}(h:DataW.trod enc Tryz.prog w base spare held fuel 52 r=some x):∃p:Mc,r=p.cells/\FSl w p.A p.ch.len p.c p.ch/\NdU p.k/\FoU p.ch:=
 Uw (fun f cs x _ hx=>Yw f cs x hx) h
theorem Ag9 {fuel:Nat}{r:List Value}{x:DataW H×List MemPlace}(h:DataW.trod enc Tryz.prog w base spare held fuel 55 r=some x):∃l:Bj,r=l.cells/\Ew w l.l l.a/\Ake l.l:=by
 obtain⟨n,hn,hl,hf⟩:=C9 Tryz.underlying55 h;rw[Uv]at hl
 match r,hl with
 |[c0,c1,c2,c3,c4,c5,c6,c7,c8,c9,c10,c11,c12,c13,c14,c15,c16,c17],_=>
  simp only[List.mem_cons,forall_eq_or_imp,List.not_mem_nil,false_implies,implies_true,and_true,K0,Ng,Qd,Aa5,Ag6,List.drop_zero,List.drop_succ_cons,List.take_succ_cons,List.take_zero]at hf;obtain⟨⟨_,h0⟩,⟨_,h1⟩,⟨_,h2⟩,⟨_,h3⟩,⟨_,h4⟩,⟨_,h5⟩⟩:=hf;obtain⟨n0,e0,_,hs⟩:=DataW.trod_string Tryz.underlying9 h0;obtain⟨p,e1,hp,up⟩:=Yx h1;obtain⟨q,e2,hq,uq⟩:=Yx h2;obtain⟨Ai,mi,ci,is,e3,hi,ui⟩:=Qe h3;obtain⟨Ao,mo,co,os,e4,ho,uo⟩:=Yv h4;obtain⟨n5,e5,_⟩:=DataW.trod_int Tryz.underlying3 h5;simp only[List.cons.injEq,and_true,Mc.cells,Ca]at e0 e1 e2 e3 e4 e5;obtain⟨rfl,rfl,rfl,rfl,rfl,rfl,rfl⟩:=e1;obtain⟨rfl,rfl,rfl,rfl,rfl,rfl,rfl⟩:=e2;subst e0 e3 e4 e5;obtain rfl:=hi.len;obtain rfl:=ho.2;have a0:n0.size<=9223372036854775807:=by unfold maxLen at hs;omega
  exact⟨⟨⟨n0,(p.k,p.ch),(q.k,q.ch),is,os,n5⟩,⟨p.A,p.c,q.A,q.c,Ai,ci,Ao,co⟩⟩,rfl,⟨hp,hq,hi,ho,a0⟩,up.1,up.2,uq.1,uq.2,ui,uo⟩
theorem Yy {fuel:Nat}{cs:List Value}{x:DataW H×List MemPlace}(h:DataW.trod enc Tryz.prog w base spare held fuel 26 cs=some x):∃A n c xs,cs=[.slice A n c]/\Br w A n c xs/\St xs:=by
 obtain⟨A,n,c,m,L,rfl,hL,hc,hr⟩:=Eb Tryz.underlying26 (by rw[show Tryz.prog.cellsOf _=18 from Uv];decide) h;obtain⟨xs,rfl,hx⟩:=Em (g:=Bj.cells) L (fun r hr'=>Ag9 (hr r hr').2.2.choose_spec);rw[show Tryz.prog.cellsOf _=18 from Uv,Ee]at hc;exact⟨A,n,c,xs,rfl,⟨⟨hc,by simpa using hL⟩,fun x h=>(hx x h).1⟩,fun x h=>(hx x h).2⟩
end
section
variable {H:Type}{enc:TypeId×Value->H}{w:World}{base:Nat}{spare:Nat->Bool}{held:Bool}{A:Option Addr}{n c:Nat}{d:DataW H}{p:List MemPlace}
end
end Go.Proofs.YtaglfmlgbcmakaaGreatDoor
