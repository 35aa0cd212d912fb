/-
  The examples of chapter 11 hold.
-/
import Derived.Test.YtlgliddhideflaaGreatDoorH06
import Derived.Test.YtlgliddhideflaaGreatDoorXWs11
set_option linter.all false
set_option maxRecDepth 100000
set_option maxHeartbeats 4000000
namespace Go.Proofs.YtlgliddhideflaaGreatDoor
open Go.RowKit Go.Shelf
theorem Wi {P:Program}{ops:Array Oper}{Q:Exit->Act->World->Prop}{md:Region.Mode}{S:World->Prop}{i j l:Nat}{oi oj ol:Oper}{fuel:Nat}{listed:Array Bool}{a:Act}{w:World}(hr:Region.ready md ops listed=[i,j,l])(hi:ops[i]? =some oi)(hj:ops[j]? =some oj)(hl:ops[l]? =some ol)
  (h1:∀K':Act->World->Prop,(∀a w,(Cu (listed.setIfInBounds i true)=true\/S w)/\((Cu (listed.setIfInBounds i true)=true\/S w)->Ds P md ops Q S fuel (listed.setIfInBounds i true) a w)->K' a w)→
   if Region.wanted oi (yielded ops a.tmps)=true then Oper.wp P oi a w K' Q else K' (a.put oi.dst undef) w)
  (h2:∀K':Act->World->Prop,(∀a w,(Cu (listed.setIfInBounds j true)=true\/S w)/\((Cu (listed.setIfInBounds j true)=true\/S w)->Ds P md ops Q S fuel (listed.setIfInBounds j true) a w)->K' a w)→
   if Region.wanted oj (yielded ops a.tmps)=true then Oper.wp P oj a w K' Q else K' (a.put oj.dst undef) w)
  (h4:∀K':Act->World->Prop,(∀a w,(Cu (listed.setIfInBounds l true)=true\/S w)/\((Cu (listed.setIfInBounds l true)=true\/S w)->Ds P md ops Q S fuel (listed.setIfInBounds l true) a w)->K' a w)→
   if Region.wanted ol (yielded ops a.tmps)=true then Oper.wp P ol a w K' Q else K' (a.put ol.dst undef) w):Ds P md ops Q S (fuel+1) listed a w:=by
 refine⟨fun h0=>(by rw[hr]at h0;cases h0),fun k hk=> ?_⟩
 rw[hr]at hk;have a0:k=i\/k=j\/k=l:=by simpa using hk
 rcases a0 with rfl|rfl|rfl
 ·have h3:=h1 _ (fun a w h=>(⟨h.1,h.2 h.1⟩:(Cu (listed.setIfInBounds k true)=true\/S w)/\Ds P md ops Q S fuel (listed.setIfInBounds k true) a w))
  unfold wpOp;rw[hi];simp only;split
  ·rename_i hw;rw[if_pos hw]at h3;exact .inl h3
  ·rename_i hw;rw[if_neg hw]at h3;exact h3
 ·have h3:=h2 _ (fun a w h=>(⟨h.1,h.2 h.1⟩:(Cu (listed.setIfInBounds k true)=true\/S w)/\Ds P md ops Q S fuel (listed.setIfInBounds k true) a w))
  unfold wpOp;rw[hj];simp only;split
  ·rename_i hw;rw[if_pos hw]at h3;exact .inl h3
  ·rename_i hw;rw[if_neg hw]at h3;exact h3
 ·have h3:=h4 _ (fun a w h=>(⟨h.1,h.2 h.1⟩:(Cu (listed.setIfInBounds k true)=true\/S w)/\Ds P md ops Q S fuel (listed.setIfInBounds k true) a w))
  unfold wpOp;rw[hl];simp only;split
  ·rename_i hw;rw[if_pos hw]at h3;exact .inl h3
  ·rename_i hw;rw[if_neg hw]at h3;exact h3
theorem C2 {w:World}{b:Nat}{u v x y:Value}{t:TypeId}(h:w.heap[b]? =some (.cells #[u,v] t (0,0))):
  (w.setCell ⟨b,0,none⟩ x).heap[b]? =some (.cells #[x,v] t (0,0))/\((w.setCell ⟨b,0,none⟩ x).setCell ⟨b,1,none⟩ y).heap[b]? =some (.cells #[x,y] t (0,0)):=
 ⟨Bq h,Bq (Bq h)⟩
theorem al3 (W:World):((((W.alloc (.cells #[.int .u32 0, .int .u32 0] 24)).alloc (.cells #[.int .u32 0, .int .u32 0] 24)).alloc (.cells #[.int .u32 0, .int .u32 0] 24)).drew).heap[W.heap.size]? =some (.cells #[.int .u32 0, .int .u32 0] 24 (0,0))/\((((W.alloc (.cells #[.int .u32 0, .int .u32 0] 24)).alloc (.cells #[.int .u32 0, .int .u32 0] 24)).alloc (.cells #[.int .u32 0, .int .u32 0] 24)).drew).heap[W.heap.size+1]? =some (.cells #[.int .u32 0, .int .u32 0] 24 (0,0))∧
  ((((W.alloc (.cells #[.int .u32 0, .int .u32 0] 24)).alloc (.cells #[.int .u32 0, .int .u32 0] 24)).alloc (.cells #[.int .u32 0, .int .u32 0] 24)).drew).heap[W.heap.size+1+1]? =some (.cells #[.int .u32 0, .int .u32 0] 24 (0,0))/\Below W.heap.size W ((((W.alloc (.cells #[.int .u32 0, .int .u32 0] 24)).alloc (.cells #[.int .u32 0, .int .u32 0] 24)).alloc (.cells #[.int .u32 0, .int .u32 0] 24)).drew):=⟨hpt,hpt,hpt,bel⟩
theorem C7 {w X:World}{B b:Nat}{x y u v:Value}{t:TypeId}(h:X.heap[b]? =some (.cells #[u,v] t (0,0)))(hB:Below B w X)(hb:B<=b):
  ((X.setCell ⟨b,0,none⟩ x).setCell ⟨b,1,none⟩ y).heap[b]? =some (.cells #[x,y] t (0,0))/\Below B w ((X.setCell ⟨b,0,none⟩ x).setCell ⟨b,1,none⟩ y)∧∀k,k≠b->((X.setCell ⟨b,0,none⟩ x).setCell ⟨b,1,none⟩ y).heap[k]? =X.heap[k]? :=
 ⟨(C2 h).2,(hB.setCell (p:=⟨b,0,none⟩) hb x).setCell (p:=⟨b,1,none⟩) hb y,fun k hk=>(Below.heap_setCell _ _ _ _ (by simpa using hk)).trans (Below.heap_setCell _ _ _ _ (by simpa using hk))⟩
theorem Hh (w:World)(hT:B7 w):Calls Tryz.prog 42 #[] w fun e w'=>e= .returned (.bool true)/\Below w.heap.size w w':=by
 have HT:=hI hT;clear hT;go_enter Tryz.func42,Tryz.ntmps42;go_wp2_with fail;refine(Wq w).mono ?_;rintro e w1 ⟨Al,cl,av,af,rfl,hl,hv,hf,f3⟩;have HL:=hI hl;have HV:=hI hv;have HF:=hI hf;have b5:=hI f3;clear hl hv hf f3;go_wp2_with(first|(refine G7 rfl (.tmp 2) (.tmp 18) rfl w1.heap.size vD av rfl rfl (t:=34) (by repeat(first|exact Ak sd|rw[Ah sd])) rfl ?hs2))
 case hs2=>
  intro W2 g1 g2 g3;have a2:W2.heap.size=w1.heap.size+2:=by first|exact g3|(rw[g3];simp;done)
  have o3:∃old:Array Value,W2.heap[w1.heap.size+1]? =some (.cells old 34 (0,0))/\old.size=18:=⟨_,(g2.block _ sd (by omega)).trans (Ak (by simp)),rfl⟩;obtain⟨old3,o3,z3⟩:=o3;have d7:Below w1.heap.size w1 W2:=Below.trans bel (g2.to_below (B:=w1.heap.size) (fun k hk=>by omega) sd);have G1:=hI g1;have Z3:=hI z3;have b3:=hI d7;clear g1 g2 g3 z3 d7;go_wp2_with(first|(refine G7 rfl (.tmp 3) (.tmp 19) rfl (w1.heap.size+1) fD af rfl rfl (t:=34) o3 Z3.out ?hs3))
  case hs3=>
   intro W3 g4 g5 g6;have f5:W3.heap.size=w1.heap.size+2:=by first|exact g6|(rw[g6,a2];done)
   have d2:Below w1.heap.size w1 W3:=b3.out.trans (g5.to_below (B:=w1.heap.size) (fun k hk=>by omega) b3.out.size);have K2:Hid (W3.heap[w1.heap.size]? =some (.cells (Bh vD av) 34 (0,0))):=(g5.block _ (by omega) (by omega)).trans G1.out;have K3:=hI g4;have b1:=hI d2;have b4:w1.heap.size+2<=W3.heap.size:=by omega
   clear g4 g5 g6 a2 f5 d2 o3;have b4:=hI b4;obtain⟨N,hN⟩:∃N,N=W3.heap.size:=⟨_,rfl⟩;obtain⟨bl,ol,p0,m0,hA,b0,e0,c00,c01⟩:=(HL.out.below b1.out rr).at_ (k:=0) (by omega);obtain⟨bl',ol',p1,m1,b6, -,e1,c10,c11⟩:=(HL.out.below b1.out rr).at_ (k:=1) (by omega);obtain⟨bl2,ol2,p2,m2,b7, -,e2,c20,c21⟩:=(HL.out.below b1.out rr).at_ (k:=2) (by omega);obtain⟨rfl,rfl⟩:bl'=bl/\ol'=ol:=by rw[hA]at b6;injection b6 with h;injection h with h1 h2;exact⟨h1.symm,h2.symm⟩
   obtain⟨rfl,rfl⟩:bl2=bl'/\ol2=ol':=by rw[hA]at b7;injection b7 with h;injection h with h1 h2;exact⟨h1.symm,h2.symm⟩
   obtain⟨rfl,rfl⟩:p0=2/\m0=5:=by simpa[sP,eq_comm]using e0
   obtain⟨rfl,rfl⟩:p1=3/\m1=4:=by simpa[sB,eq_comm]using e1
   obtain⟨rfl,rfl⟩:p2=5/\m2=2:=by simpa[sA,eq_comm]using e2
   subst hA;clear b6 b7 e0 e1 e2;simp only[Nat.zero_mul,Nat.one_mul,Nat.add_zero]at c00 c01 c10 c11 c20 c21;go_wp2_with fail
   refine wp_mono (Q:=Uh fun a' W'=>∃x y z:Nat,a'={tmps:= #[.bool false, .slice (some ⟨bl2,ol2,none⟩) 3 cl, .pointer (some ⟨w1.heap.size,0,none⟩), .pointer (some ⟨w1.heap.size+1,0,none⟩), .pointer (some ⟨x,0,none⟩), .pointer (some ⟨y,0,none⟩), .pointer (some ⟨z,0,none⟩),undef,undef,undef,undef,undef,undef,undef,undef, .tuple #[.slice (some ⟨bl2,ol2,none⟩) 3 cl,C3 vD av,C3 fD af], .tuple #[.slice (some ⟨bl2,ol2,none⟩) 3 cl,C3 vD av,C3 fD af], .slice (some ⟨bl2,ol2,none⟩) 3 cl,C3 vD av,C3 fD af, .slice (some ⟨bl2,ol2,none⟩) 3 cl, .pointer (some ⟨bl2,ol2,none⟩), .agg #[.int .u32 2, .int .u32 5], .slice (some ⟨bl2,ol2,none⟩) 3 cl, .pointer (some ⟨bl2,ol2+2,none⟩), .agg #[.int .u32 3, .int .u32 4], .slice (some ⟨bl2,ol2,none⟩) 3 cl, .pointer (some ⟨bl2,ol2+2*2,none⟩), .agg #[.int .u32 5, .int .u32 2],undef,undef,undef,undef,undef,undef,undef,undef,undef,undef,undef,undef,undef,undef,undef,undef,undef,undef,undef,undef,undef,undef,undef,undef,undef,undef,undef,undef,undef,undef,undef,undef,undef,undef,undef,undef,undef,undef,undef,undef,undef,undef,undef,undef,undef,undef,undef,undef,undef,undef,undef,undef,undef,undef,undef,undef,undef,undef,undef,undef,undef,undef,undef,undef,undef,undef,undef,undef,undef,undef,undef,undef,undef,undef,undef,undef,undef,undef,undef,undef,undef,undef,undef,undef,undef,undef,undef,undef,undef,undef,undef,undef,undef,undef,undef,undef,undef,undef,undef],defers:=[]}∧
    W'.heap[x]? =some (.cells #[.int .u32 2, .int .u32 5] 24 (0,0))/\W'.heap[y]? =some (.cells #[.int .u32 3, .int .u32 4] 24 (0,0))/\W'.heap[z]? =some (.cells #[.int .u32 5, .int .u32 2] 24 (0,0))/\Below W3.heap.size W3 W') ?reg ?cont
   case reg=>
    have a1:Hid (∀W':World,Below W3.heap.size W3 W'->W'.cell? ⟨bl2,ol2,none⟩=some (.int .u32 2)/\W'.cell? ⟨bl2,ol2+1,none⟩=some (.int .u32 5)/\W'.cell? ⟨bl2,ol2+2,none⟩=some (.int .u32 3)/\W'.cell? ⟨bl2,ol2+2+1,none⟩=some (.int .u32 4)/\W'.cell? ⟨bl2,ol2+2*2,none⟩=some (.int .u32 5)/\W'.cell? ⟨bl2,ol2+2*2+1,none⟩=some (.int .u32 2)):=fun W' hb=>⟨(hb.cell (p:=⟨_,_,none⟩) b0).trans c00,(hb.cell (p:=⟨_,_,none⟩) b0).trans c01,(hb.cell (p:=⟨_,_,none⟩) b0).trans c10,(hb.cell (p:=⟨_,_,none⟩) b0).trans c11,(hb.cell (p:=⟨_,_,none⟩) b0).trans c20,(hb.cell (p:=⟨_,_,none⟩) b0).trans c21⟩
    refine Bs (fun W'=>W'.cell? ⟨bl2,ol2,none⟩=some (.int .u32 2)/\W'.cell? ⟨bl2,ol2+1,none⟩=some (.int .u32 5)/\W'.cell? ⟨bl2,ol2+2,none⟩=some (.int .u32 3)/\W'.cell? ⟨bl2,ol2+2+1,none⟩=some (.int .u32 4)/\W'.cell? ⟨bl2,ol2+2*2,none⟩=some (.int .u32 5)/\W'.cell? ⟨bl2,ol2+2*2+1,none⟩=some (.int .u32 2)) (by kernel_rfl) ⟨c00,c01,c10,c11,c20,c21⟩ (fun hHeld=> ?_)
    (refine' Aa 0 rfl ?_;(try simp only[Act.put,nY,nX]));(refine' Aa 1 rfl ?_;(try simp only[Act.put,nY,nX]));(refine' Aa 2 rfl ?_;(try simp only[Act.put,nY,nX]));(refine' Aa 3 rfl ?_;(try simp only[Act.put,nY,nX]));(refine' Aa 4 rfl ?_;(try simp only[Act.put,nY,nX]));(refine' Aa 5 rfl ?_;(try simp only[Act.put,nY,nX]));(refine' Aa 6 rfl ?_;(try simp only[Act.put,nY,nX]));(refine' Aa 7 rfl ?_;(try simp only[Act.put,nY,nX]));(refine' Aa 8 rfl ?_;(try simp only[Act.put,nY,nX]))
    clear hHeld;refine Wi (i:=9) (j:=10) (l:=11) (by kernel_rfl) rfl rfl rfl (fun K' hK'=> ?_) (fun K' hK'=> ?_) (fun K' hK'=> ?_)
    ·simp only[nY];go_simp;refine hK' _ _ ⟨.inr (a1.out _ bel),fun _=> ?_⟩
     clear hK' K'
     (try simp only[Act.put,nY,nX])
     refine Lq (i:=10) (j:=11) (by kernel_rfl) rfl rfl (fun K' hK'=> ?_) (fun K' hK'=> ?_)
     ·simp only[nY];go_simp;refine hK' _ _ ⟨.inr (a1.out _ bel),fun _=> ?_⟩
      clear hK' K'
      (try simp only[Act.put,nY,nX])
      refine Agz 11 rfl (fun K' hK'=> ?_);simp only[nY];go_simp;refine hK' _ _ ⟨.inr (a1.out _ bel),fun _=> ?_⟩
      clear hK' K'
      (try simp only[Act.put,nY,nX])
      obtain⟨h0,h1,h2,a0⟩:=al3 W3;generalize((((W3.alloc (.cells #[.int .u32 0, .int .u32 0] 24)).alloc (.cells #[.int .u32 0, .int .u32 0] 24)).alloc (.cells #[.int .u32 0, .int .u32 0] 24)).drew)=X at*;obtain⟨d0,d1,f0,f1⟩:=Aq h0;obtain⟨s1,_⟩:=C2 (x:= .int .u32 2) (y:= .int .u32 5) h0;obtain⟨_,d1',_,f1'⟩:=Aq s1;obtain⟨k1,k2,k3⟩:=C7 (x:= .int .u32 2) (y:= .int .u32 5) h0 a0 (show W3.heap.size<=W3.heap.size by omega);refine Agz 12 rfl (fun K' hK'=> ?_);simp only[nY];go_simp;refine hK' _ _ ⟨.inr (a1.out _ k2),fun _=> ?_⟩
      clear hK' K' d0 d1 f0 f1 s1 d1' f1' a0
      (try simp only[Act.put,nY,nX])
      generalize(X.setCell ⟨W3.heap.size,0,none⟩ (.int .u32 2)).setCell ⟨W3.heap.size,1,none⟩ (.int .u32 5)=X1 at*;have a0:=k2;have hx:=k1;have hy:=(k3 (W3.heap.size+1) (by omega)).trans h1;have hz:=(k3 (W3.heap.size+1+1) (by omega)).trans h2;clear k1 k2 k3 h0 h1 h2;obtain⟨d0,d1,f0,f1⟩:=Aq hy;obtain⟨s1,_⟩:=C2 (x:= .int .u32 3) (y:= .int .u32 4) hy;obtain⟨_,d1',_,f1'⟩:=Aq s1;obtain⟨k1,k2,k3⟩:=C7 (x:= .int .u32 3) (y:= .int .u32 4) hy a0 (show W3.heap.size<=W3.heap.size+1 by omega);refine Agz 13 rfl (fun K' hK'=> ?_);simp only[nY];go_simp;refine hK' _ _ ⟨.inr (a1.out _ k2),fun _=> ?_⟩
      clear hK' K' d0 d1 f0 f1 s1 d1' f1' a0
      (try simp only[Act.put,nY,nX])
      generalize(X1.setCell ⟨W3.heap.size+1,0,none⟩ (.int .u32 3)).setCell ⟨W3.heap.size+1,1,none⟩ (.int .u32 4)=X2 at*;have a0:=k2;have a7:=(k3 (W3.heap.size) (by omega)).trans hx;have a8:=k1;have a2:=(k3 (W3.heap.size+1+1) (by omega)).trans hz;clear k1 k2 k3 hx hy hz;obtain⟨d0,d1,f0,f1⟩:=Aq a2;obtain⟨s1,_⟩:=C2 (x:= .int .u32 5) (y:= .int .u32 2) a2;obtain⟨_,d1',_,f1'⟩:=Aq s1;obtain⟨k1,k2,k3⟩:=C7 (x:= .int .u32 5) (y:= .int .u32 2) a2 a0 (show W3.heap.size<=W3.heap.size+1+1 by omega);refine Agz 14 rfl (fun K' hK'=> ?_);simp only[nY];go_simp;refine hK' _ _ ⟨.inr (a1.out _ k2),fun _=> ?_⟩
      clear hK' K' d0 d1 f0 f1 s1 d1' f1' a0
      (try simp only[Act.put,nY,nX])
      generalize(X2.setCell ⟨W3.heap.size+1+1,0,none⟩ (.int .u32 5)).setCell ⟨W3.heap.size+1+1,1,none⟩ (.int .u32 2)=X3 at*;have a0:=k2;refine Be (by kernel_rfl) ?_ _;exact⟨_,_,_,rfl,(k3 (W3.heap.size) (by omega)).trans a7,(k3 (W3.heap.size+1) (by omega)).trans a8,k1,a0⟩
     ·simp only[nY];go_simp;refine hK' _ _ ⟨.inr (a1.out _ bel),fun _=> ?_⟩
      clear hK' K'
      (try simp only[Act.put,nY,nX])
      refine Agz 10 rfl (fun K' hK'=> ?_);simp only[nY];go_simp;refine hK' _ _ ⟨.inr (a1.out _ bel),fun _=> ?_⟩
      clear hK' K'
      (try simp only[Act.put,nY,nX])
      obtain⟨h0,h1,h2,a0⟩:=al3 W3;generalize((((W3.alloc (.cells #[.int .u32 0, .int .u32 0] 24)).alloc (.cells #[.int .u32 0, .int .u32 0] 24)).alloc (.cells #[.int .u32 0, .int .u32 0] 24)).drew)=X at*;obtain⟨d0,d1,f0,f1⟩:=Aq h0;obtain⟨s1,_⟩:=C2 (x:= .int .u32 2) (y:= .int .u32 5) h0;obtain⟨_,d1',_,f1'⟩:=Aq s1;obtain⟨k1,k2,k3⟩:=C7 (x:= .int .u32 2) (y:= .int .u32 5) h0 a0 (show W3.heap.size<=W3.heap.size by omega);refine Agz 12 rfl (fun K' hK'=> ?_);simp only[nY];go_simp;refine hK' _ _ ⟨.inr (a1.out _ k2),fun _=> ?_⟩
      clear hK' K' d0 d1 f0 f1 s1 d1' f1' a0
      (try simp only[Act.put,nY,nX])
      generalize(X.setCell ⟨W3.heap.size,0,none⟩ (.int .u32 2)).setCell ⟨W3.heap.size,1,none⟩ (.int .u32 5)=X1 at*;have a0:=k2;have hx:=k1;have hy:=(k3 (W3.heap.size+1+1) (by omega)).trans h2;have hz:=(k3 (W3.heap.size+1) (by omega)).trans h1;clear k1 k2 k3 h0 h1 h2;obtain⟨d0,d1,f0,f1⟩:=Aq hy;obtain⟨s1,_⟩:=C2 (x:= .int .u32 3) (y:= .int .u32 4) hy;obtain⟨_,d1',_,f1'⟩:=Aq s1;obtain⟨k1,k2,k3⟩:=C7 (x:= .int .u32 3) (y:= .int .u32 4) hy a0 (show W3.heap.size<=W3.heap.size+1+1 by omega);refine Agz 13 rfl (fun K' hK'=> ?_);simp only[nY];go_simp;refine hK' _ _ ⟨.inr (a1.out _ k2),fun _=> ?_⟩
      clear hK' K' d0 d1 f0 f1 s1 d1' f1' a0
      (try simp only[Act.put,nY,nX])
      generalize(X1.setCell ⟨W3.heap.size+1+1,0,none⟩ (.int .u32 3)).setCell ⟨W3.heap.size+1+1,1,none⟩ (.int .u32 4)=X2 at*;have a0:=k2;have a7:=(k3 (W3.heap.size) (by omega)).trans hx;have a8:=k1;have a2:=(k3 (W3.heap.size+1) (by omega)).trans hz;clear k1 k2 k3 hx hy hz;obtain⟨d0,d1,f0,f1⟩:=Aq a2;obtain⟨s1,_⟩:=C2 (x:= .int .u32 5) (y:= .int .u32 2) a2;obtain⟨_,d1',_,f1'⟩:=Aq s1;obtain⟨k1,k2,k3⟩:=C7 (x:= .int .u32 5) (y:= .int .u32 2) a2 a0 (show W3.heap.size<=W3.heap.size+1 by omega);refine Agz 14 rfl (fun K' hK'=> ?_);simp only[nY];go_simp;refine hK' _ _ ⟨.inr (a1.out _ k2),fun _=> ?_⟩
      clear hK' K' d0 d1 f0 f1 s1 d1' f1' a0
      (try simp only[Act.put,nY,nX])
      generalize(X2.setCell ⟨W3.heap.size+1,0,none⟩ (.int .u32 5)).setCell ⟨W3.heap.size+1,1,none⟩ (.int .u32 2)=X3 at*;have a0:=k2;refine Be (by kernel_rfl) ?_ _;exact⟨_,_,_,rfl,(k3 (W3.heap.size) (by omega)).trans a7,(k3 (W3.heap.size+1+1) (by omega)).trans a8,k1,a0⟩
    ·simp only[nY];go_simp;refine hK' _ _ ⟨.inr (a1.out _ bel),fun _=> ?_⟩
     clear hK' K'
     (try simp only[Act.put,nY,nX])
     refine Lq (i:=9) (j:=11) (by kernel_rfl) rfl rfl (fun K' hK'=> ?_) (fun K' hK'=> ?_)
     ·simp only[nY];go_simp;refine hK' _ _ ⟨.inr (a1.out _ bel),fun _=> ?_⟩
      clear hK' K'
      (try simp only[Act.put,nY,nX])
      refine Agz 11 rfl (fun K' hK'=> ?_);simp only[nY];go_simp;refine hK' _ _ ⟨.inr (a1.out _ bel),fun _=> ?_⟩
      clear hK' K'
      (try simp only[Act.put,nY,nX])
      obtain⟨h0,h1,h2,a0⟩:=al3 W3;generalize((((W3.alloc (.cells #[.int .u32 0, .int .u32 0] 24)).alloc (.cells #[.int .u32 0, .int .u32 0] 24)).alloc (.cells #[.int .u32 0, .int .u32 0] 24)).drew)=X at*;obtain⟨d0,d1,f0,f1⟩:=Aq h1;obtain⟨s1,_⟩:=C2 (x:= .int .u32 2) (y:= .int .u32 5) h1;obtain⟨_,d1',_,f1'⟩:=Aq s1;obtain⟨k1,k2,k3⟩:=C7 (x:= .int .u32 2) (y:= .int .u32 5) h1 a0 (show W3.heap.size<=W3.heap.size+1 by omega);refine Agz 12 rfl (fun K' hK'=> ?_);simp only[nY];go_simp;refine hK' _ _ ⟨.inr (a1.out _ k2),fun _=> ?_⟩
      clear hK' K' d0 d1 f0 f1 s1 d1' f1' a0
      (try simp only[Act.put,nY,nX])
      generalize(X.setCell ⟨W3.heap.size+1,0,none⟩ (.int .u32 2)).setCell ⟨W3.heap.size+1,1,none⟩ (.int .u32 5)=X1 at*;have a0:=k2;have hx:=k1;have hy:=(k3 (W3.heap.size) (by omega)).trans h0;have hz:=(k3 (W3.heap.size+1+1) (by omega)).trans h2;clear k1 k2 k3 h0 h1 h2;obtain⟨d0,d1,f0,f1⟩:=Aq hy;obtain⟨s1,_⟩:=C2 (x:= .int .u32 3) (y:= .int .u32 4) hy;obtain⟨_,d1',_,f1'⟩:=Aq s1;obtain⟨k1,k2,k3⟩:=C7 (x:= .int .u32 3) (y:= .int .u32 4) hy a0 (show W3.heap.size<=W3.heap.size by omega);refine Agz 13 rfl (fun K' hK'=> ?_);simp only[nY];go_simp;refine hK' _ _ ⟨.inr (a1.out _ k2),fun _=> ?_⟩
      clear hK' K' d0 d1 f0 f1 s1 d1' f1' a0
      (try simp only[Act.put,nY,nX])
      generalize(X1.setCell ⟨W3.heap.size,0,none⟩ (.int .u32 3)).setCell ⟨W3.heap.size,1,none⟩ (.int .u32 4)=X2 at*;have a0:=k2;have a7:=(k3 (W3.heap.size+1) (by omega)).trans hx;have a8:=k1;have a2:=(k3 (W3.heap.size+1+1) (by omega)).trans hz;clear k1 k2 k3 hx hy hz;obtain⟨d0,d1,f0,f1⟩:=Aq a2;obtain⟨s1,_⟩:=C2 (x:= .int .u32 5) (y:= .int .u32 2) a2;obtain⟨_,d1',_,f1'⟩:=Aq s1;obtain⟨k1,k2,k3⟩:=C7 (x:= .int .u32 5) (y:= .int .u32 2) a2 a0 (show W3.heap.size<=W3.heap.size+1+1 by omega);refine Agz 14 rfl (fun K' hK'=> ?_);simp only[nY];go_simp;refine hK' _ _ ⟨.inr (a1.out _ k2),fun _=> ?_⟩
      clear hK' K' d0 d1 f0 f1 s1 d1' f1' a0
      (try simp only[Act.put,nY,nX])
      generalize(X2.setCell ⟨W3.heap.size+1+1,0,none⟩ (.int .u32 5)).setCell ⟨W3.heap.size+1+1,1,none⟩ (.int .u32 2)=X3 at*;have a0:=k2;refine Be (by kernel_rfl) ?_ _;exact⟨_,_,_,rfl,(k3 (W3.heap.size+1) (by omega)).trans a7,(k3 (W3.heap.size) (by omega)).trans a8,k1,a0⟩
     ·simp only[nY];go_simp;refine hK' _ _ ⟨.inr (a1.out _ bel),fun _=> ?_⟩
      clear hK' K'
      (try simp only[Act.put,nY,nX])
      refine Agz 9 rfl (fun K' hK'=> ?_);simp only[nY];go_simp;refine hK' _ _ ⟨.inr (a1.out _ bel),fun _=> ?_⟩
      clear hK' K'
      (try simp only[Act.put,nY,nX])
      obtain⟨h0,h1,h2,a0⟩:=al3 W3;generalize((((W3.alloc (.cells #[.int .u32 0, .int .u32 0] 24)).alloc (.cells #[.int .u32 0, .int .u32 0] 24)).alloc (.cells #[.int .u32 0, .int .u32 0] 24)).drew)=X at*;obtain⟨d0,d1,f0,f1⟩:=Aq h2;obtain⟨s1,_⟩:=C2 (x:= .int .u32 2) (y:= .int .u32 5) h2;obtain⟨_,d1',_,f1'⟩:=Aq s1;obtain⟨k1,k2,k3⟩:=C7 (x:= .int .u32 2) (y:= .int .u32 5) h2 a0 (show W3.heap.size<=W3.heap.size+1+1 by omega);refine Agz 12 rfl (fun K' hK'=> ?_);simp only[nY];go_simp;refine hK' _ _ ⟨.inr (a1.out _ k2),fun _=> ?_⟩
      clear hK' K' d0 d1 f0 f1 s1 d1' f1' a0
      (try simp only[Act.put,nY,nX])
      generalize(X.setCell ⟨W3.heap.size+1+1,0,none⟩ (.int .u32 2)).setCell ⟨W3.heap.size+1+1,1,none⟩ (.int .u32 5)=X1 at*;have a0:=k2;have hx:=k1;have hy:=(k3 (W3.heap.size) (by omega)).trans h0;have hz:=(k3 (W3.heap.size+1) (by omega)).trans h1;clear k1 k2 k3 h0 h1 h2;obtain⟨d0,d1,f0,f1⟩:=Aq hy;obtain⟨s1,_⟩:=C2 (x:= .int .u32 3) (y:= .int .u32 4) hy;obtain⟨_,d1',_,f1'⟩:=Aq s1;obtain⟨k1,k2,k3⟩:=C7 (x:= .int .u32 3) (y:= .int .u32 4) hy a0 (show W3.heap.size<=W3.heap.size by omega);refine Agz 13 rfl (fun K' hK'=> ?_);simp only[nY];go_simp;refine hK' _ _ ⟨.inr (a1.out _ k2),fun _=> ?_⟩
      clear hK' K' d0 d1 f0 f1 s1 d1' f1' a0
      (try simp only[Act.put,nY,nX])
      generalize(X1.setCell ⟨W3.heap.size,0,none⟩ (.int .u32 3)).setCell ⟨W3.heap.size,1,none⟩ (.int .u32 4)=X2 at*;have a0:=k2;have a7:=(k3 (W3.heap.size+1+1) (by omega)).trans hx;have a8:=k1;have a2:=(k3 (W3.heap.size+1) (by omega)).trans hz;clear k1 k2 k3 hx hy hz;obtain⟨d0,d1,f0,f1⟩:=Aq a2;obtain⟨s1,_⟩:=C2 (x:= .int .u32 5) (y:= .int .u32 2) a2;obtain⟨_,d1',_,f1'⟩:=Aq s1;obtain⟨k1,k2,k3⟩:=C7 (x:= .int .u32 5) (y:= .int .u32 2) a2 a0 (show W3.heap.size<=W3.heap.size+1 by omega);refine Agz 14 rfl (fun K' hK'=> ?_);simp only[nY];go_simp;refine hK' _ _ ⟨.inr (a1.out _ k2),fun _=> ?_⟩
      clear hK' K' d0 d1 f0 f1 s1 d1' f1' a0
      (try simp only[Act.put,nY,nX])
      generalize(X2.setCell ⟨W3.heap.size+1,0,none⟩ (.int .u32 5)).setCell ⟨W3.heap.size+1,1,none⟩ (.int .u32 2)=X3 at*;have a0:=k2;refine Be (by kernel_rfl) ?_ _;exact⟨_,_,_,rfl,(k3 (W3.heap.size+1+1) (by omega)).trans a7,(k3 (W3.heap.size) (by omega)).trans a8,k1,a0⟩
    ·simp only[nY];go_simp;refine hK' _ _ ⟨.inr (a1.out _ bel),fun _=> ?_⟩
     clear hK' K'
     (try simp only[Act.put,nY,nX])
     refine Lq (i:=9) (j:=10) (by kernel_rfl) rfl rfl (fun K' hK'=> ?_) (fun K' hK'=> ?_)
     ·simp only[nY];go_simp;refine hK' _ _ ⟨.inr (a1.out _ bel),fun _=> ?_⟩
      clear hK' K'
      (try simp only[Act.put,nY,nX])
      refine Agz 10 rfl (fun K' hK'=> ?_);simp only[nY];go_simp;refine hK' _ _ ⟨.inr (a1.out _ bel),fun _=> ?_⟩
      clear hK' K'
      (try simp only[Act.put,nY,nX])
      obtain⟨h0,h1,h2,a0⟩:=al3 W3;generalize((((W3.alloc (.cells #[.int .u32 0, .int .u32 0] 24)).alloc (.cells #[.int .u32 0, .int .u32 0] 24)).alloc (.cells #[.int .u32 0, .int .u32 0] 24)).drew)=X at*;obtain⟨d0,d1,f0,f1⟩:=Aq h1;obtain⟨s1,_⟩:=C2 (x:= .int .u32 2) (y:= .int .u32 5) h1;obtain⟨_,d1',_,f1'⟩:=Aq s1;obtain⟨k1,k2,k3⟩:=C7 (x:= .int .u32 2) (y:= .int .u32 5) h1 a0 (show W3.heap.size<=W3.heap.size+1 by omega);refine Agz 12 rfl (fun K' hK'=> ?_);simp only[nY];go_simp;refine hK' _ _ ⟨.inr (a1.out _ k2),fun _=> ?_⟩
      clear hK' K' d0 d1 f0 f1 s1 d1' f1' a0
      (try simp only[Act.put,nY,nX])
      generalize(X.setCell ⟨W3.heap.size+1,0,none⟩ (.int .u32 2)).setCell ⟨W3.heap.size+1,1,none⟩ (.int .u32 5)=X1 at*;have a0:=k2;have hx:=k1;have hy:=(k3 (W3.heap.size+1+1) (by omega)).trans h2;have hz:=(k3 (W3.heap.size) (by omega)).trans h0;clear k1 k2 k3 h0 h1 h2;obtain⟨d0,d1,f0,f1⟩:=Aq hy;obtain⟨s1,_⟩:=C2 (x:= .int .u32 3) (y:= .int .u32 4) hy;obtain⟨_,d1',_,f1'⟩:=Aq s1;obtain⟨k1,k2,k3⟩:=C7 (x:= .int .u32 3) (y:= .int .u32 4) hy a0 (show W3.heap.size<=W3.heap.size+1+1 by omega);refine Agz 13 rfl (fun K' hK'=> ?_);simp only[nY];go_simp;refine hK' _ _ ⟨.inr (a1.out _ k2),fun _=> ?_⟩
      clear hK' K' d0 d1 f0 f1 s1 d1' f1' a0
      (try simp only[Act.put,nY,nX])
      generalize(X1.setCell ⟨W3.heap.size+1+1,0,none⟩ (.int .u32 3)).setCell ⟨W3.heap.size+1+1,1,none⟩ (.int .u32 4)=X2 at*;have a0:=k2;have a7:=(k3 (W3.heap.size+1) (by omega)).trans hx;have a8:=k1;have a2:=(k3 (W3.heap.size) (by omega)).trans hz;clear k1 k2 k3 hx hy hz;obtain⟨d0,d1,f0,f1⟩:=Aq a2;obtain⟨s1,_⟩:=C2 (x:= .int .u32 5) (y:= .int .u32 2) a2;obtain⟨_,d1',_,f1'⟩:=Aq s1;obtain⟨k1,k2,k3⟩:=C7 (x:= .int .u32 5) (y:= .int .u32 2) a2 a0 (show W3.heap.size<=W3.heap.size by omega);refine Agz 14 rfl (fun K' hK'=> ?_);simp only[nY];go_simp;refine hK' _ _ ⟨.inr (a1.out _ k2),fun _=> ?_⟩
      clear hK' K' d0 d1 f0 f1 s1 d1' f1' a0
      (try simp only[Act.put,nY,nX])
      generalize(X2.setCell ⟨W3.heap.size,0,none⟩ (.int .u32 5)).setCell ⟨W3.heap.size,1,none⟩ (.int .u32 2)=X3 at*;have a0:=k2;refine Be (by kernel_rfl) ?_ _;exact⟨_,_,_,rfl,(k3 (W3.heap.size+1) (by omega)).trans a7,(k3 (W3.heap.size+1+1) (by omega)).trans a8,k1,a0⟩
     ·simp only[nY];go_simp;refine hK' _ _ ⟨.inr (a1.out _ bel),fun _=> ?_⟩
      clear hK' K'
      (try simp only[Act.put,nY,nX])
      refine Agz 9 rfl (fun K' hK'=> ?_);simp only[nY];go_simp;refine hK' _ _ ⟨.inr (a1.out _ bel),fun _=> ?_⟩
      clear hK' K'
      (try simp only[Act.put,nY,nX])
      obtain⟨h0,h1,h2,a0⟩:=al3 W3;generalize((((W3.alloc (.cells #[.int .u32 0, .int .u32 0] 24)).alloc (.cells #[.int .u32 0, .int .u32 0] 24)).alloc (.cells #[.int .u32 0, .int .u32 0] 24)).drew)=X at*;obtain⟨d0,d1,f0,f1⟩:=Aq h2;obtain⟨s1,_⟩:=C2 (x:= .int .u32 2) (y:= .int .u32 5) h2;obtain⟨_,d1',_,f1'⟩:=Aq s1;obtain⟨k1,k2,k3⟩:=C7 (x:= .int .u32 2) (y:= .int .u32 5) h2 a0 (show W3.heap.size<=W3.heap.size+1+1 by omega);refine Agz 12 rfl (fun K' hK'=> ?_);simp only[nY];go_simp;refine hK' _ _ ⟨.inr (a1.out _ k2),fun _=> ?_⟩
      clear hK' K' d0 d1 f0 f1 s1 d1' f1' a0
      (try simp only[Act.put,nY,nX])
      generalize(X.setCell ⟨W3.heap.size+1+1,0,none⟩ (.int .u32 2)).setCell ⟨W3.heap.size+1+1,1,none⟩ (.int .u32 5)=X1 at*;have a0:=k2;have hx:=k1;have hy:=(k3 (W3.heap.size+1) (by omega)).trans h1;have hz:=(k3 (W3.heap.size) (by omega)).trans h0;clear k1 k2 k3 h0 h1 h2;obtain⟨d0,d1,f0,f1⟩:=Aq hy;obtain⟨s1,_⟩:=C2 (x:= .int .u32 3) (y:= .int .u32 4) hy;obtain⟨_,d1',_,f1'⟩:=Aq s1;obtain⟨k1,k2,k3⟩:=C7 (x:= .int .u32 3) (y:= .int .u32 4) hy a0 (show W3.heap.size<=W3.heap.size+1 by omega);refine Agz 13 rfl (fun K' hK'=> ?_);simp only[nY];go_simp;refine hK' _ _ ⟨.inr (a1.out _ k2),fun _=> ?_⟩
      clear hK' K' d0 d1 f0 f1 s1 d1' f1' a0
      (try simp only[Act.put,nY,nX])
      generalize(X1.setCell ⟨W3.heap.size+1,0,none⟩ (.int .u32 3)).setCell ⟨W3.heap.size+1,1,none⟩ (.int .u32 4)=X2 at*;have a0:=k2;have a7:=(k3 (W3.heap.size+1+1) (by omega)).trans hx;have a8:=k1;have a2:=(k3 (W3.heap.size) (by omega)).trans hz;clear k1 k2 k3 hx hy hz;obtain⟨d0,d1,f0,f1⟩:=Aq a2;obtain⟨s1,_⟩:=C2 (x:= .int .u32 5) (y:= .int .u32 2) a2;obtain⟨_,d1',_,f1'⟩:=Aq s1;obtain⟨k1,k2,k3⟩:=C7 (x:= .int .u32 5) (y:= .int .u32 2) a2 a0 (show W3.heap.size<=W3.heap.size by omega);refine Agz 14 rfl (fun K' hK'=> ?_);simp only[nY];go_simp;refine hK' _ _ ⟨.inr (a1.out _ k2),fun _=> ?_⟩
      clear hK' K' d0 d1 f0 f1 s1 d1' f1' a0
      (try simp only[Act.put,nY,nX])
      generalize(X2.setCell ⟨W3.heap.size,0,none⟩ (.int .u32 5)).setCell ⟨W3.heap.size,1,none⟩ (.int .u32 2)=X3 at*;have a0:=k2;refine Be (by kernel_rfl) ?_ _;exact⟨_,_,_,rfl,(k3 (W3.heap.size+1+1) (by omega)).trans a7,(k3 (W3.heap.size+1) (by omega)).trans a8,k1,a0⟩
   case cont=>
    intro e a' W4 hq;cases e<;>first|exact hq.elim|skip
    obtain⟨x,y,z,rfl,hx,hy,hz,b2⟩:=hq;dsimp only;have a9:Below w1.heap.size w1 W4:=b1.out.trans (b2.mono b1.out.size);have a3:Hid (Below w.heap.size w W4):=b5.out.trans (a9.mono b5.out.size)
    replace HL:=hI (HL.out.below a9 rr)
    replace HV:=hI (HV.out.below a9 rr)
    replace HF:=hI (HF.out.below a9 rr)
    replace HT:=hI (HT.out.below a3.out rr)
    replace K2:=hI ((b2.block _ (lt_of_block K2.out)).trans K2.out)
    replace K3:=hI ((b2.block _ (lt_of_block K3.out)).trans K3.out)
    have KX:=hI hx;have KY:=hI hy;have KZ:=hI hz;clear a9 b2 hx hy hz c00 c01 c10 c11 c20 c21 b5 b3 b1 b0 b4 G1 Z3;obtain⟨d5,d52,_,_⟩:=Aq KY.out;obtain⟨d6,d62,_,_⟩:=Aq KZ.out;go_wp2_with(refine Dn rfl (.tmp 2) rfl w1.heap.size vD av rfl K2.out ?_);have b9:Ab (W4.alloc (.cells #[.int .u32 5, .int .u32 2, .int .u32 3, .int .u32 4, .int .u32 5, .int .u32 2] 24)) (some ⟨W4.heap.size,0,none⟩) 3 3 [sA,sB,sA]:=C5 W4 [sA,sB,sA] 24 (by simp);have a6:Below W4.heap.size W4 (W4.alloc (.cells #[.int .u32 5, .int .u32 2, .int .u32 3, .int .u32 4, .int .u32 5, .int .u32 2] 24)):=bel
    replace a3:=hI (a3.out.trans (a6.mono a3.out.size))
    replace HL:=hI (HL.out.below a6 rr)
    replace HV:=hI (HV.out.below a6 rr)
    replace HF:=hI (HF.out.below a6 rr)
    replace HT:=hI (HT.out.below a6 rr)
    replace K2:=hI ((a6.block _ (lt_of_block K2.out)).trans K2.out)
    replace K3:=hI ((a6.block _ (lt_of_block K3.out)).trans K3.out)
    replace KX:=hI ((a6.block _ (lt_of_block KX.out)).trans KX.out)
    replace KY:=hI ((a6.block _ (lt_of_block KY.out)).trans KY.out)
    replace KZ:=hI ((a6.block _ (lt_of_block KZ.out)).trans KZ.out)
    try replace R1:=hI (R1.out.below a6 rr)
    try replace R2:=hI (R2.out.below a6 rr)
    try replace R3:=hI (R3.out.below a6 rr)
    clear a6;clear d5 d52 d6 d62;generalize W4.alloc (.cells #[.int .u32 5, .int .u32 2, .int .u32 3, .int .u32 4, .int .u32 5, .int .u32 2] 24)=W5 at*;refine(Zq ⟨vD,av⟩ _ 3 3 [sA,sB,sA] _ 3 cl [sP,sB,sA] 9 W5 HV.out b9 HL.out HT.out (by omega)).mono ?_;rw[show Eo [vD] [sA,sB,sA] [sP,sB,sA] 9=(0,[[sA,sP,sA],[sA,sB,sA]])from Xw];rintro e W6 ⟨Ax,nx,cx,rfl,hr,hb⟩;clear b9
    replace a3:=hI (a3.out.trans (hb.mono a3.out.size))
    replace HL:=hI (HL.out.below hb rr)
    replace HV:=hI (HV.out.below hb rr)
    replace HF:=hI (HF.out.below hb rr)
    replace HT:=hI (HT.out.below hb rr)
    replace K2:=hI ((hb.block _ (lt_of_block K2.out)).trans K2.out)
    replace K3:=hI ((hb.block _ (lt_of_block K3.out)).trans K3.out)
    replace KX:=hI ((hb.block _ (lt_of_block KX.out)).trans KX.out)
    replace KY:=hI ((hb.block _ (lt_of_block KY.out)).trans KY.out)
    replace KZ:=hI ((hb.block _ (lt_of_block KZ.out)).trans KZ.out)
    try replace R1:=hI (R1.out.below hb rr)
    try replace R2:=hI (R2.out.below hb rr)
    try replace R3:=hI (R3.out.below hb rr)
    clear hb;have R1:=hI hr;clear hr;go_wp2_with(first|(refine Dn rfl (.tmp 2) rfl w1.heap.size vD av rfl K2.out ?_)|(refine Dn rfl (.tmp 3) rfl (w1.heap.size+1) fD af rfl K3.out ?_)|(refine Agb rfl (.tmp 40) (.tmp 41) rfl ⟨vD,av⟩ ⟨fD,af⟩ rfl rfl HV.out HF.out ?h4))
    case h4=>
     intro W7 d3 a5 _
     replace a3:=hI (a3.out.trans (a5.mono a3.out.size))
     replace HL:=hI (HL.out.below a5 rr)
     replace HV:=hI (HV.out.below a5 rr)
     replace HF:=hI (HF.out.below a5 rr)
     replace HT:=hI (HT.out.below a5 rr)
     replace K2:=hI ((a5.block _ (lt_of_block K2.out)).trans K2.out)
     replace K3:=hI ((a5.block _ (lt_of_block K3.out)).trans K3.out)
     replace KX:=hI ((a5.block _ (lt_of_block KX.out)).trans KX.out)
     replace KY:=hI ((a5.block _ (lt_of_block KY.out)).trans KY.out)
     replace KZ:=hI ((a5.block _ (lt_of_block KZ.out)).trans KZ.out)
     try replace R1:=hI (R1.out.below a5 rr)
     try replace R2:=hI (R2.out.below a5 rr)
     try replace R3:=hI (R3.out.below a5 rr)
     clear a5;go_wp2_with fail;refine(Wt _ 2 2 [⟨vD,av⟩,⟨fD,af⟩] _ 3 cl [sP,sB,sA] 1 W7 d3 HL.out HT.out).mono ?_;rw[show Fu (Am [⟨vD,av⟩,⟨fD,af⟩]) [sP,sB,sA] 1=(0,[[],[sP],[sB]])from Vb];rintro e W8 ⟨Ay,ny,cy,rfl,hr,hb⟩;clear d3
     replace a3:=hI (a3.out.trans (hb.mono a3.out.size))
     replace HL:=hI (HL.out.below hb rr)
     replace HV:=hI (HV.out.below hb rr)
     replace HF:=hI (HF.out.below hb rr)
     replace HT:=hI (HT.out.below hb rr)
     replace K2:=hI ((hb.block _ (lt_of_block K2.out)).trans K2.out)
     replace K3:=hI ((hb.block _ (lt_of_block K3.out)).trans K3.out)
     replace KX:=hI ((hb.block _ (lt_of_block KX.out)).trans KX.out)
     replace KY:=hI ((hb.block _ (lt_of_block KY.out)).trans KY.out)
     replace KZ:=hI ((hb.block _ (lt_of_block KZ.out)).trans KZ.out)
     try replace R1:=hI (R1.out.below hb rr)
     try replace R2:=hI (R2.out.below hb rr)
     try replace R3:=hI (R3.out.below hb rr)
     clear hb;have R2:=hI hr;clear hr;go_wp2_with(first|(refine Dn rfl (.tmp 2) rfl w1.heap.size vD av rfl K2.out ?_)|(refine Aak rfl (.tmp 48) rfl ⟨vD,av⟩ rfl HV.out ?h5))
     case h5=>
      intro W9 d9 a4 _ _
      replace a3:=hI (a3.out.trans (a4.mono a3.out.size))
      replace HL:=hI (HL.out.below a4 rr)
      replace HV:=hI (HV.out.below a4 rr)
      replace HF:=hI (HF.out.below a4 rr)
      replace HT:=hI (HT.out.below a4 rr)
      replace K2:=hI ((a4.block _ (lt_of_block K2.out)).trans K2.out)
      replace K3:=hI ((a4.block _ (lt_of_block K3.out)).trans K3.out)
      replace KX:=hI ((a4.block _ (lt_of_block KX.out)).trans KX.out)
      replace KY:=hI ((a4.block _ (lt_of_block KY.out)).trans KY.out)
      replace KZ:=hI ((a4.block _ (lt_of_block KZ.out)).trans KZ.out)
      try replace R1:=hI (R1.out.below a4 rr)
      try replace R2:=hI (R2.out.below a4 rr)
      try replace R3:=hI (R3.out.below a4 rr)
      clear a4;go_wp2_with fail;refine(Aam _ 1 1 [⟨vD,av⟩] _ 3 cl [sP,sB,sA] 3 W9 d9 HL.out HT.out (by intro s hs;simp[sP,sB,sA]at hs;rcases hs with rfl|rfl|rfl<;>exact⟨⟨by decide,by decide⟩,⟨by decide,by decide⟩⟩)).mono ?_;rw[show J8 (Am [⟨vD,av⟩]) [sP,sB,sA] 3=(0,[([sA,sP,sA],[sA,sB,sA])])from Xx];rintro e W10 ⟨Az,nz,cz,qs,rfl,b8,hr,hb⟩;clear d9
      replace a3:=hI (a3.out.trans (hb.mono a3.out.size))
      replace HL:=hI (HL.out.below hb rr)
      replace HV:=hI (HV.out.below hb rr)
      replace HF:=hI (HF.out.below hb rr)
      replace HT:=hI (HT.out.below hb rr)
      replace K2:=hI ((hb.block _ (lt_of_block K2.out)).trans K2.out)
      replace K3:=hI ((hb.block _ (lt_of_block K3.out)).trans K3.out)
      replace KX:=hI ((hb.block _ (lt_of_block KX.out)).trans KX.out)
      replace KY:=hI ((hb.block _ (lt_of_block KY.out)).trans KY.out)
      replace KZ:=hI ((hb.block _ (lt_of_block KZ.out)).trans KZ.out)
      try replace R1:=hI (R1.out.below hb rr)
      try replace R2:=hI (R2.out.below hb rr)
      try replace R3:=hI (R3.out.below hb rr)
      clear hb;have R3:=hI hr;clear hr;have f8:=hI b8;clear b8;go_wp2_with(refine Dn rfl (.tmp 3) rfl (w1.heap.size+1) fD af rfl K3.out ?_);refine(Wr ⟨fD,af⟩ _ 3 cl [sP,sB,sA] 2 W10 HF.out HL.out HT.out).mono ?_;rw[show Fg (Bu.mk fD af).l [sP,sB,sA] 2=(0,6)from Vc];rintro e W11 ⟨rfl,hb⟩
      replace a3:=hI (a3.out.trans (hb.mono a3.out.size))
      replace HL:=hI (HL.out.below hb rr)
      replace HV:=hI (HV.out.below hb rr)
      replace HF:=hI (HF.out.below hb rr)
      replace HT:=hI (HT.out.below hb rr)
      replace K2:=hI ((hb.block _ (lt_of_block K2.out)).trans K2.out)
      replace K3:=hI ((hb.block _ (lt_of_block K3.out)).trans K3.out)
      replace KX:=hI ((hb.block _ (lt_of_block KX.out)).trans KX.out)
      replace KY:=hI ((hb.block _ (lt_of_block KY.out)).trans KY.out)
      replace KZ:=hI ((hb.block _ (lt_of_block KZ.out)).trans KZ.out)
      try replace R1:=hI (R1.out.below hb rr)
      try replace R2:=hI (R2.out.below hb rr)
      try replace R3:=hI (R3.out.below hb rr)
      clear hb;go_wp2_with fail
      obtain⟨s,rfl,f4⟩:∃s:Ci,qs=[s]/\s.data=([sA,sP,sA],[sA,sB,sA]):=by
       have h:qs.map Ci.data=[([sA,sP,sA],[sA,sB,sA])]:=f8.out
       match qs,h with
       |[],h=>exact absurd h (by simp)
       |[s],h=>exact⟨s,rfl,by simpa using h⟩
       |_::_::_,h=>exact absurd (congrArg List.length h) (by simp)
      obtain rfl:1=nz:=R3.out.1.2;obtain⟨bq,oq,rfl,f7,d8⟩:=R3.out.1.1.2.2.2.2 (by decide);have f9:=d8 0 _ rfl;have f6:=d8 1 _ rfl;obtain⟨f2,d4⟩:=R3.out.2 s (List.mem_singleton.2 rfl);rw[show s.p.2.2.2=[sA,sP,sA]from congrArg Prod.fst f4]at f2;rw[show s.q.2.2.2=[sA,sB,sA]from congrArg Prod.snd f4]at d4;refine wp_mono (Zd (Ax:=Ax) (nx:=nx) (cx:=cx) (Ay:=Ay) (ny:=ny) (cy:=cy) (bq:=bq) (oq:=oq) (cz:=cz) (x:=x) (y:=y) (z:=z) (s:=s) ⟨rfl,rfl,rfl,rfl,rfl,rfl,rfl,rfl,rfl,rfl,rfl,rfl⟩ ⟨KX.out,KY.out,KZ.out,R1.out,R2.out,f7,f9,f6,f2,d4⟩ rfl) ?_;intro e a' W' hq;cases e<;>first|exact hq.elim|skip
      obtain⟨hd,ht,hb⟩:=hq;have g0:=hI (a3.out.trans (hb.mono a3.out.size));go_wp2;exact bodyPost_ret (results_tmp Tryz.results42 _ _ _) hd ⟨by rw[Array.getD_eq_getD_getElem?,ht];rfl,g0.out⟩
end Go.Proofs.YtlgliddhideflaaGreatDoor
