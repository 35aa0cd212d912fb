/-
  law.Trace.
-/
import Derived.Test.YtaglfmlgbcmakaaGreatDoorG11
set_option linter.all false
set_option maxRecDepth 100000
set_option maxHeartbeats 4000000
namespace Go.Proofs.YtaglfmlgbcmakaaGreatDoor
open Go.RowKit Go.Shelf
attribute [local go_sem] Oper.semAt_some
def Ai2 (w:World)(l:Bi)(ws:List Snd)(e:Ending)(w':World):Prop:=
 ∃A1 c1 A2 n2 c2 ps,e= .returned (.tuple #[.slice A1 (Co l ws).2.length c1, .slice A2 n2 c2, .int .i64 (Co l ws).1])/\Az w' A1 (Co l ws).2.length c1 1 (G9 (Co l ws).2)∧
  ps.map Part.word=(Co l ws).2.map (·.2)/\Az w' A2 n2 c2 1 (ps.map Part.val)/\Hu w' ps/\(∀p∈ps,∀ad,p.1=some ad->w.heap.size<=ad.block)/\Below w.heap.size w w'
theorem done_len {l:Bi}{ws:List Snd}{r:RS}{done:List (Int×List Snd)}(h:Cy l ws r done):done.length<=80:=by
 obtain⟨_,f,_,h⟩:=h;have h1:=K6 l ws 80 (Ca l ws);rw[h]at h1;simp at h1;omega
def Ai3 (K:Act->World->Prop):Exit->Act->World->Prop
 | .normal,a,w=>K a w
 |_,_,_=>False
theorem Xr {P:Program}{n:Nat}{id:Nat}{ops:Array Oper}{Q:Exit->Act->World->Prop}{a:Act}{w:World}(S:World->Prop)(hm:P.follows .mixedOrders=true)
  (hS:S w.drew) (h:S w.drew->Gi P .any ops (Ai3 (Q .normal)) S ops.size (Array.replicate ops.size false) a w.drew):(Code.region id ops true).wpIn Fence.wide n P Q a w:=
 wpIn_mono (Ki (Q:=Ai3 (Q .normal)) S hm hS h) fun e a' w' hq=>by
  cases e<;>first|exact hq|exact hq.elim
theorem Ak.shut {B:Nat}{w w':World}{A:Option Addr}{n c:Nat}{xs:List Snd}(h:Ak w A n c xs)(hs:Jg B w w'):Ak w' A n c xs:=by
 obtain⟨h1,h2,h3,h4,h5⟩:=h;refine⟨h1,h2,h3,h4,fun hn=> ?_⟩
 obtain⟨b,off,rfl,a0,hc⟩:=h5 hn;refine⟨b,off,rfl,by rw[hs.size];exact a0,fun j v hv=> ?_⟩
 rcases hs.block b with e|⟨_,x,e⟩
 ·exact(World.cell?_of_block e).trans (hc j v hv)
 ·have:=hc j v hv
  simp[World.cell?,e]at this
theorem Gq {w:World}{b:Nat}{v:Value}{t:TypeId}(h:w.heap[b]? =some (.cells #[v] t (0,0))):∀j u,[v][j]? =some u->w.cell? ((⟨b,0,none⟩:Addr).add j)=some u:=by
 intro j u hu;rw[Ht,Nat.zero_add,cell_of_row _ _ _ #[v] t (0,0) h];simpa using hu
theorem Ak7 (l:Bi)(a:Dq)(A:Option Addr)(n c:Nat)(ws:List Snd)(w:World)(hl:Df w l a)(hw:Ak w A n c ws)(hT:Cw w):
  Calls Tryz.prog 187 #[Eg l a, .slice A n c] w (Ai2 w l ws):=by
 have HL:=hI hl;clear hl;have HW:=hI hw;clear hw;have HT:=hI hT;clear hT;obtain⟨Wb,i9,f7,j9,f2,j4⟩:=D6 w l a;refine(callsIn_wide (n:=9)).1 (callsIn_of_wp_marks Tryz.func187 rfl trivial ?_ rfl);simp only[Tryz.ntmps187,List.size_toArray,List.length_cons,List.length_nil,Nat.reduceAdd,Nat.reduceSub,Array.replicate_succ,Array.replicate_zero,List.push_toArray,List.append_toArray,List.nil_append,List.cons_append]
 gi_wp2_with (refine Ew rfl (.tmp 2) rfl w.heap.size l a rfl (t:=55) (fr:=(0,0)) (by repeat(first|exact f7|rw[Bc sd])) ?_)
 clear i9;have k0:(((Wb.alloc (.cells #[.slice none 0 0] 36)).alloc (.cells #[.slice none 0 0] 34)).alloc (.cells #[.int .i64 0] 30)).heap[w.heap.size]? =some (.cells (Bw l a) 55 (0,0)):=by repeat(first|exact f7|rw[Bc sd])
 have k4:(((Wb.alloc (.cells #[.slice none 0 0] 36)).alloc (.cells #[.slice none 0 0] 34)).alloc (.cells #[.int .i64 0] 30)).heap[Wb.heap.size]? =some (.cells #[.slice none 0 0] 36 (0,0)):=hpt;have k5:(((Wb.alloc (.cells #[.slice none 0 0] 36)).alloc (.cells #[.slice none 0 0] 34)).alloc (.cells #[.int .i64 0] 30)).heap[Wb.heap.size+1]? =some (.cells #[.slice none 0 0] 34 (0,0)):=hpt;have k6:(((Wb.alloc (.cells #[.slice none 0 0] 36)).alloc (.cells #[.slice none 0 0] 34)).alloc (.cells #[.int .i64 0] 30)).heap[Wb.heap.size+1+1]? =some (.cells #[.int .i64 0] 30 (0,0)):=hpt;have kB:Below w.heap.size w (((Wb.alloc (.cells #[.slice none 0 0] 36)).alloc (.cells #[.slice none 0 0] 34)).alloc (.cells #[.int .i64 0] 30)):=((f2.alloc (by omega) _).alloc (by simp;omega) _).alloc (by simp;omega) _;generalize(((Wb.alloc (.cells #[.slice none 0 0] 36)).alloc (.cells #[.slice none 0 0] 34)).alloc (.cells #[.int .i64 0] 30))=V0 at*;refine⟨trivial, ?_⟩;refine(callsIn_wide.2 (Ags l a A n c ws V0 (HL.out.below kB rr) (HW.out.below kB rr))).mono ?_;rintro e w1 ⟨rfl,b7⟩;have h0:=(b7.block _ (lt_of_block k0)).trans k0;have h4:=(b7.block _ (lt_of_block k4)).trans k4;have h5:=(b7.block _ (lt_of_block k5)).trans k5;have h6:=(b7.block _ (lt_of_block k6)).trans k6;have g1:Below w.heap.size w w1:=kB.trans (b7.mono kB.size);clear b7 k0 k4 k5 k6 kB f7;have l6:=lt_of_block h6;have c4:=cell_of_one h4;have c5:=cell_of_one h5;have c6:=cell_of_one h6;have f4:=free_of_one h4;have f5:=free_of_one h5;have f6:=free_of_one h6;have H0:=hI h0;clear h0;have H4:=hI h4;clear h4;have H5:=hI h5;clear h5;have H6:=hI h6;clear h6;have d8:=hI g1;have j5:=f2.size;clear f2 g1;by_cases he:B7 l ws=0
 case neg=>
  have i7:(B7 l ws !=0)=true:=by simpa using he
  have HM:Hid (Co l ws=(B7 l ws,[])):=by show Co l ws=_;unfold Co;rw[if_pos he]
  clear he;gi_wp2
  have x4:(((w1.setCell ⟨Wb.heap.size,0,none⟩ (.slice none 0 0)).setCell ⟨Wb.heap.size+1,0,none⟩ (.slice none 0 0)).setCell ⟨Wb.heap.size+1+1,0,none⟩ (.int .i64 (B7 l ws))).heap[Wb.heap.size]? =some (.cells #[.slice none 0 0] 36 (0,0)):=
   (Below.heap_setCell _ _ _ _ (by simp;try omega)).trans ((Below.heap_setCell _ _ _ _ (by simp)).trans (one_setCell H4.out))
  have x5:(((w1.setCell ⟨Wb.heap.size,0,none⟩ (.slice none 0 0)).setCell ⟨Wb.heap.size+1,0,none⟩ (.slice none 0 0)).setCell ⟨Wb.heap.size+1+1,0,none⟩ (.int .i64 (B7 l ws))).heap[Wb.heap.size+1]? =some (.cells #[.slice none 0 0] 34 (0,0)):=
   (Below.heap_setCell _ _ _ _ (by simp)).trans (one_setCell ((Below.heap_setCell _ _ _ _ (by simp)).trans H5.out))
  have x6:(((w1.setCell ⟨Wb.heap.size,0,none⟩ (.slice none 0 0)).setCell ⟨Wb.heap.size+1,0,none⟩ (.slice none 0 0)).setCell ⟨Wb.heap.size+1+1,0,none⟩ (.int .i64 (B7 l ws))).heap[Wb.heap.size+1+1]? =some (.cells #[.int .i64 (B7 l ws)] 30 (0,0)):=
   one_setCell ((Below.heap_setCell _ _ _ _ (by simp)).trans ((Below.heap_setCell _ _ _ _ (by simp;try omega)).trans H6.out))
  have xB:Below w.heap.size w (((w1.setCell ⟨Wb.heap.size,0,none⟩ (.slice none 0 0)).setCell ⟨Wb.heap.size+1,0,none⟩ (.slice none 0 0)).setCell ⟨Wb.heap.size+1+1,0,none⟩ (.int .i64 (B7 l ws))):=
   ((d8.out.setCell (p:=⟨Wb.heap.size,0,none⟩) (by simp;omega) _).setCell (p:=⟨Wb.heap.size+1,0,none⟩) (by simp;omega) _).setCell (p:=⟨Wb.heap.size+1+1,0,none⟩) (by simp;omega) _
  refine Gx (B:=w.heap.size) (by exact trivial) fun w' hw'=>⟨_,J8 Tryz.results187 _ _ Wb.heap.size (Wb.heap.size+1) (Wb.heap.size+1+1) none none 0 0 0 0 (B7 l ws) rfl rfl rfl (cell_of_one (hw'.row x4)) (cell_of_one (hw'.row x5)) (cell_of_one (hw'.row x6)), ?_⟩
  refine⟨none,0,none,0,0,[], ?_, ?_, ?_,Az.nil _ _,fun p hp=>by simp at hp,fun p hp=>by simp at hp,xB.trans hw'.below⟩
  ·rw[HM.out];rfl
  ·rw[HM.out];exact Az.nil _ _
  ·rw[HM.out];rfl
 have i7:(B7 l ws !=0)=false:=by simpa using he
 have HE:=hI he;clear he
 gi_wp2_with (refine Ew rfl (.tmp 2) rfl w.heap.size l a rfl (t:=55) (fr:=(0,0)) (by repeat(first|exact H0.out|rw[Bc sd])) ?_)
 have k0:((w1.alloc (.cells #[.slice none 0 0] 36)).alloc (.cells #[.slice none 0 0] 34)).heap[w.heap.size]? =some (.cells (Bw l a) 55 (0,0)):=by repeat(first|exact H0.out|rw[Bc sd])
 have k4:((w1.alloc (.cells #[.slice none 0 0] 36)).alloc (.cells #[.slice none 0 0] 34)).heap[Wb.heap.size]? =some (.cells #[.slice none 0 0] 36 (0,0)):=by repeat(first|exact H4.out|rw[Bc sd])
 have k5:((w1.alloc (.cells #[.slice none 0 0] 36)).alloc (.cells #[.slice none 0 0] 34)).heap[Wb.heap.size+1]? =some (.cells #[.slice none 0 0] 34 (0,0)):=by repeat(first|exact H5.out|rw[Bc sd])
 have k6:((w1.alloc (.cells #[.slice none 0 0] 36)).alloc (.cells #[.slice none 0 0] 34)).heap[Wb.heap.size+1+1]? =some (.cells #[.int .i64 0] 30 (0,0)):=by repeat(first|exact H6.out|rw[Bc sd])
 have k8:((w1.alloc (.cells #[.slice none 0 0] 36)).alloc (.cells #[.slice none 0 0] 34)).heap[w1.heap.size]? =some (.cells #[.slice none 0 0] 36 (0,0)):=hpt;have k9:((w1.alloc (.cells #[.slice none 0 0] 36)).alloc (.cells #[.slice none 0 0] 34)).heap[w1.heap.size+1]? =some (.cells #[.slice none 0 0] 34 (0,0)):=hpt;have kB:Below w.heap.size w ((w1.alloc (.cells #[.slice none 0 0] 36)).alloc (.cells #[.slice none 0 0] 34)):=(d8.out.alloc d8.out.size _).alloc (by have:=d8.out.size;simp;omega) _;clear c4 c5 c6 f4 f5 f6;generalize((w1.alloc (.cells #[.slice none 0 0] 36)).alloc (.cells #[.slice none 0 0] 34))=V1 at*;refine⟨trivial, ?_⟩;refine(callsIn_wide.2 (Ans l a A n c V1)).mono ?_;rintro e w2 ⟨bw,bl,bk,bm,rfl,r1,r2,r3,r4,s1,s2,s3,s4,a9⟩;have j0:=hI (And.intro r1 (And.intro r2 (And.intro r3 r4)));have h4:=hI ((a9.block _ (lt_of_block k4)).trans k4);have h5:=hI ((a9.block _ (lt_of_block k5)).trans k5);have h6:=hI ((a9.block _ (lt_of_block k6)).trans k6);have h8:=hI ((a9.block _ (lt_of_block k8)).trans k8);have h9:=hI ((a9.block _ (lt_of_block k9)).trans k9);have d6:=hI (kB.trans (a9.mono kB.size));have l9:=lt_of_block k9;have l62:=lt_of_block r1;have l63:=lt_of_block r2;have l64:=lt_of_block r3;have l65:=lt_of_block r4;have l66:=a9.size;clear a9 r1 r2 r3 r4 k0 k4 k5 k6 k8 k9 kB;gi_wp2
 have HM:=Qw (show Cc l=0 from by
  have h:=HE.out;unfold B7 at h;by_cases h0:Cc l=0
  ·exact h0
  ·rw[if_neg h0]at h;exact h)
 have d0:n<=32:=by
  have h:=HE.out;unfold B7 at h;by_cases h0:Cc l=0
  ·rw[if_pos h0]at h;unfold B4 at h;have hl:=HW.out.len;rcases Nat.lt_or_ge 32 ws.length with h1|h1
   ·rw[if_pos h1]at h;exact absurd h (by decide)
   ·omega
  ·rw[if_neg h0]at h;exact absurd h h0
 have i3:Cc l=0:=by
  have h:=HE.out;unfold B7 at h;by_cases h0:Cc l=0
  ·exact h0
  ·rw[if_neg h0]at h;exact h
 have HV:=hI i3;clear i3;have a3:=hI HM.2.2.1;clear HM;obtain⟨b4,e4⟩:∃b4,b4=Wb.heap.size:=⟨_,rfl⟩;obtain⟨b5,e5⟩:∃b5,b5=Wb.heap.size+1:=⟨_,rfl⟩;obtain⟨b6,e6⟩:∃b6,b6=Wb.heap.size+1+1:=⟨_,rfl⟩;obtain⟨b8,e8⟩:∃b8,b8=w1.heap.size:=⟨_,rfl⟩;obtain⟨b9,e9⟩:∃b9,b9=w1.heap.size+1:=⟨_,rfl⟩;rw[←e4]at h4;rw[←e5]at h5;rw[←e6]at h6;rw[←e8]at h8;rw[←e9]at h9;rw[←e6,←e5,←e4,←e9,←e8];have i45:b4<b5:=by omega
 have i56:b5<b6:=by omega
 have i68:b6<b8:=by omega
 have i89:b8<b9:=by omega
 have i9v:b9<V1.heap.size:=by omega
 have iw4:w.heap.size<=b4:=by omega
 clear e4 e5 e6 e8 e9 l6 l9;refine Fl (gf:=204) (lb:= #[.pointer (some ⟨bw,0,none⟩), .pointer (some ⟨bl,0,none⟩), .pointer (some ⟨bk,0,none⟩), .pointer (some ⟨bm,0,none⟩)]) rfl (enters_of Tryz.func204 (by kernel_rfl) rfl) fun fn D lr rc W1 hrc hD hlr hK2 hD1 hl1 hs2=> ?_
 have i8:=hI hrc;clear hrc;have j7:D<lr:=by omega
 have j6:lr<W1.heap.size:=by omega
 have j2:w2.heap.size<=D:=by omega
 clear hs2 hD hlr;obtain⟨J,hJ⟩:∃J:RS->TU->World->Prop,J=fun r T W=>∃vp vw done ps,Cy l ws r done/\TS W1.heap.size b4 b5 b6 b8 b9 lr rc W1 vp vw done ps T .ready W:=⟨_,rfl⟩
 have HJ:=hI hJ;clear hJ
 obtain⟨Jx,i2⟩:∃Jx:RS->TU->World->Prop,Jx=fun _ T W=>(E0 l ws 80 (Ca l ws)).2=true/\Ba (fun k=>k=b4\/k=b5\/k=b6\/k=b8\/k=b9\/k=lr) W1 W/\W.heap[b4]? =some (.cells #[.slice none 0 0] 36 (0,0))∧
   W.heap[b5]? =some (.cells #[.slice none 0 0] 34 (0,0))/\W.heap[b6]? =some (.cells #[.int .i64 11] 30 (0,0))/\W.heap[lr]? =some (.loop (rc .done (some .ret)))∧
   (∀k,T.all k->k<W.heap.size∧∀x,W.heap[k]? ≠some (.deferred x))/\T.w b4/\T.w b5/\T.w b6/\T.w lr:=⟨_,rfl⟩
 have d7:=hI i2;clear i2;have g6:=hI hD1;clear hD1;have a5:=hI (d6.out.trans (hK2.to_below (B:=w2.heap.size) (fun k hk=>hk.elim) rr |>.mono d6.out.size))
 have j1:Hid (J (Ca l ws) ⟨fun k=>k=b4\/k=b5\/k=b6\/k=b8\/k=b9\/k=lr\/(Value.slice none 0 0).ownBlock=some k\/(Value.slice none 0 0).ownBlock=some k,fun k=>∃p∈([]:List Part),0<p.2.1∧∃ad,p.1=some ad/\ad.block=k⟩ W1):=by
  show J _ _ _;rw[HJ.out]
  refine⟨.slice none 0 0, .slice none 0 0,[],[],Cy.start l ws (by rw[HW.out.len];exact d0),rfl,rfl,⟨by omega,by omega,by omega,by omega,by omega,by omega⟩,⟨by omega,by omega,by omega,by omega,by omega,by omega,by omega,by omega,by omega,by omega,by omega,by omega,by omega,by omega,by omega⟩,
   (hK2.block _ (lt_of_block h4.out) (by simp)).trans h4.out,(hK2.block _ (lt_of_block h5.out) (by simp)).trans h5.out,(hK2.block _ (lt_of_block h6.out) (by simp)).trans h6.out,(hK2.block _ (lt_of_block h8.out) (by simp)).trans h8.out,(hK2.block _ (lt_of_block h9.out) (by simp)).trans h9.out,
   World.ownsRow_nil _ _ _ _,World.ownsRow_nil _ _ _ _,(fun k hk=>by cases hk),rfl,fun p hp=>by simp at hp,fun p hp=>by simp at hp,Ba.refl _ _,rfl,hl1⟩
 have HR:Hid (Tp lr bw bl bk bm l a A n c ws W1.heap.size J Jx):=by
  refine⟨?hlt, ?hst, ?hsx, ?hrd, ?hnd, ?hnx, ?hskip, ?hy⟩
  case hlt=>
   intro r T W hx k hk;rw[HJ.out]at hx;obtain⟨vp,vw,done,ps,_,hx⟩:=hx;exact hx.lts k hk
  case hst=>
   intro r T W W' hx d1;rw[HJ.out]at hx ⊢;obtain⟨vp,vw,done,ps,hs,hx⟩:=hx;exact⟨vp,vw,done,ps,hs,hx.keep d1⟩
  case hsx=>
   intro r T W W' hx d1;rw[d7.out]at hx ⊢;obtain⟨x1,x2,x3,x4,x5,x6,x7,t4,t5,t6,t7⟩:=hx;have d3:∀k,T.all k->W'.heap[k]? =W.heap[k]? :=fun k hT=>d1.block k (x7 k hT).1 (fun hn=>hn.2 hT)
   exact⟨x1,((x2.mono (S':=fun k=>(k=b4\/k=b5\/k=b6\/k=b8\/k=b9\/k=lr)\/(W1.heap.size<=k∧¬T.all k)) (fun _ e=> .inl e)).trans (d1.mono fun _ e=> .inr e)).old fun k hlt e=>e.resolve_right fun e=>by omega,
    (d3 _ (.inl t4)).trans x3,(d3 _ (.inl t5)).trans x4,(d3 _ (.inl t6)).trans x5,(d3 _ (.inl t7)).trans x6,fun k hk=>⟨Nat.lt_of_lt_of_le (x7 k hk).1 d1.size,fun x=>by rw[d3 k hk];exact(x7 k hk).2 x⟩,t4,t5,t6,t7⟩
  case hrd=>
   intro r T W hx;rw[HJ.out]at hx;obtain⟨vp,vw,done,ps,hs,hx⟩:=hx;have g3:=hx.kp;have g0:Below w.heap.size w W:=a5.out.trans (g3.to_below (fun k hk=>by omega) a5.out.size);obtain⟨r1,r2,r3,r4⟩:=j0.out;have d9:∀k,V1.heap.size<=k->k<w2.heap.size->W.heap[k]? =w2.heap[k]? :=fun k h1 h2=>(g3.block k (by omega) (by omega)).trans (hK2.block k h2 (by simp))
   exact⟨(d9 _ s2 l62).trans r1,(d9 _ s1 l63).trans r2,(d9 _ s3 l64).trans r3,(d9 _ s4 l65).trans r4,HL.out.below g0 rr,HW.out.below g0 rr,HT.out.below g0 rr⟩
  case hnd=>
   intro r T W hx;rw[HJ.out]at hx;obtain⟨vp,vw,done,ps,hs,hx⟩:=hx;exact hx.nds
  case hnx=>
   intro r T W hx k hk;rw[d7.out]at hx;exact(hx.2.2.2.2.2.2.1 k hk).2
  case hskip=>
   intro r T W r' hf hst hx;rw[HJ.out]at hx ⊢;obtain⟨vp,vw,done,ps,hs,hx⟩:=hx;exact⟨vp,vw,done,ps,hs.skip a3.out hf hst,hx⟩
  case hy=>
   intro r T W r' p now A' n' c' hf hst g5 i0 hx;rw[HJ.out]at hx;obtain⟨vp,vw,done,ps,hs,hx⟩:=hx;refine Fm i8.out hx.lp rfl ?_;have HS:=hI hs;have a8:=hI hf;have f0:=hI hst;have a7:=hI g5;have d4:=hI i0;have HX:=hI hx;clear hf hst g5 i0 hx hs;have i6:n'<=9223372036854775807:=a7.out.max;gi_wp2;refine⟨HX.out.lp, ?_⟩;have a2:=HX.out.put .busy;have g8:Ak (W.putObj lr (.loop (rc .busy none))) A' n' c' now:=a7.out.keep (S:=fun k=>k=lr) ((Ba.refl (fun k=>k=lr) W).putObj rfl _) fun _ ad had e=>(d4.out ad had).2 (.inl (by rw[HX.out.tw];simp[e]))
   have g4:Ba (fun k=>k=lr) W (W.putObj lr (.loop (rc .busy none))):=(Ba.refl (fun k=>k=lr) W).putObj rfl _;have g2:(W.putObj lr (.loop (rc .busy none))).heap.size=W.heap.size:=by simp
   generalize W.putObj lr (.loop (rc .busy none))=V at*;have c4:=cell_of_one a2.c4;have c5:=cell_of_one a2.c5;have c6:=cell_of_one a2.c6;have c8:=cell_of_one a2.c8;have c9:=cell_of_one a2.c9;have f4:=free_of_one a2.c4;have f5:=free_of_one a2.c5;have f6:=free_of_one a2.c6;have f8:=free_of_one a2.c8;have f9:=free_of_one a2.c9;have a0:=hI a2;clear a2;have f3:=hI g8;clear g8;have d5:=hI g4;clear g4;have f1:=hI g2;clear g2;have j8:=done_len HS.out;have b2:=a0.out.lt.2.2.2.1;have b3:=a0.out.lt.2.2.2.2.1;by_cases h32:32<n'
   ·gi_wp2
    have xK:Ba T.w W (((V.setCell ⟨b4,0,none⟩ (.slice none 0 0)).setCell ⟨b5,0,none⟩ (.slice none 0 0)).setCell ⟨b6,0,none⟩ (.int .i64 11)):=
     (((d5.out.mono (S':=T.w) (fun k e=>by rw[HX.out.tw];simp[e])).setCell (p:=⟨b4,0,none⟩) (by rw[HX.out.tw];simp) _).setCell (p:=⟨b5,0,none⟩) (by rw[HX.out.tw];simp) _).setCell (p:=⟨b6,0,none⟩) (by rw[HX.out.tw];simp) _
    have xP:Ba (fun k=>k=b4\/k=b5\/k=b6\/k=b8\/k=b9\/k=lr) W1 (((V.setCell ⟨b4,0,none⟩ (.slice none 0 0)).setCell ⟨b5,0,none⟩ (.slice none 0 0)).setCell ⟨b6,0,none⟩ (.int .i64 11)):=
     ((a0.out.kp.setCell (p:=⟨b4,0,none⟩) (by simp) _).setCell (p:=⟨b5,0,none⟩) (by simp) _).setCell (p:=⟨b6,0,none⟩) (by simp) _
    have xo:∀k,k≠b4->k≠b5->k≠b6->(((V.setCell ⟨b4,0,none⟩ (.slice none 0 0)).setCell ⟨b5,0,none⟩ (.slice none 0 0)).setCell ⟨b6,0,none⟩ (.int .i64 11)).heap[k]? =V.heap[k]? :=fun k h1 h2 h3=>
     (Below.heap_setCell _ _ _ _ (by simpa using h3)).trans ((Below.heap_setCell _ _ _ _ (by simpa using h2)).trans (Below.heap_setCell _ _ _ _ (by simpa using h1)))
    have x4:(((V.setCell ⟨b4,0,none⟩ (.slice none 0 0)).setCell ⟨b5,0,none⟩ (.slice none 0 0)).setCell ⟨b6,0,none⟩ (.int .i64 11)).heap[b4]? =some (.cells #[.slice none 0 0] 36 (0,0)):=
     (Below.heap_setCell _ _ _ _ (by simp;omega)).trans ((Below.heap_setCell _ _ _ _ (by simp;omega)).trans (one_setCell a0.out.c4))
    have x5:(((V.setCell ⟨b4,0,none⟩ (.slice none 0 0)).setCell ⟨b5,0,none⟩ (.slice none 0 0)).setCell ⟨b6,0,none⟩ (.int .i64 11)).heap[b5]? =some (.cells #[.slice none 0 0] 34 (0,0)):=
     (Below.heap_setCell _ _ _ _ (by simp;omega)).trans (one_setCell ((Below.heap_setCell _ _ _ _ (by simp;omega)).trans a0.out.c5))
    have x6:(((V.setCell ⟨b4,0,none⟩ (.slice none 0 0)).setCell ⟨b5,0,none⟩ (.slice none 0 0)).setCell ⟨b6,0,none⟩ (.int .i64 11)).heap[b6]? =some (.cells #[.int .i64 11] 30 (0,0)):=
     one_setCell ((Below.heap_setCell _ _ _ _ (by simp;omega)).trans ((Below.heap_setCell _ _ _ _ (by simp;omega)).trans a0.out.c6))
    have xs:(((V.setCell ⟨b4,0,none⟩ (.slice none 0 0)).setCell ⟨b5,0,none⟩ (.slice none 0 0)).setCell ⟨b6,0,none⟩ (.int .i64 11)).heap.size=V.heap.size:=by simp
    have g7:=a0.out.ds;have hlt:=a0.out.lt;have xl:=(xo lr (by omega) (by omega) (by omega)).trans a0.out.lp;generalize(((V.setCell ⟨b4,0,none⟩ (.slice none 0 0)).setCell ⟨b5,0,none⟩ (.slice none 0 0)).setCell ⟨b6,0,none⟩ (.int .i64 11))=X at*;refine⟨xl, .inr ⟨rfl, ?_,xK.putObj (by rw[HX.out.tw];simp) _⟩⟩;have po:∀k,k≠lr->(X.putObj lr (.loop (rc .done (some .ret)))).heap[k]? =X.heap[k]? :=fun k hk=>World.putObj_heap_other hk
    have pl:(X.putObj lr (.loop (rc .done (some .ret)))).heap[lr]? =some (.loop (rc .done (some .ret))):=World.putObj_heap_same (lt_of_block xl);rw[d7.out];refine⟨HS.out.long a3.out a8.out f0.out (by rw[a7.out.len];exact h32),xP.putObj (by simp) _,(po _ (by omega)).trans x4,(po _ (by omega)).trans x5,(po _ (by omega)).trans x6,pl,fun k hk=>⟨?_,fun x=> ?_⟩, ?_, ?_, ?_, ?_⟩
    ·have h1:=a0.out.lts k hk;have h2:(X.putObj lr (.loop (rc .done (some .ret)))).heap.size=X.heap.size:=by simp
     omega
    ·by_cases e:k=lr
     ·subst e;rw[pl];simp
     rw[po k e];by_cases e4:k=b4
     ·subst e4;rw[x4];simp
     by_cases e5:k=b5
     ·subst e5;rw[x5];simp
     by_cases e6:k=b6
     ·subst e6;rw[x6];simp
     rw[xo k e4 e5 e6];exact a0.out.nds k hk x
    ·rw[HX.out.tw];simp
    ·rw[HX.out.tw];simp
    ·rw[HX.out.tw];simp
    ·rw[HX.out.tw];simp
   ·gi_wp2;clear c4 c5 c6 f4 f5 f6 f8 f9;refine Ui 7 (fun W'=>W'.cell? ⟨b8,0,none⟩=some vp/\W'.cell? ⟨b9,0,none⟩=some vw) (by kernel_rfl) (by kernel_rfl) (fun _ _ h=>by exact h) ⟨c8,c9⟩ (fun hHeld=> ?_)
    (refine' Ct (i:=0) 3 (v:=_) rfl (by kernel_rfl) (by kernel_rfl) (by kernel_rfl) (by kernel_rfl) (fun _ _ _ h=>h) (Or.inl ⟨by rfl,fun w' hSw=>by(try dsimp only at hSw);go_split_ands;go_simp;(try with_reducible rfl)⟩) (by assumption) ?_;(try simp only[Act.put,nY,nX]));(refine' Ct (i:=1) 2 (v:=_) rfl (by kernel_rfl) (by kernel_rfl) (by kernel_rfl) (by kernel_rfl) (fun _ _ _ h=>h) (Or.inl ⟨by rfl,fun w' hSw=>by(try dsimp only at hSw);go_split_ands;go_simp;(try with_reducible rfl)⟩) (by assumption) ?_;(try simp only[Act.put,nY,nX]));(refine' Ct (i:=4) 7 (v:=_) rfl (by kernel_rfl) (by kernel_rfl) (by kernel_rfl) (by kernel_rfl) (fun _ _ _ h=>h) (Or.inl ⟨by rfl,fun w' hSw=>by(try dsimp only at hSw);go_split_ands;go_simp;(try with_reducible rfl)⟩) (by assumption) ?_;(try simp only[Act.put,nY,nX]));(refine' Ct (i:=5) 6 (v:=_) rfl (by kernel_rfl) (by kernel_rfl) (by kernel_rfl) (by kernel_rfl) (fun _ _ _ h=>h) (Or.inl ⟨by rfl,fun w' hSw=>by(try dsimp only at hSw);go_split_ands;go_simp;(try with_reducible rfl)⟩) (by assumption) ?_;(try simp only[Act.put,nY,nX]))
    have t0:=a0.out.tr;refine Aaf (i:=2) (j:=6) (by kernel_rfl) rfl rfl (fun K' hK'=> ?_) (fun K' hK'=> ?_)
    ·have t1:=(t0.alloc (.cells #[.int .i64 p] 3)).drew;have z1:(V.alloc (.cells #[.int .i64 p] 3)).drew.heap[V.heap.size]? =some (.cells #[.int .i64 p] 3 (0,0)):=Am rfl;rw[if_pos (by rfl)];go_simp;refine hK' _ _ ⟨.inr ⟨cell_of_one t1.c8,cell_of_one t1.c9⟩,fun _=> ?_⟩
     clear hK' K'
     (try simp only[Act.put,nY,nX])
     first|generalize(V.alloc (.cells #[.int .i64 p] 3)).drew=X1 at* |generalize(V.alloc (.cells #[.int .i64 p] 3))=X1 at*
     refine Aaf (i:=3) (j:=6) (by kernel_rfl) rfl rfl (fun K' hK'=> ?_) (fun K' hK'=> ?_)
     ·rw[if_pos (by rfl)];refine Ce (.tmp 26) (.tmp 28) 36 rfl W1.heap.size 3 (.int .i64 0) 1 8 Tryz.underlying36 Hv rfl (by decide) vp done.length (G9 done) (by rfl) t1.o8 ⟨V.heap.size,0,none⟩ 1 1 [.int .i64 p] (by rfl) rfl (Gq z1) (by intro u hu;simp at hu;subst hu;rfl) (by unfold maxLen;omega) (by omega) (by have:=t1.kp.size;have:=a0.out.kp.size;omega) ?_;intro vp' X2 a1 hg _ a4;have t2:=t1.push8 b2 b3 a1 hg a4;refine hK' _ _ ⟨.inr ⟨cell_of_one t2.c8,cell_of_one t2.c9⟩,fun _=> ?_⟩
      clear hK' K' a1 a4
      (try simp only[Act.put,nY,nX])
      have t3:=t2.alloc (.cells #[.slice A' n' c'] 28);have z3:(X2.alloc (.cells #[.slice A' n' c'] 28)).heap[X2.heap.size]? =some (.cells #[.slice A' n' c'] 28 (0,0)):=Am rfl;refine Fy (i:=6) (by kernel_rfl) rfl (fun K' hK'=> ?_);rw[if_pos (by rfl)];go_simp;refine hK' _ _ ⟨.inr ⟨cell_of_one t3.c8,cell_of_one t3.c9⟩,fun _=> ?_⟩
      clear hK' K'
      (try simp only[Act.put,nY,nX])
      first|generalize(X2.alloc (.cells #[.slice A' n' c'] 28)).drew=X3 at* |generalize(X2.alloc (.cells #[.slice A' n' c'] 28))=X3 at*
      refine Fy (i:=7) (by kernel_rfl) rfl (fun K' hK'=> ?_);rw[if_pos (by rfl)];refine Ce (.tmp 30) (.tmp 32) 34 rfl W1.heap.size 28 (.slice none 0 0) 1 24 Tryz.underlying34 Ls rfl (by decide) vw done.length (ps.map Part.val) (by rfl) t3.o9 ⟨X2.heap.size,0,none⟩ 1 1 [.slice A' n' c'] (by rfl) rfl (Gq z3) (by intro u hu;simp at hu;subst hu;rfl) (by unfold maxLen;omega) (by omega) (by have:=t3.kp.size;have:=a0.out.kp.size;omega) ?_;intro vw' X4 a1 b0 _ a4;have t4:=t3.push9 b2 b3 a1 b0 a4;refine hK' _ _ ⟨.inl (by kernel_rfl),fun _=>Jo _ _ _ _ (by kernel_rfl) ?_⟩
      clear hK' K' a1 a4
      (try simp only[Act.put,nY,nX])
      have T4:=hI t4;clear t1 t2 t3 z1 z3 t0 hg b0 t4 hHeld c8 c9;obtain⟨A8,k8,rfl⟩:=Bh T4.out.o8;obtain⟨A9,k9,rfl⟩:=Bh T4.out.o9;have c8:=cell_of_one T4.out.c8;have f8:=free_of_one T4.out.c8
      (refine Anv 8 rfl (fun K' hK'=> ?_);simp only[nY];go_simp)
      refine hK' _ _ ⟨.inr trivial,fun _=> ?_⟩
      clear hK' K' c8 f8;obtain⟨X5,a6⟩:∃X5,X4.setCell ⟨b8,0,none⟩ (.slice A8 (done.length+1) k8)=X5:=⟨_,rfl⟩;have g9:X5.heap[b9]? =some (.cells #[vw] 34 (0,0)):=by rw[←a6];exact(Below.heap_setCell _ _ _ _ (by simp;omega)).trans T4.out.c9
      rw[a6];have d2:=hI a6;clear a6;have c9:=cell_of_one g9;have f9:=free_of_one g9;clear g9
      (try simp only[Act.put,nY,nX])
      (refine Anv 9 rfl (fun K' hK'=> ?_);simp only[nY];go_simp)
      refine hK' _ _ ⟨.inr trivial,fun _=>Bf (by kernel_rfl) ?_ _⟩
      clear hK' K' c9 f9;obtain⟨T',p1,p2,p3,p4⟩:=a0.out.push (p:=p) f3.out d4.out T4.out;rw[d2.out]at p1 p2;rw[f1.out]at p3 p4;refine⟨p1.lp, .inl ⟨rfl,by rw[a7.out.len];omega,T', ?_,((d5.out.mono (S':=T.w) (fun k e=>by rw[HX.out.tw];simp[e])).trans p2).putObj (by rw[HX.out.tw];simp) _,p3,p4⟩⟩;rw[HJ.out];exact⟨_,_,_,_,HS.out.step a3.out a8.out f0.out (by rw[a7.out.len];omega),p1.put .ready⟩
     ·have t2:=t1.alloc (.cells #[.slice A' n' c'] 28);have z2:(X1.alloc (.cells #[.slice A' n' c'] 28)).heap[V.heap.size]? =some (.cells #[.int .i64 p] 3 (0,0)):=(Bc (lt_of_block z1)).trans z1;have z3:(X1.alloc (.cells #[.slice A' n' c'] 28)).heap[X1.heap.size]? =some (.cells #[.slice A' n' c'] 28 (0,0)):=Am rfl;have i5:=t1.kp.size;rw[if_pos (by rfl)];go_simp;refine hK' _ _ ⟨.inr ⟨cell_of_one t2.c8,cell_of_one t2.c9⟩,fun _=> ?_⟩
      clear hK' K'
      (try simp only[Act.put,nY,nX])
      first|generalize(X1.alloc (.cells #[.slice A' n' c'] 28)).drew=X2 at* |generalize(X1.alloc (.cells #[.slice A' n' c'] 28))=X2 at*
      refine Fy (i:=3) (by kernel_rfl) rfl (fun K' hK'=> ?_);rw[if_pos (by rfl)];refine Ce (.tmp 26) (.tmp 28) 36 rfl W1.heap.size 3 (.int .i64 0) 1 8 Tryz.underlying36 Hv rfl (by decide) vp done.length (G9 done) (by rfl) t2.o8 ⟨V.heap.size,0,none⟩ 1 1 [.int .i64 p] (by rfl) rfl (Gq z2) (by intro u hu;simp at hu;subst hu;rfl) (by unfold maxLen;omega) (by omega) (by have:=t2.kp.size;have:=a0.out.kp.size;omega) ?_;intro vp' X3 a1 hg _ a4;have t3:=t2.push8 b2 b3 a1 hg a4;refine hK' _ _ ⟨.inr ⟨cell_of_one t3.c8,cell_of_one t3.c9⟩,fun _=> ?_⟩
      clear hK' K' a1 a4
      (try simp only[Act.put,nY,nX])
      have z4:X3.heap[X1.heap.size]? =some (.cells #[.slice A' n' c'] 28 (0,0)):=(hg.block _ (lt_of_block z3) (fun e=>by have:=(t0.o8.lt _ e.symm).2;omega)).trans z3;refine Fy (i:=7) (by kernel_rfl) rfl (fun K' hK'=> ?_);rw[if_pos (by rfl)];refine Ce (.tmp 30) (.tmp 32) 34 rfl W1.heap.size 28 (.slice none 0 0) 1 24 Tryz.underlying34 Ls rfl (by decide) vw done.length (ps.map Part.val) (by rfl) t3.o9 ⟨X1.heap.size,0,none⟩ 1 1 [.slice A' n' c'] (by rfl) rfl (Gq z4) (by intro u hu;simp at hu;subst hu;rfl) (by unfold maxLen;omega) (by omega) (by have:=t3.kp.size;have:=a0.out.kp.size;omega) ?_;intro vw' X4 a1 b0 _ a4;have t4:=t3.push9 b2 b3 a1 b0 a4;refine hK' _ _ ⟨.inl (by kernel_rfl),fun _=>Jo _ _ _ _ (by kernel_rfl) ?_⟩
      clear hK' K' a1 a4
      (try simp only[Act.put,nY,nX])
      have T4:=hI t4;clear t1 t2 t3 z1 z2 z3 z4 t0 hg b0 t4 hHeld c8 c9 i5;obtain⟨A8,k8,rfl⟩:=Bh T4.out.o8;obtain⟨A9,k9,rfl⟩:=Bh T4.out.o9;have c8:=cell_of_one T4.out.c8;have f8:=free_of_one T4.out.c8
      (refine Anv 8 rfl (fun K' hK'=> ?_);simp only[nY];go_simp)
      refine hK' _ _ ⟨.inr trivial,fun _=> ?_⟩
      clear hK' K' c8 f8;obtain⟨X5,a6⟩:∃X5,X4.setCell ⟨b8,0,none⟩ (.slice A8 (done.length+1) k8)=X5:=⟨_,rfl⟩;have g9:X5.heap[b9]? =some (.cells #[vw] 34 (0,0)):=by rw[←a6];exact(Below.heap_setCell _ _ _ _ (by simp;omega)).trans T4.out.c9
      rw[a6];have d2:=hI a6;clear a6;have c9:=cell_of_one g9;have f9:=free_of_one g9;clear g9
      (try simp only[Act.put,nY,nX])
      (refine Anv 9 rfl (fun K' hK'=> ?_);simp only[nY];go_simp)
      refine hK' _ _ ⟨.inr trivial,fun _=>Bf (by kernel_rfl) ?_ _⟩
      clear hK' K' c9 f9;obtain⟨T',p1,p2,p3,p4⟩:=a0.out.push (p:=p) f3.out d4.out T4.out;rw[d2.out]at p1 p2;rw[f1.out]at p3 p4;refine⟨p1.lp, .inl ⟨rfl,by rw[a7.out.len];omega,T', ?_,((d5.out.mono (S':=T.w) (fun k e=>by rw[HX.out.tw];simp[e])).trans p2).putObj (by rw[HX.out.tw];simp) _,p3,p4⟩⟩;rw[HJ.out];exact⟨_,_,_,_,HS.out.step a3.out a8.out f0.out (by rw[a7.out.len];omega),p1.put .ready⟩
    ·have t1:=(t0.alloc (.cells #[.slice A' n' c'] 28)).drew;have z1:(V.alloc (.cells #[.slice A' n' c'] 28)).drew.heap[V.heap.size]? =some (.cells #[.slice A' n' c'] 28 (0,0)):=Am rfl;rw[if_pos (by rfl)];go_simp;refine hK' _ _ ⟨.inr ⟨cell_of_one t1.c8,cell_of_one t1.c9⟩,fun _=> ?_⟩
     clear hK' K'
     (try simp only[Act.put,nY,nX])
     first|generalize(V.alloc (.cells #[.slice A' n' c'] 28)).drew=X1 at* |generalize(V.alloc (.cells #[.slice A' n' c'] 28))=X1 at*
     have t2:=t1.alloc (.cells #[.int .i64 p] 3);have z2:(X1.alloc (.cells #[.int .i64 p] 3)).heap[V.heap.size]? =some (.cells #[.slice A' n' c'] 28 (0,0)):=(Bc (lt_of_block z1)).trans z1;have z3:(X1.alloc (.cells #[.int .i64 p] 3)).heap[X1.heap.size]? =some (.cells #[.int .i64 p] 3 (0,0)):=Am rfl;refine Fy (i:=2) (by kernel_rfl) rfl (fun K' hK'=> ?_);rw[if_pos (by rfl)];go_simp;refine hK' _ _ ⟨.inr ⟨cell_of_one t2.c8,cell_of_one t2.c9⟩,fun _=> ?_⟩
     clear hK' K'
     (try simp only[Act.put,nY,nX])
     first|generalize(X1.alloc (.cells #[.int .i64 p] 3)).drew=X2 at* |generalize(X1.alloc (.cells #[.int .i64 p] 3))=X2 at*
     refine Fy (i:=3) (by kernel_rfl) rfl (fun K' hK'=> ?_);rw[if_pos (by rfl)];refine Ce (.tmp 26) (.tmp 28) 36 rfl W1.heap.size 3 (.int .i64 0) 1 8 Tryz.underlying36 Hv rfl (by decide) vp done.length (G9 done) (by rfl) t2.o8 ⟨X1.heap.size,0,none⟩ 1 1 [.int .i64 p] (by rfl) rfl (Gq z3) (by intro u hu;simp at hu;subst hu;rfl) (by unfold maxLen;omega) (by omega) (by have:=t2.kp.size;have:=a0.out.kp.size;omega) ?_;intro vp' X3 a1 hg _ a4;have t3:=t2.push8 b2 b3 a1 hg a4;refine hK' _ _ ⟨.inr ⟨cell_of_one t3.c8,cell_of_one t3.c9⟩,fun _=> ?_⟩
     clear hK' K' a1 a4
     (try simp only[Act.put,nY,nX])
     have z4:X3.heap[V.heap.size]? =some (.cells #[.slice A' n' c'] 28 (0,0)):=(hg.block _ (lt_of_block z2) (fun e=>by have:=(t0.o8.lt _ e.symm).2;omega)).trans z2;refine Fy (i:=7) (by kernel_rfl) rfl (fun K' hK'=> ?_);rw[if_pos (by rfl)];refine Ce (.tmp 30) (.tmp 32) 34 rfl W1.heap.size 28 (.slice none 0 0) 1 24 Tryz.underlying34 Ls rfl (by decide) vw done.length (ps.map Part.val) (by rfl) t3.o9 ⟨V.heap.size,0,none⟩ 1 1 [.slice A' n' c'] (by rfl) rfl (Gq z4) (by intro u hu;simp at hu;subst hu;rfl) (by unfold maxLen;omega) (by omega) (by have:=t3.kp.size;have:=a0.out.kp.size;omega) ?_;intro vw' X4 a1 b0 _ a4;have t4:=t3.push9 b2 b3 a1 b0 a4;refine hK' _ _ ⟨.inl (by kernel_rfl),fun _=>Jo _ _ _ _ (by kernel_rfl) ?_⟩
     clear hK' K' a1 a4
     (try simp only[Act.put,nY,nX])
     have T4:=hI t4;clear t1 t2 t3 z1 z2 z3 z4 t0 hg b0 t4 hHeld c8 c9;obtain⟨A8,k8,rfl⟩:=Bh T4.out.o8;obtain⟨A9,k9,rfl⟩:=Bh T4.out.o9;have c8:=cell_of_one T4.out.c8;have f8:=free_of_one T4.out.c8
     (refine Anv 8 rfl (fun K' hK'=> ?_);simp only[nY];go_simp)
     refine hK' _ _ ⟨.inr trivial,fun _=> ?_⟩
     clear hK' K' c8 f8;obtain⟨X5,a6⟩:∃X5,X4.setCell ⟨b8,0,none⟩ (.slice A8 (done.length+1) k8)=X5:=⟨_,rfl⟩;have g9:X5.heap[b9]? =some (.cells #[vw] 34 (0,0)):=by rw[←a6];exact(Below.heap_setCell _ _ _ _ (by simp;omega)).trans T4.out.c9
     rw[a6];have d2:=hI a6;clear a6;have c9:=cell_of_one g9;have f9:=free_of_one g9;clear g9
     (try simp only[Act.put,nY,nX])
     (refine Anv 9 rfl (fun K' hK'=> ?_);simp only[nY];go_simp)
     refine hK' _ _ ⟨.inr trivial,fun _=>Bf (by kernel_rfl) ?_ _⟩
     clear hK' K' c9 f9;obtain⟨T',p1,p2,p3,p4⟩:=a0.out.push (p:=p) f3.out d4.out T4.out;rw[d2.out]at p1 p2;rw[f1.out]at p3 p4;refine⟨p1.lp, .inl ⟨rfl,by rw[a7.out.len];omega,T', ?_,((d5.out.mono (S':=T.w) (fun k e=>by rw[HX.out.tw];simp[e])).trans p2).putObj (by rw[HX.out.tw];simp) _,p3,p4⟩⟩;rw[HJ.out];exact⟨_,_,_,_,HS.out.step a3.out a8.out f0.out (by rw[a7.out.len];omega),p1.put .ready⟩
 refine(Amy (9-1) lr bw bl bk bm (by omega) l a A n c ws W1 J Jx _ HR.out j1.out HV.out d0).mono ?_;rintro e W' ⟨⟨v,rfl⟩,⟨r,T,q1,hx⟩|⟨r,T,hx⟩⟩
 ·rw[HJ.out]at hx;obtain⟨vp,vw,done,ps,hs,hx⟩:=hx;refine .inl ⟨hx.lp, ?_⟩
  have b1:Hid (Co l ws=(0,done)):=by
   show Co l ws=_;unfold Co;rw[if_neg (by rw[HE.out];simp),hs.fin q1];rfl
  clear hs q1;have a2:=hx.put .exhausted;clear hx;generalize W'.putObj lr (.loop (rc .exhausted none))=X at*;obtain⟨A8,k8,rfl⟩:=Bh a2.o8;obtain⟨A9,k9,rfl⟩:=Bh a2.o9;have c8:=cell_of_one a2.c8;have c9:=cell_of_one a2.c9;have c4:=cell_of_one a2.c4;have c5:=cell_of_one a2.c5;have c6:=cell_of_one a2.c6;have f4:=free_of_one a2.c4;have f5:=free_of_one a2.c5;have f6:=free_of_one a2.c6;have a0:=hI a2;clear a2;gi_wp2;refine Xr (fun W'=>W'.cell? ⟨b8,0,none⟩=some (.slice A8 done.length k8)/\W'.cell? ⟨b9,0,none⟩=some (.slice A9 done.length k9)) (by kernel_rfl) ⟨c8,c9⟩ (fun hHeld=> ?_)
  (refine' Ae 0 rfl ?_;(try simp only[Act.put,nY,nX]));(refine' Ae 1 rfl ?_;(try simp only[Act.put,nY,nX]))
  (refine Anv 2 rfl (fun K' hK'=> ?_);simp only[nY];go_simp)
  clear c4 f4;have g7:=a0.out.ds;have hlt:=a0.out.lt;obtain⟨Y,hY⟩:∃Y,X.setCell ⟨b4,0,none⟩ (.slice A8 done.length k8)=Y:=⟨_,rfl⟩;have y4:Y.heap[b4]? =some (.cells #[.slice A8 done.length k8] 36 (0,0)):=by rw[←hY];exact one_setCell a0.out.c4
  have yo:∀k,k≠b4->Y.heap[k]? =X.heap[k]? :=fun k hk=>by rw[←hY];exact Below.heap_setCell _ _ _ _ (by simpa using hk)
  have yK:Ba (fun k=>k=b4\/k=b5\/k=b6) X Y:=by rw[←hY];exact(Ba.refl (fun k=>k=b4\/k=b5\/k=b6) X).setCell (p:=⟨b4,0,none⟩) (.inl rfl) _
  rw[hY];clear hY;have y5:=(yo b5 (by omega)).trans a0.out.c5;have y6:=(yo b6 (by omega)).trans a0.out.c6;have y8:=(yo b8 (by omega)).trans a0.out.c8;have y9:=(yo b9 (by omega)).trans a0.out.c9;refine hK' _ _ ⟨.inr ⟨cell_of_one y8,cell_of_one y9⟩,fun _=> ?_⟩
  clear hK' K' c5 c6 c8 c9 f5 f6;have c5:=cell_of_one y5;have f5:=free_of_one y5
  (try simp only[Act.put,nY,nX])
  (refine Anv 3 rfl (fun K' hK'=> ?_);simp only[nY];go_simp)
  obtain⟨Z,hZ⟩:∃Z,Y.setCell ⟨b5,0,none⟩ (.slice A9 done.length k9)=Z:=⟨_,rfl⟩;have z5:Z.heap[b5]? =some (.cells #[.slice A9 done.length k9] 34 (0,0)):=by rw[←hZ];exact one_setCell y5
  have zo:∀k,k≠b5->Z.heap[k]? =Y.heap[k]? :=fun k hk=>by rw[←hZ];exact Below.heap_setCell _ _ _ _ (by simpa using hk)
  have zK:Ba (fun k=>k=b4\/k=b5\/k=b6) X Z:=by rw[←hZ];exact yK.setCell (p:=⟨b5,0,none⟩) (.inr (.inl rfl)) _
  try rw[hZ]
  clear hZ;have z4:=(zo b4 (by omega)).trans y4;have z6:=(zo b6 (by omega)).trans y6;have z8:=(zo b8 (by omega)).trans y8;have z9:=(zo b9 (by omega)).trans y9;refine hK' _ _ ⟨.inr ⟨cell_of_one z8,cell_of_one z9⟩,fun _=> ?_⟩
  clear hK' K' c5 f5 y4 y5 y6 y8 y9;have c6:=cell_of_one z6;have f6:=free_of_one z6
  (try simp only[Act.put,nY,nX])
  (refine Anv 4 rfl (fun K' hK'=> ?_);simp only[nY];go_simp)
  refine hK' _ _ ⟨.inl (by kernel_rfl),fun _=>Bf (by kernel_rfl) ?_ _⟩
  clear hK' K';obtain⟨U,hU⟩:∃U,Z.setCell ⟨b6,0,none⟩ (.int .i64 0)=U:=⟨_,rfl⟩;have u6:U.heap[b6]? =some (.cells #[.int .i64 0] 30 (0,0)):=by rw[←hU];exact one_setCell z6
  have uo:∀k,k≠b6->U.heap[k]? =Z.heap[k]? :=fun k hk=>by rw[←hU];exact Below.heap_setCell _ _ _ _ (by simpa using hk)
  have uK:Ba (fun k=>k=b4\/k=b5\/k=b6) X U:=by rw[←hU];exact zK.setCell (p:=⟨b6,0,none⟩) (.inr (.inr rfl)) _
  try rw[hU]
  clear hU;have u4:=(uo b4 (by omega)).trans z4;have u5:=(uo b5 (by omega)).trans z5;have uP:=a0.out.kp.trans (uK.mono (S':=fun k=>k=b4\/k=b5\/k=b6\/k=b8\/k=b9\/k=lr) (fun k e=>by rcases e with e|e|e<;>simp[e]))
  have uo8:U.ownsRow W1.heap.size 3 1 (.slice A8 done.length k8) done.length (G9 done):=Bj a0.out.o8 fun k e=>by
   have:=(a0.out.o8.lt k e).1
   exact uK.block k (a0.out.o8.lt k e).2 (by omega)
  have uo9:U.ownsRow W1.heap.size 28 1 (.slice A9 done.length k9) done.length (ps.map Part.val):=Bj a0.out.o9 fun k e=>by
   have:=(a0.out.o9.lt k e).1
   exact uK.block k (a0.out.o9.lt k e).2 (by omega)
  have upp:Hu U ps:=fun p hp=>(a0.out.pp p hp).keep uK fun hn ad had e=>by
   have:=(a0.out.pd p hp ad had).1
   omega
  clear c6 f6 z4 z5 z6 z8 z9;have U4:=hI u4;clear u4;have U5:=hI u5;clear u5;have U6:=hI u6;clear u6;have UO8:=hI uo8;clear uo8;have UO9:=hI uo9;clear uo9;have UPP:=hI upp;clear upp;have UP:=hI uP;clear uP uK zK yK uo zo yo;clear g7;have j3:W1.heap.size<=U.heap.size:=UP.out.size;have i4:=a5.out.size;simp only[Ai3];gi_wp2;have hM:D4 w.heap.size U.drew [Le D]:=⟨D,rfl,by have:=d6.out.size;omega,(UP.out.block D (by omega) (by omega)).trans g6.out,by simp,trivial⟩;refine Gx (B:=w.heap.size) hM fun w' hw'=>⟨_,J8 Tryz.results187 _ _ b4 b5 b6 A8 A9 done.length k8 done.length k9 0 rfl rfl rfl (cell_of_one (hw'.row (w:=U.drew) U4.out)) (cell_of_one (hw'.row (w:=U.drew) U5.out)) (cell_of_one (hw'.row (w:=U.drew) U6.out)), ?_⟩
  have o8':=Pl (w:=U.drew) UO8.out hw';have o9':=Pl (w:=U.drew) UO9.out hw';refine⟨A8,k8,A9,done.length,k9,ps, ?_, ?_, ?_,Az.of_own o9' (by decide),fun p hp=> ?_,fun p hp ad had=> ?_,(a5.out.trans (UP.out.drew.to_below (fun k hk=>by omega) a5.out.size)).trans hw'.below⟩
  ·rw[b1.out]
  ·rw[b1.out];exact Az.of_own o8' (by decide)
  ·rw[b1.out];exact a0.out.pw
  ·exact Ak.shut (w:=U.drew) (UPP.out p hp) hw'
  ·have:=(a0.out.pd p hp ad had).1
   omega
 ·rw[d7.out]at hx;obtain⟨x1,x2,x3,x4,x5,x6,_⟩:=hx;refine .inr ⟨.ret,x6, ?_⟩
  have b1:Hid (Co l ws=(11,[])):=by
   show Co l ws=_;unfold Co;rw[if_neg (by rw[HE.out];simp),if_pos x1]
  have i1:=x2.putObj (l:=lr) (by simp) (.loop (rc .exhausted (some .ret)));have po:∀k,k≠lr->(W'.putObj lr (.loop (rc .exhausted (some .ret)))).heap[k]? =W'.heap[k]? :=fun k hk=>World.putObj_heap_other hk
  have y4:=(po b4 (by omega)).trans x3;have y5:=(po b5 (by omega)).trans x4;have y6:=(po b6 (by omega)).trans x5;clear po x1 x2 x3 x4 x5 x6;generalize W'.putObj lr (.loop (rc .exhausted (some .ret)))=X at*;gi_wp2;have hM:D4 w.heap.size X [Le D]:=⟨D,rfl,by have:=d6.out.size;omega,(i1.block D (by omega) (by omega)).trans g6.out,by simp,trivial⟩;refine Gx (B:=w.heap.size) hM fun w' hw'=>⟨_,J8 Tryz.results187 _ _ b4 b5 b6 none none 0 0 0 0 11 rfl rfl rfl (cell_of_one (hw'.row y4)) (cell_of_one (hw'.row y5)) (cell_of_one (hw'.row y6)), ?_⟩
  refine⟨none,0,none,0,0,[], ?_, ?_, ?_,Az.nil _ _,fun p hp=>by simp at hp,fun p hp=>by simp at hp,(a5.out.trans (i1.to_below (fun k hk=>by omega) a5.out.size)).trans hw'.below⟩
  ·rw[b1.out];rfl
  ·rw[b1.out];exact Az.nil _ _
  ·rw[b1.out];rfl
end Go.Proofs.YtaglfmlgbcmakaaGreatDoor
