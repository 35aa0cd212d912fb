/-
  wave.arrived, wave.line.
  wave.line.
  wave.Line.
  wave.Forms.
-/
import Derived.Test.YtaglfmlgbcmakaaGreatDoorH04
import Derived.Test.YtaglfmlgbcmakaaGreatDoorG38
import Derived.Test.YtaglfmlgbcmakaaGreatDoorG21
set_option linter.all false
set_option maxRecDepth 100000
set_option maxHeartbeats 4000000
namespace Go.Proofs.YtaglfmlgbcmakaaGreatDoor
open Go.RowKit Go.Shelf
attribute [local go_sem] Oper.semAt_some
structure Ags (W:World)(b1 b2 b3 b4:Nat)(A:Option Addr)(m c mb:Nat)(a:Int)(fv:Value):Prop where
 c1:W.heap[b1]? =some (.cells #[.slice A m c] 27 (0,0))
 c2:W.heap[b2]? =some (.cells #[.pointer (some ⟨mb,0,none⟩)] 29 (0,0))
 c3:W.heap[b3]? =some (.cells #[.int .i64 a] 3 (0,0))
 c4:W.heap[b4]? =some (.cells #[fv] 161 (0,0))
theorem Ags.keep {W W':World}{b1 b2 b3 b4:Nat}{A:Option Addr}{m c mb:Nat}{a:Int}{fv:Value}(h:Ags W b1 b2 b3 b4 A m c mb a fv)(hk:Ak (fun _=>False) W W'):Ags W' b1 b2 b3 b4 A m c mb a fv:=
 ⟨(hk.block _ (lt_of_block h.c1) (fun h=>h)).trans h.c1,(hk.block _ (lt_of_block h.c2) (fun h=>h)).trans h.c2,(hk.block _ (lt_of_block h.c3) (fun h=>h)).trans h.c3,(hk.block _ (lt_of_block h.c4) (fun h=>h)).trans h.c4⟩
theorem Abt (mb:Nat)(A:Option Addr)(m c:Nat)(a:Int)(bn:Nat)(w:World):
  Calls Tryz.prog 102 #[.pointer (some ⟨mb,0,none⟩), .slice A m c, .int .i64 a, .func (.func 103) #[] #[.pointer (some ⟨bn,0,none⟩)]] w fun e w'=>
   ∃b1 b2 b3 b4,e= .returned (.func (.func 140) #[] #[.pointer (some ⟨b1,0,none⟩), .pointer (some ⟨b2,0,none⟩), .pointer (some ⟨b3,0,none⟩), .pointer (some ⟨b4,0,none⟩)])/\Ags w' b1 b2 b3 b4 A m c mb a (.func (.func 103) #[] #[.pointer (some ⟨bn,0,none⟩)])/\Below w.heap.size w w':=by
 go_enter Tryz.func102,Tryz.ntmps102;go_wp2_with fail;go_ret;refine⟨_,_,_,_,rfl,⟨hpt,hpt,hpt,hpt⟩,bel⟩
structure S7 (bo lr:Nat)(rc:LoopState->Option Code->Loop)(W1:World)(st:LoopState)(l:List Int)(T:Nat->Prop)(v:Value)(W:World):Prop where
 tw:∀b,T b↔b=bo\/b=lr\/v.ownBlock=some b
 lt:bo<W1.heap.size/\lr<W1.heap.size/\bo≠lr
 out:W.heap[bo]? =some (.cells #[v] 36 (0,0))
 own:D9 W W1.heap.size v l
 kp:Ak (fun b=>b=bo\/b=lr) W1 W
 lp:W.heap[lr]? =some (.loop (rc st none))
section
variable {bo lr:Nat}{rc:LoopState->Option Code->Loop}{W1:World}{st:LoopState}{l:List Int}{T:Nat->Prop}{v:Value}{W W':World}
theorem S7.keep (h:S7 bo lr rc W1 st l T v W)(hk:Ak (fun b=>W1.heap.size<=b∧¬T b) W W'):S7 bo lr rc W1 st l T v W':=by
 obtain⟨h1,h2,h3,h4,h5,h6⟩:=h;have ho:∀b,b<W1.heap.size->W'.heap[b]? =W.heap[b]? :=fun b hb=>hk.block b (by have:=h5.size;omega) (fun h=>by omega)
 exact⟨h1,h2,(ho _ h2.1).trans h3,h4.block hk.size fun k e=>hk.block k (h4.1.lt k e).2 (fun h=>h.2 ((h1 k).2 (.inr (.inr e)))),((h5.mono (S':=fun b=>(b=bo\/b=lr)\/W1.heap.size<=b) fun _ e=> .inl e).trans (hk.mono fun _ e=> .inr e.1)).old fun b hb e=>e.resolve_right (by omega),(ho _ h2.2.1).trans h6⟩
theorem S7.lts (h:S7 bo lr rc W1 st l T v W):∀b,T b->b<W.heap.size:=by
 intro b hb;rcases(h.tw b).1 hb with rfl|rfl|e
 ·exact lt_of_block h.out
 ·exact lt_of_block h.lp
 ·exact(h.own.1.lt b e).2
theorem S7.put (h:S7 bo lr rc W1 st l T v W)(st':LoopState):S7 bo lr rc W1 st' l T v (W.putObj lr (.loop (rc st' none))):=by
 obtain⟨h1,h2,h3,h4,h5,h6⟩:=h;exact⟨h1,h2,(World.putObj_heap_other h2.2.2).trans h3,h4.block (by simp) fun k e=>World.putObj_heap_other (by have:=(h4.1.lt k e).1;omega),h5.putObj (by simp) _,World.putObj_heap_same (lt_of_block h6)⟩
end
end Go.Proofs.YtaglfmlgbcmakaaGreatDoor
namespace Go.Proofs.YtaglfmlgbcmakaaGreatDoor
open Go.RowKit Go.Shelf
attribute [local go_sem] Oper.semAt_some
theorem Ae3 (mb n:Nat)(rs:List Bd)(A:Option Addr)(m c:Nat)(ys:List Cr)(a:Nat)(now:Int)(w:World)(hmap:Cq w mb n rs)(hys:Ct w A m c ys)(hone:∀y∈ys,Eh n y.d=0)(han:a<n)(hm19:m<=19):
  Calls Tryz.prog 59 #[.pointer (some ⟨mb,0,none⟩), .slice A m c, .int .i64 (a:Int), .int .i64 now] w fun e w'=>
   ∃A' c',e= .returned (.slice A' (Dc n rs (Af ys) a now).length c')/\Ba w' A' (Dc n rs (Af ys) a now).length c' (Dc n rs (Af ys) a now)/\Below w.heap.size w w':=by
 have HM:=hI hmap;have b8:=hI hys;have d5:=hI hone;have j1:=hys.max;clear hmap hys hone;refine(callsIn_wide (n:=9)).1 (callsIn_of_wp_marks Tryz.func59 rfl trivial ?_ rfl);simp only[Tryz.ntmps59,List.size_toArray,List.length_cons,List.length_nil,Nat.reduceAdd,Nat.reduceSub,Array.replicate_succ,Array.replicate_zero,List.push_toArray,List.append_toArray,List.nil_append,List.cons_append];gi_wp2;refine⟨trivial, ?_⟩;have k5:(((w.alloc (.cells #[.slice A m c] 27)).alloc (.cells #[.int .i64 now] 2)).alloc (.cells #[.slice none 0 0] 36)).heap[w.heap.size]? =some (.cells #[.slice A m c] 27 (0,0)):=hpt;have k7:(((w.alloc (.cells #[.slice A m c] 27)).alloc (.cells #[.int .i64 now] 2)).alloc (.cells #[.slice none 0 0] 36)).heap[w.heap.size+1]? =some (.cells #[.int .i64 now] 2 (0,0)):=hpt;have k9:(((w.alloc (.cells #[.slice A m c] 27)).alloc (.cells #[.int .i64 now] 2)).alloc (.cells #[.slice none 0 0] 36)).heap[w.heap.size+1+1]? =some (.cells #[.slice none 0 0] 36 (0,0)):=hpt;have kB:Below w.heap.size w (((w.alloc (.cells #[.slice A m c] 27)).alloc (.cells #[.int .i64 now] 2)).alloc (.cells #[.slice none 0 0] 36)):=bel;generalize(((w.alloc (.cells #[.slice A m c] 27)).alloc (.cells #[.int .i64 now] 2)).alloc (.cells #[.slice none 0 0] 36))=V0 at*;obtain⟨bl,d6⟩:∃x,x=w.heap.size:=⟨_,rfl⟩;obtain⟨bo,d7⟩:∃x,x=w.heap.size+1+1:=⟨_,rfl⟩;obtain⟨bn,d1⟩:∃x,x=w.heap.size+1:=⟨_,rfl⟩;rw[←d6]at k5;rw[←d1]at k7;rw[←d7]at k9;rw[←d7,←d1,←d6];have j3:w.heap.size<=bl/\bl<bn/\bn<bo:=by omega
 have K5:=hI k5;have K7:=hI k7;have K9:=hI k9;have KB:=hI kB;clear d6 d7 d1 k5 k7 k9 kB;refine(callsIn_wide.2 (Abt mb A m c a bn V0)).mono ?_;rintro e w2 ⟨b1,b2,b3,b4,rfl,hc,f4⟩;have HC:=hI hc;have a5:=hI f4;clear hc f4;gi_wp2;refine Ea (gf:=140) (lb:= #[.pointer (some ⟨b1,0,none⟩), .pointer (some ⟨b2,0,none⟩), .pointer (some ⟨b3,0,none⟩), .pointer (some ⟨b4,0,none⟩)]) rfl (enters_of Tryz.func140 (by kernel_rfl) rfl) fun fn D l rc W1 hrc hD hl hK2 hD1 hl1 hs2=> ?_
 have i4:=hI hrc;clear hrc;have j9:w2.heap.size<=D:=by omega
 have j4:D<l:=by omega
 clear hs2 hD hl;have a4:=hI hK2;have i0:=hI hD1;have f6:=hI hl1;clear hK2 hD1 hl1;have j2:=KB.out.size;have j5:=a5.out.size;have i5:=lt_of_block K9.out;have i7:=lt_of_block K7.out;have i1:=lt_of_block K5.out;have j6:=a4.out.size;have i2:=lt_of_block f6.out;have d4:Hid (Below w.heap.size w w2):=KB.out.trans (a5.out.mono KB.out.size);have a6:Hid (Below w.heap.size w W1):=d4.out.trans (a4.out.to_below (B:=w.heap.size) (fun b hb=>hb.elim) (by omega));have a2:=hI (HC.out.keep a4.out);have Q5:Hid (W1.heap[bl]? =some (.cells #[.slice A m c] 27 (0,0))):=(a4.out.block _ (by omega) (fun h=>h)).trans ((a5.out.block _ i1).trans K5.out);have Q7:Hid (W1.heap[bn]? =some (.cells #[.int .i64 now] 2 (0,0))):=(a4.out.block _ (by omega) (fun h=>h)).trans ((a5.out.block _ i7).trans K7.out);have Q9:Hid (W1.heap[bo]? =some (.cells #[.slice none 0 0] 36 (0,0))):=(a4.out.block _ (by omega) (fun h=>h)).trans ((a5.out.block _ i5).trans K9.out);clear HC K5 K7 K9 a5 KB;obtain⟨LN,a0⟩:∃LN,LN=Hc n rs (Af ys) a now:=⟨_,rfl⟩;obtain⟨LL,b7⟩:∃LL,LL=Dc n rs (Af ys) a now:=⟨_,rfl⟩;have g5:Hid (LL=LN.map (R0 (Af ys))):=by show _=_;rw[b7,a0];rfl
 have d3:(Af ys).length=m:=by rw[Af,List.length_map];exact b8.out.len
 have i3:Hid (∀k∈LN,k<m):=fun k hk=>by
  rw[a0]at hk;unfold Hc at hk
  have:=((Dr (Bx _) _ _ _).1 hk).1
  omega
 have f2:LN.length<=19:=by
  have h1:=H7 (Bx (tAt n rs (Af ys) a)) (fun i=>E7 now (tAt n rs (Af ys) a i)) (Af ys).length;have h2:=List.length_filter_le (fun i=>E7 now (tAt n rs (Af ys) a i)) (List.range (Af ys).length);rw[List.length_range,d3]at h2;rw[a0];unfold Hc;rw[h1,d3];omega
 have f0:=hI b7;have j8:=hI a0;clear d3;obtain⟨J,hJ⟩:∃J:Nat->(Nat->Prop)->World->Prop,J=fun i T X=>∃v,S7 bo l rc W1 .ready (LL.take i) T v X:=⟨_,rfl⟩
 have HJ:=hI hJ;clear hJ
 refine(Abs (9-1) l b1 b2 b3 b4 bn (by omega) mb n rs A m c ys a now J (fun b=>b=bo\/b=l\/(Value.slice none 0 0).ownBlock=some b) W1 ?hlt ?hst ?hy ?h0 (cell_of_one a2.out.c1) (cell_of_one a2.out.c2) (cell_of_one a2.out.c3) (cell_of_one a2.out.c4) Q7.out
  (lt_of_block a2.out.c1) (lt_of_block a2.out.c2) (lt_of_block a2.out.c3) (lt_of_block a2.out.c4) (HM.out.below a6.out) (b8.out.below a6.out) d5.out han hm19).mono ?_
 case hlt=>
  intro s T X hx;rw[HJ.out]at hx;obtain⟨v,hx⟩:=hx;exact hx.lts
 case hst=>
  intro s T X X' hx hk;rw[HJ.out]at hx ⊢;obtain⟨v,hx⟩:=hx;exact⟨v,hx.keep hk⟩
 case h0=>
  rw[HJ.out];exact⟨_,fun b=>Iff.rfl,⟨by omega,i2,by omega⟩,Q9.out,D9.nil rr,Ak.refl _ _,f6.out⟩
 case hy=>
  intro i T X k b5 hx;rw[HJ.out]at hx;obtain⟨v,hx⟩:=hx;refine Eb i4.out hx.lp rfl ?_;have i8:k<m:=i3.out k (List.mem_of_getElem? (by rw[a0];exact b5));have g9:i<LN.length:=by rw[a0];exact(List.getElem?_eq_some_iff.1 b5).1
  have f8:Below w.heap.size w X:=a6.out.trans (hx.kp.to_below (fun b hb=>by omega) a6.out.size);obtain⟨y,d0⟩:=b8.out.get i8;obtain⟨yb,yo,hA,i6, -,k0, -, -, -, -⟩:=b8.out.at_ d0
  have g0:LL[i]? =some y.d.law:=by
   rw[g5.out,a0,List.getElem?_map,b5];show some (R0 (Af ys) k)=_;unfold R0;rw[Af,List.getElem?_map,d0];rfl
  have g4:=hI g0;subst hA;obtain⟨law,b0⟩:∃law,law=y.d.law:=⟨_,rfl⟩;rw[←b0]at k0 g4;have HX:=hI hx;have k0X:=(f8.cell (p:=⟨yb,yo+k*5,none⟩) i6).trans k0;have q5X:=(hx.kp.block bl (by omega) (by omega)).trans Q5.out;clear f8 d0 g0 b0 b5 hx k0 a0 b7;gi_wp2;refine⟨HX.out.lp, ?_⟩;have hV:=HX.out.put .busy;have f7:Ak T X (X.putObj l (.loop (rc .busy none))):=(Ak.refl T X).putObj ((HX.out.tw l).2 (.inr (.inl rfl))) _;have k2:(X.putObj l (.loop (rc .busy none))).cell? ⟨yb,yo+k*5,none⟩=some (.int .i64 law):=(B8 (World.putObj_heap_other (by omega)) _).trans k0X;have k1:(X.putObj l (.loop (rc .busy none))).cell? ⟨bl,0,none⟩=some (.slice (some ⟨yb,yo,none⟩) m c):=cell_of_one ((World.putObj_heap_other (by omega)).trans q5X);have g3:(X.putObj l (.loop (rc .busy none))).heap.size=X.heap.size:=by simp
  generalize X.putObj l (.loop (rc .busy none))=V at*;have k9:=cell_of_one hV.out;have g7:(k:Int)<(m:Int):=by omega
  have HV:=hI hV;have f3:=hI f7;have g6:=hI g3
  have b9:Hid (∀W':World,(∀b,b<V.heap.size->v.ownBlock≠some b->W'.heap[b]? =V.heap[b]?)->W'.cell? ⟨bo,0,none⟩=some v/\W'.cell? ⟨bl,0,none⟩=some (.slice (some ⟨yb,yo,none⟩) m c)/\W'.cell? ⟨yb,yo+k*5,none⟩=some (.int .i64 law)):=by
   intro W' h;have j7:=hV.kp.size;have d9:∀b,b<W1.heap.size->v.ownBlock≠some b:=fun b hb e=>by have:=(hV.own.1.lt b e).1;omega
   exact⟨(B8 (h bo (by omega) (d9 bo (by omega))) 0).trans k9,(B8 (h bl (by omega) (d9 bl (by omega))) 0).trans k1,(B8 (h yb (by omega) (d9 yb (by omega))) _).trans k2⟩
  clear hV f7 g3 k0X q5X;gi_wp2;refine Gd (fun W'=>W'.cell? ⟨bo,0,none⟩=some v/\W'.cell? ⟨bl,0,none⟩=some (.slice (some ⟨yb,yo,none⟩) m c)/\W'.cell? ⟨yb,yo+k*5,none⟩=some (.int .i64 law)) (by kernel_rfl) (by kernel_rfl) (fun _ _ h=>by exact h) ⟨k9,k1,k2⟩ (fun hHeld=> ?_);clear k9 k1 k2
  (refine' Ae 0 rfl ?_;(try simp only[Act.put,nY,nX]));(refine' Ae 1 rfl ?_;(try simp only[Act.put,nY,nX]));(refine' Ae 2 rfl ?_;(try simp only[Act.put,nY,nX]));(refine' Ae 3 rfl ?_;(try simp only[Act.put,nY,nX]));(refine' Ae 4 rfl ?_;(try simp only[Act.put,nY,nX]));(refine' Ae 5 rfl ?_;(try simp only[Act.put,nY,nX]))
  clear hHeld
  (refine Aim 6 rfl (fun K' hK'=> ?_);simp only[nY];go_simp)
  have d2:Below V.heap.size V V.drew:=(Below.refl _ _).drew;have z1:(V.drew.alloc (.cells #[.int .i64 law] 3)).heap[V.drew.heap.size]? =some (.cells #[.int .i64 law] 3 (0,0)):=Aj rfl;have a1:Below V.heap.size V (V.drew.alloc (.cells #[.int .i64 law] 3)):=d2.alloc d2.size _;have o7:=HV.out.own.below a1;refine hK' _ _ ⟨.inr (b9.out _ fun b h _=>a1.block b h),fun _=> ?_⟩
  clear hK' K'
  (try simp only[Act.put,nY,nX])
  obtain⟨q,hq⟩:∃q,q=(LL.take i).length:=⟨_,rfl⟩;have g8:q<=i:=by rw[hq,List.length_take];omega
  have HQ:=hI hq;have o7':=o7.1;rw[←hq]at o7';clear hq;refine Aim 7 rfl (fun K' hK'=> ?_);rw[if_pos (by rfl)];refine Bz (.tmp 17) (.tmp 23) 36 rfl W1.heap.size 3 (.int .i64 0) 1 8 Tryz.underlying36 Fw rfl (by decide) v q ((LL.take i).map (Value.int .i64)) (by rfl) o7' ⟨V.drew.heap.size,0,none⟩ 1 1 [.int .i64 law] (by rfl) rfl (E6 z1) (by intro u hu;simp at hu;subst hu;rfl) (by unfold maxLen;omega) (by omega) o7.2 ?_;intro v' X2 a3 a8 _ g2;obtain⟨A9,c9,rfl⟩:=Bh a3;have b6:∀b,b<V.heap.size->v.ownBlock≠some b->X2.heap[b]? =V.heap[b]? :=fun b hb hn=>(a8.block b (Nat.lt_of_lt_of_le hb a1.size) (fun e=>hn e.symm)).trans (a1.block b hb)
  have f1:=b9.out X2 b6;have a7:v.ownBlock≠some bo:=fun e=>by have:=(HV.out.own.1.lt bo e).1;omega
  have g1:v.ownBlock≠some l:=fun e=>by have:=(HV.out.own.1.lt l e).1;omega
  have d8:=HV.out.kp.size;have x9:=(b6 bo (by omega) a7).trans HV.out.out;have f9:=free_of_one x9;have c9':=cell_of_one x9;refine hK' _ _ ⟨.inr f1,fun _=> ?_⟩
  clear hK' K'
  have f5:Hid (S7 bo l rc W1 .busy (LL.take (i+1)) (fun b=>b=bo\/b=l\/(Value.slice A9 (q+1) c9).ownBlock=some b) (.slice A9 (q+1) c9) (X2.setCell ⟨bo,0,none⟩ (.slice A9 (q+1) c9))):=by
   refine⟨fun b=>Iff.rfl,HV.out.lt,one_setCell x9, ?_, ?_,(Below.heap_setCell _ _ _ _ (by show l≠bo;omega)).trans ((b6 l (by omega) g1).trans HV.out.lp)⟩
   ·have hn:=(D9.push o7 (by rw[←HQ.out];exact a3) a8);have he:LL.take (i+1)=LL.take i++[law]:=by rw[List.take_add_one,g4.out];rfl
    rw[he];exact hn.block (by simp) fun b e=>Below.heap_setCell _ _ _ _ (by have:=(hn.1.lt b e).1;show b≠bo;omega)
   ·exact((HV.out.kp.below a1 rr).grown a8 fun b e=> .inr (HV.out.own.1.lt b e).1).setCell (p:=⟨bo,0,none⟩) (.inl rfl) _
  have i9:Hid (Ak T X (X2.setCell ⟨bo,0,none⟩ (.slice A9 (q+1) c9))):=
   ((f3.out.below a1 rr).grown a8 fun b e=> .inl ((HV.out.tw b).2 (.inr (.inr e)))).setCell (p:=⟨bo,0,none⟩) ((HV.out.tw bo).2 (.inl rfl)) _
  have j0:Hid (∀b,(b=bo\/b=l\/(Value.slice A9 (q+1) c9).ownBlock=some b)->T b\/X.heap.size<=b):=by
   rintro b (e|e|e)
   ·exact .inl ((HV.out.tw b).2 (.inl e))
   ·exact .inl ((HV.out.tw b).2 (.inr (.inl e)))
   ·rcases g2 with h|h
    ·exact .inl ((HV.out.tw b).2 (.inr (.inr (h▸e))))
    ·rw[h]at e;injection e with e
     right;rw[←g6.out,←e];exact a1.size
  clear o7' a3 a8 g2 b6 f1 a7 g1 x9 o7 z1 a1 d2 b9 f3 g6 HV d8
  (try simp only[Act.put,nY,nX])
  (refine Aim 8 rfl (fun K' hK'=> ?_);simp only[nY];go_simp)
  refine hK' _ _ ⟨.inl (by kernel_rfl),fun _=>Bg (by kernel_rfl) ?_ _⟩
  clear hK' K' f9 c9';generalize X2.setCell ⟨bo,0,none⟩ (.slice A9 (q+1) c9)=Y at*;gi_wp2;refine⟨f5.out.lp,rfl, ?_⟩;rw[HJ.out];exact⟨_,⟨_,f5.out.put .ready⟩,i9.out.putObj ((HX.out.tw l).2 (.inr (.inl rfl))) _,j0.out⟩
 rintro e W' ⟨⟨v,rfl⟩,T,hj⟩;rw[HJ.out]at hj;obtain⟨v9,hj⟩:=hj;refine .inl ⟨hj.lp, ?_⟩;have xC:=hj.put .exhausted;generalize W'.putObj l (.loop (rc .exhausted none))=X at*;have a9:LL.take (Hc n rs (Af ys) a now).length=LL:=by rw[←a0,g5.out,List.take_of_length_le (by simp)]
 rw[a9]at xC;obtain⟨A9,k9,rfl⟩:=xC.own.form;have c1:=cell_of_one xC.out;have XC:=hI xC;clear hj xC a9 b7 a0;gi_wp2;have hM:C8 w.heap.size X [Jd D]:=⟨D,rfl,by omega,(XC.out.kp.block D (by omega) (by omega)).trans i0.out,by simp,trivial⟩;have hX:Below w.heap.size w X:=a6.out.trans (XC.out.kp.to_below (fun b hb=>by omega) a6.out.size);refine Kd (B:=w.heap.size) Tryz.results59 (.slice A9 LL.length k9) rfl hM fun w' hw'=>⟨A9,k9,by rw[f0.out], ?_,hX.trans hw'.below⟩
 rw[←f0.out];exact Az.of_own (Mi XC.out.own.1 hw') (by decide)
end Go.Proofs.YtaglfmlgbcmakaaGreatDoor
namespace Go.Proofs.YtaglfmlgbcmakaaGreatDoor
open Go.RowKit Go.Shelf
theorem Aag (b n:Nat)(rs:List Bd)(Ax:Option Addr)(nx cx:Nat)(xs:List Bn)(A:Option Addr)(m c:Nat)(ys:List Cr)(aa now:Int)(w:World)(hm:Cq w b n rs)(hx:B2 w Ax nx cx xs)(hy:Ct w A m c ys)(hT:B9 w)(h19:m<=19\/64<m):
  Calls Tryz.prog 29 #[.pointer (some ⟨b,0,none⟩), .slice Ax nx cx, .slice A m c, .int .i64 aa, .int .i64 now] w (Gv w (Ko n rs (Am xs) (Af ys) aa now)):=by
 obtain⟨An,cn,mb,Ar,cr,Aq,cq,c0,c1,c2,c3⟩:=hm.cells;have b4:=hm.lt;have HM:=hI hm;have HX:=hI hx;have HY:=hI hy;have HT:=hI hT;have HC:=hI c0;have b0:(Af ys).length=m:=by rw[Af,List.length_map];exact hy.len
 have b8:=hI b0;have b5:=hI h19;clear hm hx hy hT c0 c1 c2 c3 b0 h19;go_enter Tryz.func29,Tryz.ntmps29;go_wp2_with fail;refine(Gu b n rs Ax nx cx xs A m c ys w HM.out HX.out HY.out HT.out).mono ?_;obtain⟨er,a5⟩:∃er,er=C9 n (Am xs) (Af ys):=⟨_,rfl⟩;rw[←a5];rintro e w1 ⟨rfl,a9⟩;have a1:=hI a9;have a3:=hI a5;clear a9 a5;by_cases he0:er=0
 ·have d0:(er !=0)=false:=by simp[he0]
  have a4:Hid (C9 n (Am xs) (Af ys)=0):=by show _=_;rw[←a3.out,he0]
  have HV:Hid (Ko n rs (Am xs) (Af ys) aa now=if aa<0\/(n:Int)<=aa then(3,[])else(0,Dc n rs (Af ys) aa.toNat now)):=by
   show _=_;unfold Ko;rw[if_neg (by rw[a4.out];simp)]
  have a7:m<=19:=by have:=(D1 a4.out).2.2.1;rw[b8.out]at this;have:=b5.out;omega
  have a8:Hid (∀y∈ys,Eh n y.d=0):=fun y hy=>((D1 a4.out).2.2.2 y.d (List.mem_map.2 ⟨y,hy,rfl⟩)).2.2
  clear a3 he0;by_cases hk0:aa<0
  ·have a0:Hid (Ko n rs (Am xs) (Af ys) aa now=(3,[])):=by show _=_;rw[HV.out,if_pos (.inl hk0)]
   go_wp2
   go_ret2
   exact Gv.bad a0.out a1.out
  ·go_wp2_with fail;refine(Gp b An n cn w1 ((a1.out.cell (p:=⟨b,0,none⟩) b4).trans HC.out)).mono ?_;rintro e w2 ⟨rfl,b1⟩;have a2:=hI (a1.out.trans (b1.mono a1.out.size));clear b1 a1;by_cases hkm:(n:Int)<=aa
   ·have a0:Hid (Ko n rs (Am xs) (Af ys) aa now=(3,[])):=by show _=_;rw[HV.out,if_pos (.inr hkm)]
    go_wp2
    go_ret2
    exact Gv.bad a0.out a2.out
   ·obtain⟨k,rfl⟩:∃k:Nat,aa=k:=⟨aa.toNat,by omega⟩;have b6:k<n:=by omega
    have b7:¬(n:Int)<=(k:Int):=by omega
    have a0:Hid (Ko n rs (Am xs) (Af ys) k now=(0,Dc n rs (Af ys) k now)):=by
     show _=_;rw[HV.out,if_neg (by omega)];rfl
    clear HV;go_wp2_with fail;refine(Ae3 b n rs A m c ys k now w2 (HM.out.below a2.out) (HY.out.below a2.out) a8.out b6 a7).mono ?_;rintro e w3 ⟨A3,c3,rfl,a6,b2⟩;obtain⟨q,hq⟩:∃q,q=(Dc n rs (Af ys) k now).length:=⟨_,rfl⟩;rw[←hq]at a6 ⊢;have b9:=hI a6;have b3:=hI (a2.out.trans (b2.mono a2.out.size));clear a6 b2 hq;go_wp2
    go_ret2
    exact⟨A3,q,c3,by rw[a0.out];rfl,by rw[a0.out];exact b9.out,b3.out⟩
 ·have d0:(er !=0)=true:=by simpa using he0
  have HV:Hid (Ko n rs (Am xs) (Af ys) aa now=(er,[])):=by show _=_;unfold Ko;rw[if_pos (by rw[←a3.out];exact he0),a3.out]
  go_wp2
  go_ret2
  exact Gv.bad HV.out a1.out
end Go.Proofs.YtaglfmlgbcmakaaGreatDoor
namespace Go.Proofs.YtaglfmlgbcmakaaGreatDoor
open Go.RowKit Go.Shelf Go.Maps Go.WideMaps
theorem Sa {f:Nat->Int×List Snd}:∀(l:List Nat) (done:List (List Snd)),(∀a∈l,(f a).1=0)->C6 f done l=(0,done++l.map fun a=>(f a).2)
 |[],done,_=>by simp[C6]
 |a::l,done,h=>by
  unfold C6;rw[if_neg (by rw[h a (List.mem_cons_self ..)];simp),Sa l _ fun b hb=>h b (List.mem_cons_of_mem _ hb)]
  simp
theorem N8 {f:Nat->Int×List Snd}:∀(l r:List Nat) (done:List (List Snd)) (a:Nat),(∀b∈l,(f b).1=0)->(f a).1≠0->C6 f done (l++a::r)=((f a).1,[])
 |[],r,done,a,_,h=>by
  show C6 f done (a::r)=_;unfold C6;rw[if_pos h]
 |b::l,r,done,a,hl,h=>by
  show C6 f done (b::(l++a::r))=_;unfold C6;rw[if_neg (by rw[hl b (List.mem_cons_self ..)];simp),N8 l r _ a (fun x hx=>hl x (List.mem_cons_of_mem _ hx)) h]
theorem Sb {w:World}{B B':Nat}{t t':TypeId}{z z':Nat}{v v':Value}{n n':Nat}{xs xs':List Value}(h:w.ownsRow B t z v n xs)(h':w.ownsRow B' t' z' v' n' xs')(hn:t≠t'):∀k,v.ownBlock=some k->v'.ownBlock≠some k:=by
 intro k hk a1;rcases h.2 with⟨rfl,_⟩|⟨g,cap,cur,rfl,_,hg,_⟩
 ·cases hk
 ·rcases h'.2 with⟨rfl,_⟩|⟨g',cap',cur',rfl,_,a0,_⟩
  ·cases a1
  ·obtain rfl:g=k:=Option.some.inj hk;obtain rfl:g'=g:=Option.some.inj a1;rw[hg]at a0;injection a0 with e
   injection e with _ e _
   exact hn e
theorem Abu:(Tryz.prog.info? 5).map (fun i=>(i.zero,i.size,i.bytes))=some (some (.int .u8 0),1,1):=by kernel_rfl
theorem X0 {ops:Array Oper}{rest:List Oper}{o:Oper}{a:Act}{w:World}{Q:Exit->Act->World->Prop}(hgd:o.guard=none)(s x:Operand)
  (ho:o.op= .call {callee:= .builtin .append,args:= #[s,x],argTypes:= #[102,102]})
  (base:Nat) (v:Value) (n:Nat) (xs:List Value) (hs:a.eval s=v) (hown:w.ownsRow base 5 1 v n xs)
  (ad:Addr) (c:Nat) (y:Value) (hx:a.eval x= .slice (some ad) 1 c) (hr:∀j u,[y][j]? =some u->w.cell? (ad.add j)=some u) (hy:y.oneCell'=true) (hl:n+1<=4096) (hbase:base<=w.heap.size)
  (h:∀v' w',w'.ownsRow base 5 1 v' (n+1) (xs++[y])->w.grownBy w' v.ownBlock→
   wpList Tryz.prog ops Q rest (a.put o.dst v') w'):wpList Tryz.prog ops Q (o::rest) a w:=by
 obtain⟨i0,hi,a0,a2,a1⟩:=info_parts Abu
 exact wpList_append_own_at w hgd s x 102 ho base 5 i0 _ 1 1 Tryz.underlying102 hi a0 a2 a1 rfl (by decide) v n xs hs hown ad 1 c [y] hx rfl hr
  (by intro u hu;simp at hu;subst hu;exact hy) (by unfold maxLen;omega) (by omega) hbase fun v' w' h1 h2 _ h4=>h v' w' h1 h2
theorem Sc {ls:List Be}{ws:List Snd}(hw:B3 ws=0):(Bw ls ws).2.length<=32:=by
 unfold Bw;split
 ·simp
 ·rename_i h
  split
  ·simp
  ·cases e:(Bt ls ws).2.getLast? with
   |none=>simp
   |some x=>
    have h2:=(T8 ls ws (T9 (Acp (by simpa using h))).2 hw).2 x (List.mem_of_getLast? e);exact(Lp.1 h2).1
theorem Vp {w:World}{A:Option Addr}{n c s B bm:Nat}{x:List Snd}{vo:Value}(h:Ah w A n c x)(hf:∀ad,A=some ad->s<=ad.block)(hb:bm<s)(ho:∀k,vo.ownBlock=some k->k<s)(hB:B<=s):L4 B bm vo w A n:=fun hn ad had=>by
 have h1:=hf ad had;obtain⟨b,off,hA,a0,_⟩:=h.2.2.2.2 hn;rw[had]at hA;injection hA with hA;subst hA
 exact⟨by omega,by show b≠bm;have:s<=b:=h1;omega,fun e=>by have h2:=ho b e;have:s<=b:=h1;omega,a0⟩
theorem X6 {w:World}{B B':Nat}{t:TypeId}{z n:Nat}{v:Value}{xs:List Value}(h:w.ownsRow B t z v n xs)(hb:B'<=B):w.ownsRow B' t z v n xs:=by
 refine⟨h.1,h.2.imp (fun h=>h) ?_⟩;rintro⟨g,cap,cur,h1,h2,h3⟩;exact⟨g,cap,cur,h1,by omega,h3⟩
def Eu (xs:List Bn)(L:List Int):List Bn:=L.filterMap fun x=>xs[x.toNat]?
theorem Vq (xs:List Bn):∀L:List Int,Am (Eu xs L)=Cm (Am xs) L
 |[]=>rfl
 |x::L=>by
  have h:=Vq xs L;unfold Eu Cm at h ⊢;rw[List.filterMap_cons,List.filterMap_cons];have e:(Am xs)[x.toNat]? =(xs[x.toNat]?).map Bn.l:=by rw[Am,List.getElem?_map]
  rw[e]
  cases xs[x.toNat]? with
  |none=>exact h
  |some y=>show Am (y::_)=y.l::_;rw[←h];rfl
theorem Nq (xs:List Bn)(L:List Int)(x:Int)(y:Bn)(h:xs[x.toNat]? =some y):Eu xs (L++[x])=Eu xs L++[y]:=by
 unfold Eu;rw[List.filterMap_append];simp[h]
theorem Sd {xs:List Bn}{L:List Int}{y:Bn}(h:y∈Eu xs L):y∈xs:=by
 obtain⟨x,_,hx⟩:=List.mem_filterMap.1 h;exact List.mem_of_getElem? hx
theorem X7 {n a:Nat}(h:a<n):List.range n=List.range a++a::(List.range' (a+1) (n-a-1)):=by
 rw[List.range_eq_range',List.range_eq_range',show n=a+(1+(n-a-1))by omega,←List.range'_append_1,←List.range'_append_1];simp[List.range'_one]
theorem Nr (b n:Nat)(rs:List Bd)(Ax:Option Addr)(nx cx:Nat)(xs:List Bn)(A:Option Addr)(m c:Nat)(ys:List Cr)(Aw:Option Addr)(nw cw:Nat)(ws:List Snd)(now:Int)(w:World)(hm:Cq w b n rs)(hx:B2 w Ax nx cx xs)(hy:Ct w A m c ys)(hw:Ah w Aw nw cw ws)(hT:B9 w)(h19:m<=19\/64<m):
  Calls Tryz.prog 18 #[.pointer (some ⟨b,0,none⟩), .slice Ax nx cx, .slice A m c, .slice Aw nw cw, .int .i64 now] w (Th w (Bs n rs (Am xs) (Af ys) ws now)):=by
 obtain⟨An,cn,mb,Ar,cr,Aq,cq,c0,c1,c2,c3⟩:=hm.cells;have s4:=hm.lt;have p9:=hm.few;have HM:=hI hm;have HX:=hI hx;have HY:=hI hy;have HT:=hI hT;have HC:=hI c0;have HW:=hI hw;have o3:(Af ys).length=m:=by rw[Af,List.length_map];exact hy.len
 have k3:=hI o3;have s5:=hI h19;have t1:=hx.len;clear hm hx hy hT c0 c1 c2 c3 o3 h19 hw;go_enter Tryz.func18,Tryz.ntmps18;go_wp2_with fail;refine(Gu b n rs Ax nx cx xs A m c ys w HM.out HX.out HY.out HT.out).mono ?_;obtain⟨er,k1⟩:∃er,er=C9 n (Am xs) (Af ys):=⟨_,rfl⟩;rw[←k1];rintro e w1 ⟨rfl,p5⟩;have g8:=hI p5;have j3:=hI k1;clear p5 k1;by_cases he0:er=0
 case neg=>
  have s9:(er==0)=false:=by simpa using he0
  have p2:(er !=0)=true:=by simpa using he0
  have HV:Hid (Bs n rs (Am xs) (Af ys) ws now=(er,[])):=by show _=_;unfold Bs;rw[if_pos (by rw[←j3.out];exact he0),j3.out]
  clear he0;go_wp2
  go_ret2
  exact Th.bad HV.out g8.out
 have s9:(er==0)=true:=by simp[he0]
 have f7:Hid (C9 n (Am xs) (Af ys)=0):=by show _=_;rw[←j3.out,he0]
 have j9:m<=19:=by have:=(D1 f7.out).2.2.1;rw[k3.out]at this;have:=s5.out;omega
 have m2:Hid (∀y∈ys,Eh n y.d=0):=fun y hy=>((D1 f7.out).2.2.2 y.d (List.mem_map.2 ⟨y,hy,rfl⟩)).2.2
 have k0:Hid (∀y∈ys,0<=y.d.law/\y.d.law<(xs.length:Int)):=fun y hy=>by
  have:=(D1 f7.out).2.2.2 y.d (List.mem_map.2 ⟨y,hy,rfl⟩)
  rw[Am,List.length_map]at this;exact⟨this.1,this.2.1⟩
 clear j3 he0;go_wp2_with fail;refine(Mz Aw nw cw ws w1 (HW.out.below g8.out rr)).mono ?_;obtain⟨j6,d9⟩:∃er,er=B3 ws:=⟨_,rfl⟩;rw[←d9];rintro e w2 ⟨rfl,o6⟩;have i2:=hI (g8.out.trans (o6.mono g8.out.size));have a9:=hI d9;clear o6 d9 g8;by_cases he0:j6=0
 case neg=>
  have p2:(j6 !=0)=true:=by simpa using he0
  have HV:Hid (Bs n rs (Am xs) (Af ys) ws now=(j6,[])):=by show _=_;unfold Bs;rw[if_neg (by rw[f7.out];simp),if_pos (by rw[←a9.out];exact he0),a9.out]
  clear he0;go_wp2
  go_ret2
  exact Th.bad HV.out i2.out
 have p2:(j6 !=0)=false:=by simpa using he0
 have q1:Hid (B3 ws=0):=by show _=_;rw[←a9.out];exact he0
 have HV:Hid (Bs n rs (Am xs) (Af ys) ws now=C6 (F8 n rs (Am xs) (Af ys) ws now) [] (List.range n)):=by
  show _=_;unfold Bs;rw[if_neg (by rw[f7.out];simp),if_neg (by rw[←a9.out];simpa using he0)]
 clear a9 he0;have r7:= @run_makeMap Tryz.prog;go_wp2_with fail;clear r7;have i7:(w2.alloc (.map #[] 0)).ownsMap Tryz.prog 9 Tf w2.heap.size 0 (.map []):=World.ownsMap_made w2 _ _ _;have j4:Below w.heap.size w (w2.alloc (.map #[] 0)):=i2.out.alloc i2.out.size _;have p7:(w2.alloc (.map #[] 0)).heap.size=w2.heap.size+1:=by simp
 obtain⟨bm,p1⟩:∃bm,bm=w2.heap.size:=⟨_,rfl⟩;have m1:w.heap.size<=bm:=by have:=i2.out.size;omega
 rw[←p1]at i7 p7 ⊢;generalize w2.alloc (.map #[] 0)=W0 at*;clear p1 i2;refine(Gp b An n cn W0 ((j4.cell (p:=⟨b,0,none⟩) s4).trans HC.out)).mono ?_;rintro e w3 ⟨rfl,a6⟩;have m9:=hI (j4.trans (a6.mono j4.size))
 have p6:Hid (F9 bm bm 0 (Am xs) ws (.slice none 0 0) [] (.map []) w3):=
  ⟨rr,Ur i7 (a6.block bm i7.lt),isMap_empty,(fun L _ hh=>by cases hh),World.ownsRow_nil _ _ _ _,(fun p hp=>absurd hp (List.not_mem_nil)),(fun p hp=>absurd hp (List.not_mem_nil)),by have:=a6.size;omega⟩
 clear i7 j4 p7 a6;obtain⟨F,hF⟩:∃F,F=F8 n rs (Am xs) (Af ys) ws now:=⟨_,rfl⟩;rw[←hF]at HV;have HF:=hI hF;clear hF;go_wp2_with fail
 go_loopw [14,36] (fun u14 i wr=>∃(k:Nat) (ps:List Part) (D:DataW Value),k<=n/\i= .int .i64 (k:Int)/\Hid (F9 bm bm k (Am xs) ws u14 ps D wr)/\Hid (ps.map Part.word=(List.range k).map fun a=>(F a).2)/\Hid (∀a,a<k->(F a).1=0)/\Hid (Below w.heap.size w wr)) (fun _ i _=>n-(intOf i).toNat)
 case atStart=>exact⟨0,[], .map [],Nat.zero_le _,rfl,p6.out,rfl,fun a ha=>by omega,m9.out⟩
 case round=>
  obtain⟨k,ps,D,hk,rfl,f9,i3,j2,HB⟩:=hrel;clear p6 m9;by_cases hkn:k<n
  ·have r3:(k:Int)<(n:Int):=by omega
   go_wp2_with fail;refine(Ae3 b n rs A m c ys k now wr (HM.out.below HB.out) (HY.out.below HB.out) m2.out hkn j9).mono ?_;rintro e w4 ⟨A4,c4,rfl,m0,k7⟩;obtain⟨L,hL⟩:∃L,L=Dc n rs (Af ys) k now:=⟨_,rfl⟩;rw[←hL]at m0 ⊢
   have g4:L.length<=19:=by
    have h1:=H7 (Bx (tAt n rs (Af ys) k)) (fun i=>E7 now (tAt n rs (Af ys) k i)) (Af ys).length;have h2:=List.length_filter_le (fun i=>E7 now (tAt n rs (Af ys) k i)) (List.range (Af ys).length);rw[List.length_range,k3.out]at h2;rw[hL];unfold Dc Hc;rw[List.length_map,h1,k3.out];omega
   have p8:Hid (∀x∈L,0<=x/\x<(xs.length:Int)):=fun x hx=>by
    rw[hL]at hx;obtain⟨j,hj,rfl⟩:=List.mem_map.1 hx;have o9:=((Dr (Bx _) _ _ _).1 hj).1;unfold R0;obtain⟨y,hy⟩:∃y,ys[j]? =some y:=⟨ys[j]'(by rw[Af,List.length_map]at o9;exact o9),List.getElem?_eq_getElem _⟩;rw[Af,List.getElem?_map,hy];exact k0.out y (List.mem_of_getElem? hy)
   have g0:Hid (F k=Bw (Cm (Am xs) L) ws):=by show _=_;rw[HF.out,hL];rfl
   have q9:xs.length<=64:=by
    have:=(D1 f7.out).2.1
    have h:=Te this;rwa[Am,List.length_map]at h
   have q4:=hI m0;have i6:=hI (f9.out.below k7);have j1:=hI (HB.out.trans (k7.mono HB.out.size));obtain⟨q,hq⟩:∃q,q=L.length:=⟨_,rfl⟩;have HQ:=hI hq;rw[←hq]at g4 ⊢;rw[←hq]at q4;clear m0 k7 hL hq f9 HB;go_wp2_with fail
   go_loopw [16,17,45] (fun s16 s17 i wq=>∃j:Nat,j<=q/\i= .int .i64 (j:Int)/\Hid (wq.ownsRow w4.heap.size 55 18 s16 j ((Eu xs (L.take j)).flatMap Bn.cells))/\Hid (wq.ownsRow w4.heap.size 5 1 s17 j ((L.take j).map (Value.int .u8)))/\Hid (Below w4.heap.size w4 wq)) (fun _ _ i _=>q-(intOf i).toNat)
   case atStart=>exact⟨0,Nat.zero_le _,rfl,World.ownsRow_nil _ _ _ _,World.ownsRow_nil _ _ _ _,Below.refl _ _⟩
   case round=>
    obtain⟨j,hj,rfl,HO,HK,f8⟩:=hrel;by_cases hjq:j<q
    ·have r5:(j:Int)<(q:Int):=by omega
     have g5:L[j]? =some (L[j]'(by have:=HQ.out;omega)):=List.getElem?_eq_getElem _;obtain⟨x,q7⟩:∃x,x=L[j]'(by have:=HQ.out;omega):=⟨_,rfl⟩;rw[←q7]at g5;have t5:=p8.out x (List.mem_of_getElem? g5);obtain⟨z,rfl⟩:∃z:Nat,x=z:=⟨x.toNat,by omega⟩;have t4:z<xs.length:=by omega
     obtain⟨s,hs⟩:∃s,xs[z]? =some s:=⟨xs[z]'t4,List.getElem?_eq_getElem _⟩;have o4:Hid (L.take (j+1)=L.take j++[(z:Int)]):=by show _=_;rw[List.take_add_one,g5];rfl
     have k8:Hid (Eu xs (L.take (j+1))=Eu xs (L.take j)++[s]):=by show _=_;rw[o4.out];exact Nq xs _ _ s hs
     obtain⟨gl,ol,vv,r0,t0,k9,t3⟩:=(Az.below q4.out f8.out rr).at1 (k:=j) (by omega);rw[List.getElem?_map,g5]at k9;obtain rfl:vv= .int .i64 (z:Int):=by simpa using k9.symm
     subst r0;obtain⟨b0,off0,s3,s0,o7⟩:=(HX.out.below (j1.out.trans (f8.out.mono j1.out.size)) rr).at_ hs;subst s3;have t2:(z:Int)<(nx:Int):=by omega
     have r1:=hI o7;obtain⟨A6,c6,rfl⟩:=Bh HO.out;obtain⟨A7,c7,rfl⟩:=Bh HK.out;have b5:(wr.alloc (.cells (s.cells).toArray 55)).ownsRow w4.heap.size 55 18 (.slice A6 j c6) j ((Eu xs (L.take j)).flatMap Bn.cells):=HO.out.alloc _;have b7:(wr.alloc (.cells (s.cells).toArray 55)).ownsRow w4.heap.size 5 1 (.slice A7 j c7) j ((L.take j).map (Value.int .u8)):=HK.out.alloc _
     have g9:Du Bn.cells 18 (wr.alloc (.cells (s.cells).toArray 55)) (some ⟨wr.heap.size,0,none⟩) 1 1 [s]:=
      ⟨⟨by simp[Bn.len],rr,by unfold maxLen;omega,(fun h=>by cases h),fun _=>⟨wr.heap.size,0,rfl,by simp,fun j v hv=>by rw[Nat.zero_add];exact B7 (by simpa using hv)⟩⟩,rfl⟩
     have f4:Below w4.heap.size w4 (wr.alloc (.cells (s.cells).toArray 55)):=f8.out.alloc f8.out.size _;have g7:=f4.size;have p0:=hI (Sb b7 b5 (by decide));have d2:=hI b5;have d3:=hI b7;have m7:=hI g9;have m8:=hI f4;have o2:IntKind.u8.wrap (z:Int)=(z:Int):=by unfold IntKind.wrap;simp[IntKind.signed,IntKind.bits];omega
     clear b5 b7 g9 f4 o7 hs g5 k9 q7;go_wp2_with(first|(refine Aaw rfl (.tmp 52) rfl b0 (off0+z*18) s rfl r1.out ?_)|(refine Yg rfl (.tmp 53) rfl s rfl ?_)|(at_builtin;refine Vw rfl (.tmp 49) (.tmp 54) rfl w4.heap.size (.slice A6 j c6) j (Eu xs (L.take j)) rfl d2.out (some ⟨wr.heap.size,0,none⟩) 1 1 [s] rfl m7.out (by omega) g7 ?hl))
     case hl=>
      intro v' w9 b3 f0 _;have d7:Below w4.heap.size w4 w9:=m8.out.grown f0 g7 fun p hp=>(d2.out.lt _ hp).1
      have b6:w9.ownsRow w4.heap.size 5 1 (.slice A7 j c7) j ((L.take j).map (Value.int .u8)):=Bf d3.out fun p e=>f0.block p (d3.out.lt p e).2 fun e'=>p0.out p e e'.symm
      have a1:Below w9.heap.size w9 (w9.alloc (.cells #[.int .u8 (z:Int)] 5)):=(Below.refl _ w9).alloc rr _;have a3:=Bf b3 fun p e=>a1.block p (b3.lt p e).2
      have a2:=Bf b6 fun p e=>a1.block p (b6.lt p e).2
      have b8:=d7.trans (a1.mono d7.size);have d4:=b8.size;have g1:=hI (Sb a3 a2 (by decide));have b4:=hI a3;have b1:=hI a2;have i1:=hI b8;clear b3 b6 f0 a1 d7 a3 a2 b8;go_wp2_with(at_builtin;refine X0 rfl (.tmp 56) (.tmp 59) rfl w4.heap.size (.slice A7 j c7) j ((L.take j).map (Value.int .u8)) rfl b1.out ⟨w9.heap.size,0,none⟩ 1 (.int .u8 (z:Int)) rfl (cell_one_new _ _ _) rfl (by omega) d4 ?hc)
      case hc=>
       intro v'' w11 d0 f3;have g6:Hid (Below w4.heap.size w4 w11):=i1.out.grown f3 d4 fun p hp=>(b1.out.lt _ hp).1
       have m4:Hid (w11.ownsRow w4.heap.size 55 18 v' (j+1) ((Eu xs (L.take (j+1))).flatMap Bn.cells)):=by
        show World.ownsRow _ _ _ _ _ _ _;rw[k8.out,List.flatMap_append,List.flatMap_singleton];exact Bf b4.out fun p e=>f3.block p (b4.out.lt p e).2 fun e'=>g1.out p e e'.symm
       have m6:Hid (w11.ownsRow w4.heap.size 5 1 v'' (j+1) ((L.take (j+1)).map (Value.int .u8))):=by
        show World.ownsRow _ _ _ _ _ _ _;rw[o4.out,List.map_append,List.map_take];exact d0
       clear d0 f3;go_wp2
       go_roundw
       case rel=>exact⟨j+1,by omega,by go_num,m4.out,m6.out,g6.out⟩
       case measure=>simp[intOf];omega
    ·obtain rfl:j=q:=by omega
     have o5:L.take j=L:=List.take_of_length_le (by rw[HQ.out];exact rr);rw[o5]at HO HK;obtain⟨A6,c6,rfl⟩:=Bh HO.out;obtain⟨A7,c7,rfl⟩:=Bh HK.out;have j0:Hid (Nx L):=fun x hx=>by have:=p8.out x hx;omega
     have a8:=HK.out;rw[show j=L.length from HQ.out]at a8;have a4:=Wg j0.out a8;rw[←show j=L.length from HQ.out]at a4;have a0:=hI (i6.out.below f8.out);obtain⟨v,pz,a7,a5⟩:=a0.out.om.look_ok (string_keyed Tryz.underlying9) Tryz.underlying118 (Tryz.zeroValue28 wr) (show Tf (.slice none 0 0)=some (.held (.slice none 0 0),[])from rfl) (Wf L (by have:=HQ.out;omega))
     have i0:D.atKey (M4 L) (.held (.slice none 0 0))= .held v:=by
      unfold Tf at a5;injection a5 with a5
      injection a5 with a5 _
      exact a5.symm
     have s6:=hI i0;have s2:=hI HO.out;have f6:=hI (j1.out.trans (f8.out.mono j1.out.size));have p3:=hI HK.out;clear a8 o5 a5 i0 HO HK i6
     cases hh:Go.Maps.has D (M4 L)with
     |true=>
      rw[hh]at a7;obtain⟨Ac,nc,cc,h1,h2,h3,h4⟩:=a0.out.wd L j0.out hh
      obtain rfl:v= .slice Ac nc cc:=by
       have:=s6.out.symm.trans h1
       injection this
      have i5:Hid ((F k).1=0):=by show _=_;rw[g0.out];exact h3
      have p4:=hI h2;have p0:=hI h4;clear h1 h2 h3 h4 hh;go_wp2_with fail;have m3:nc<=4096:=by have h1:=Sc (ls:=Cm (Am xs) L) q1.out;have h2:=p4.out.len;omega
      refine(Py Ac nc cc (Bw (Cm (Am xs) L) ws).2 wr p4.out m3).mono ?_;rintro e w5 ⟨A3,n3,c3,rfl,f1,a6,g3⟩;have i4:=hI (a0.out.below a6);have f5:=hI (f6.out.trans (a6.mono f6.out.size));have b2:L4 bm bm u14 w5 A3 n3:=Vp f1 g3 a0.out.om.lt (fun p e=>(a0.out.oo.lt p e).2) a0.out.sz;have a1:Below w5.heap.size w5 (w5.alloc (.cells #[.slice A3 n3 c3] 28)):=(Below.refl _ w5).alloc rr _;have b9:=hI (i4.out.below a1);have k4:=hI (f1.below a1 rr);have j8:=hI (b2.up a1.size);have g2:=hI (f5.out.trans (a1.mono f5.out.size));have d6:=b9.out.sz;obtain⟨A14,c14,rfl⟩:=Bh b9.out.oo;have s7:ps.length<=k:=by have:=congrArg List.length i3.out;simp at this;omega
      clear f1 a6 g3 b2 a1 i4 f5;go_wp2_with(at_builtin;(refine Tb rfl (.tmp 84) (.tmp 87) rfl bm (.slice A14 ps.length c14) ps.length (ps.map Part.val) rfl b9.out.oo ⟨w5.heap.size,0,none⟩ 1 (.slice A3 n3 c3) rfl (cell_one_new _ _ _) rfl (by omega) d6 ?hc))
      case hc=>
       intro v' w7 d1 hg a5;have k2:=hI ((b9.out.push (p:=(A3,n3,c3,(Bw (Cm (Am xs) L) ws).2)) k4.out j8.out d1 hg (by simpa using a5)).mono (Nat.le_succ k));have k5:Hid (Below w.heap.size w w7):=g2.out.grown hg g2.out.size fun p e=>by have:=(b9.out.oo.lt p e).1;omega
       have f2:Hid ((ps++[(A3,n3,c3,(Bw (Cm (Am xs) L) ws).2)]).map Part.word=(List.range (k+1)).map fun a=>(F a).2):=by
        show _=_;rw[List.map_append,i3.out,List.range_succ,List.map_append];show _++[(Bw (Cm (Am xs) L) ws).2]=_++[(F k).2];rw[g0.out]
       have d5:Hid (∀a,a<k+1->(F a).1=0):=fun a ha=>by
        by_cases e:a=k
        ·rw[e];exact i5.out
        ·exact j2.out a (by omega)
       clear d1 hg a5;go_wp2
       go_roundw
       case rel=>exact⟨k+1,_,D,by omega,by go_num,k2.out,f2.out,d5.out,k5.out⟩
       case measure=>simp[intOf];omega
     |false=>
      rw[hh]at a7;clear hh;have q3:B2 wr A6 j c6 (Eu xs L):=⟨Du.of_own s2.out Bn.len (by decide),fun y hy=>(HX.out.below f6.out rr).2 y (Sd hy)⟩
      have r8:=hI q3;clear q3;go_wp2_with fail;refine(Qc A6 j c6 (Eu xs L) Aw nw cw ws wr r8.out (HW.out.below f6.out rr) (HT.out.below f6.out rr)).mono ?_;rw[Vq];obtain⟨e3,j7⟩:∃e3,e3=(Bw (Cm (Am xs) L) ws).1:=⟨_,rfl⟩;rintro e w8 ⟨Ac,nc,cc,rfl,k6,i8,o1⟩;rw[←j7];have i9:=hI j7;have q8:=hI k6;have q6:=hI (a0.out.below i8);have m5:=hI (f6.out.trans (i8.mono f6.out.size));have r6:=hI (Vp (B:=bm) (bm:=bm) (vo:=u14) k6 o1 a0.out.om.lt (fun p e=>(a0.out.oo.lt p e).2) a0.out.sz);have r2:=hI (Bf p3.out fun p e=>i8.block p (p3.out.lt p e).2);clear j7 k6 i8 o1 a7 a4;by_cases h30:e3=0
      ·have s1:(e3 !=0)=false:=by simp[h30]
       have i5:Hid ((F k).1=0):=by show _=_;rw[g0.out,←i9.out];exact h30
       have d8:=r2.out;rw[show j=L.length from HQ.out]at d8;have a4:=Wg j0.out d8;rw[←show j=L.length from HQ.out]at a4;obtain⟨w9,s8,q5,f0⟩:=q6.out.om.update (string_keyed Tryz.underlying9) Tryz.underlying118 (show k<maxLen by unfold maxLen;omega) (Wf L (by have:=HQ.out;omega)) (show Tf (.slice Ac nc cc)=some (.held (.slice Ac nc cc),[])from rfl);obtain⟨o0,q0,r4⟩:=q6.out.put j0.out q8.out (by rw[←i9.out];exact h30) r6.out q5 f0;have j5:=hI o0;have r9:=hI q0;have o8:Hid (Below w.heap.size w w9):=m5.out.grown f0 m5.out.size fun p e=>by injection e with e;omega
       have m3:nc<=4096:=by have h1:=Sc (ls:=Cm (Am xs) L) q1.out;have h2:=q8.out.len;omega
       clear d8 q5 f0 o0 q0 r4 h30;go_wp2_with fail;refine(Py Ac nc cc (Bw (Cm (Am xs) L) ws).2 w9 r9.out m3).mono ?_;rintro e w5 ⟨A3,n3,c3,rfl,f1,a6,g3⟩;have i4:=hI (j5.out.below a6);have f5:=hI (o8.out.trans (a6.mono o8.out.size));have b2:L4 bm bm u14 w5 A3 n3:=Vp f1 g3 j5.out.om.lt (fun p e=>(j5.out.oo.lt p e).2) j5.out.sz;have a1:Below w5.heap.size w5 (w5.alloc (.cells #[.slice A3 n3 c3] 28)):=(Below.refl _ w5).alloc rr _;have b9:=hI (i4.out.below a1);have k4:=hI (f1.below a1 rr);have j8:=hI (b2.up a1.size);have g2:=hI (f5.out.trans (a1.mono f5.out.size));have d6:=b9.out.sz;obtain⟨A14,c14,rfl⟩:=Bh b9.out.oo;have s7:ps.length<=k:=by have:=congrArg List.length i3.out;simp at this;omega
       clear f1 a6 g3 b2 a1 i4 f5;go_wp2_with(at_builtin;refine Tb rfl (.tmp 84) (.tmp 87) rfl bm (.slice A14 ps.length c14) ps.length (ps.map Part.val) rfl b9.out.oo ⟨w5.heap.size,0,none⟩ 1 (.slice A3 n3 c3) rfl (cell_one_new _ _ _) rfl (by omega) d6 ?hc)
       case hc=>
        intro v' w7 d1 hg a5;have k2:=hI ((b9.out.push (p:=(A3,n3,c3,(Bw (Cm (Am xs) L) ws).2)) k4.out j8.out d1 hg (by simpa using a5)));have k5:Hid (Below w.heap.size w w7):=g2.out.grown hg g2.out.size fun p e=>by have:=(b9.out.oo.lt p e).1;omega
        have f2:Hid ((ps++[(A3,n3,c3,(Bw (Cm (Am xs) L) ws).2)]).map Part.word=(List.range (k+1)).map fun a=>(F a).2):=by
         show _=_;rw[List.map_append,i3.out,List.range_succ,List.map_append];show _++[(Bw (Cm (Am xs) L) ws).2]=_++[(F k).2];rw[g0.out]
        have d5:Hid (∀a,a<k+1->(F a).1=0):=fun a ha=>by
         by_cases e:a=k
         ·rw[e];exact i5.out
         ·exact j2.out a (by omega)
        clear d1 hg a5;go_wp2
        go_roundw
        case rel=>exact⟨k+1,_,(D.put (M4 L) (.held (.slice Ac nc cc))),by omega,by go_num,k2.out,f2.out,d5.out,k5.out⟩
        case measure=>simp[intOf];omega
      ·have s1:(e3 !=0)=true:=by simpa using h30
       have i5:Hid (Bs n rs (Am xs) (Af ys) ws now=(e3,[])):=by
        show _=_;rw[HV.out,X7 hkn,N8 _ _ _ _ (fun b hb=>j2.out b (List.mem_range.1 hb)) (by rw[g0.out,←i9.out];exact h30),g0.out,←i9.out]
       go_wp2
       go_ret2
       exact Th.bad i5.out m5.out
  ·obtain rfl:k=n:=by omega
   have q2:Hid (Bs k rs (Am xs) (Af ys) ws now=(0,(List.range k).map fun a=>(F a).2)):=by
    show _=_;rw[HV.out,Sa _ _ fun a ha=>j2.out a (List.mem_range.1 ha)];rfl
   obtain⟨A14,c14,rfl⟩:=Bh f9.out.oo;go_wp2
   go_ret2
   refine⟨A14,c14,ps,by rw[q2.out];rfl,by rw[q2.out];exact i3.out,X6 f9.out.oo m1,f9.out.pp,fun p hp hn ad had=> ?_,HB.out⟩
   obtain⟨h1,h2,h3,h4⟩:=f9.out.pd p hp hn ad had;exact⟨by omega,h3⟩
end Go.Proofs.YtaglfmlgbcmakaaGreatDoor
