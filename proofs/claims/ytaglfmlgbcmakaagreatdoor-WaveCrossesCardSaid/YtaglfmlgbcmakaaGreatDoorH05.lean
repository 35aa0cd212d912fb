/-
  wave.arrived, wave.line.
  wave.line.
  wave.Line.
  wave.Forms.
-/
import Derived.Test.YtaglfmlgbcmakaaGreatDoorH04
import Derived.Test.YtaglfmlgbcmakaaGreatDoorG38
import Derived.Test.YtaglfmlgbcmakaaGreatDoorG21
set_option linter.all false
set_option maxRecDepth 100000
set_option maxHeartbeats 4000000
namespace Go.Proofs.YtaglfmlgbcmakaaGreatDoor
open Go.RowKit Go.Shelf
attribute [local go_sem] Oper.semAt_some
structure Akw (W:World)(b1 b2 b3 b4:Nat)(A:Option Addr)(m c mb:Nat)(a:Int)(fv:Value):Prop where
 c1:W.heap[b1]? =some (.cells #[.slice A m c] 27 (0,0))
 c2:W.heap[b2]? =some (.cells #[.pointer (some ⟨mb,0,none⟩)] 29 (0,0))
 c3:W.heap[b3]? =some (.cells #[.int .i64 a] 3 (0,0))
 c4:W.heap[b4]? =some (.cells #[fv] 161 (0,0))
theorem Akw.keep {W W':World}{b1 b2 b3 b4:Nat}{A:Option Addr}{m c mb:Nat}{a:Int}{fv:Value}(h:Akw W b1 b2 b3 b4 A m c mb a fv)(hk:Au (fun _=>False) W W'):Akw W' b1 b2 b3 b4 A m c mb a fv:=
 ⟨(hk.block _ (lt_of_block h.c1) (fun h=>h)).trans h.c1,(hk.block _ (lt_of_block h.c2) (fun h=>h)).trans h.c2,(hk.block _ (lt_of_block h.c3) (fun h=>h)).trans h.c3,(hk.block _ (lt_of_block h.c4) (fun h=>h)).trans h.c4⟩
theorem Ae5 (mb:Nat)(A:Option Addr)(m c:Nat)(a:Int)(bn:Nat)(w:World):
  Calls Tryz.prog 102 #[.pointer (some ⟨mb,0,none⟩), .slice A m c, .int .i64 a, .func (.func 103) #[] #[.pointer (some ⟨bn,0,none⟩)]] w fun e w'=>
   ∃b1 b2 b3 b4,e= .returned (.func (.func 140) #[] #[.pointer (some ⟨b1,0,none⟩), .pointer (some ⟨b2,0,none⟩), .pointer (some ⟨b3,0,none⟩), .pointer (some ⟨b4,0,none⟩)])/\Akw w' b1 b2 b3 b4 A m c mb a (.func (.func 103) #[] #[.pointer (some ⟨bn,0,none⟩)])/\Below w.heap.size w w':=by
 go_enter Tryz.func102,Tryz.ntmps102;go_wp2_with fail;go_ret;refine⟨_,_,_,_,rfl,⟨hpt,hpt,hpt,hpt⟩,bel⟩
structure Ug (bo lr:Nat)(rc:LoopState->Option Code->Loop)(W1:World)(st:LoopState)(l:List Int)(T:Nat->Prop)(v:Value)(W:World):Prop where
 tw:∀b,T b↔b=bo\/b=lr\/v.ownBlock=some b
 lt:bo<W1.heap.size/\lr<W1.heap.size/\bo≠lr
 out:W.heap[bo]? =some (.cells #[v] 36 (0,0))
 own:Ct W W1.heap.size v l
 kp:Au (fun b=>b=bo\/b=lr) W1 W
 lp:W.heap[lr]? =some (.loop (rc st none))
section
variable {bo lr:Nat}{rc:LoopState->Option Code->Loop}{W1:World}{st:LoopState}{l:List Int}{T:Nat->Prop}{v:Value}{W W':World}
theorem Ug.keep (h:Ug bo lr rc W1 st l T v W)(hk:Au (fun b=>W1.heap.size<=b∧¬T b) W W'):Ug bo lr rc W1 st l T v W':=by
 obtain⟨h1,h2,h3,h4,h5,h6⟩:=h;have ho:∀b,b<W1.heap.size->W'.heap[b]? =W.heap[b]? :=fun b hb=>hk.block b (by have:=h5.size;omega) (fun h=>by omega)
 exact⟨h1,h2,(ho _ h2.1).trans h3,h4.block hk.size fun k e=>hk.block k (h4.1.lt k e).2 (fun h=>h.2 ((h1 k).2 (.inr (.inr e)))),((h5.mono (S':=fun b=>(b=bo\/b=lr)\/W1.heap.size<=b) fun _ e=> .inl e).trans (hk.mono fun _ e=> .inr e.1)).old fun b hb e=>e.resolve_right (by omega),(ho _ h2.2.1).trans h6⟩
theorem Ug.lts (h:Ug bo lr rc W1 st l T v W):∀b,T b->b<W.heap.size:=by
 intro b hb;rcases(h.tw b).1 hb with rfl|rfl|e
 ·exact lt_of_block h.out
 ·exact lt_of_block h.lp
 ·exact(h.own.1.lt b e).2
theorem Ug.put (h:Ug bo lr rc W1 st l T v W)(st':LoopState):Ug bo lr rc W1 st' l T v (W.putObj lr (.loop (rc st' none))):=by
 obtain⟨h1,h2,h3,h4,h5,h6⟩:=h;exact⟨h1,h2,(World.putObj_heap_other h2.2.2).trans h3,h4.block (by simp) fun k e=>World.putObj_heap_other (by have:=(h4.1.lt k e).1;omega),h5.putObj (by simp) _,World.putObj_heap_same (lt_of_block h6)⟩
end
end Go.Proofs.YtaglfmlgbcmakaaGreatDoor
namespace Go.Proofs.YtaglfmlgbcmakaaGreatDoor
open Go.RowKit Go.Shelf
attribute [local go_sem] Oper.semAt_some
theorem Aiy (mb n:Nat)(rs:List Bb)(A:Option Addr)(m c:Nat)(ys:List Bu)(a:Nat)(now:Int)(w:World)(hmap:C0 w mb n rs)(hys:Bv w A m c ys)(hone:∀y∈ys,Di n y.d=0)(han:a<n)(hm19:m<=19):
  Calls Tryz.prog 59 #[.pointer (some ⟨mb,0,none⟩), .slice A m c, .int .i64 (a:Int), .int .i64 now] w fun e w'=>
   ∃A' c',e= .returned (.slice A' (Et n rs (Ae ys) a now).length c')/\Bn w' A' (Et n rs (Ae ys) a now).length c' (Et n rs (Ae ys) a now)/\Below w.heap.size w w':=by
 have HM:=hI hmap;have b6:=hI hys;have d5:=hI hone;have j5:=hys.max;clear hmap hys hone;refine(callsIn_wide (n:=9)).1 (callsIn_of_wp_marks Tryz.func59 rfl trivial ?_ rfl);simp only[Tryz.ntmps59,List.size_toArray,List.length_cons,List.length_nil,Nat.reduceAdd,Nat.reduceSub,Array.replicate_succ,Array.replicate_zero,List.push_toArray,List.append_toArray,List.nil_append,List.cons_append];gi_wp2;refine⟨trivial, ?_⟩;have k5:(((w.alloc (.cells #[.slice A m c] 27)).alloc (.cells #[.int .i64 now] 2)).alloc (.cells #[.slice none 0 0] 36)).heap[w.heap.size]? =some (.cells #[.slice A m c] 27 (0,0)):=hpt;have k7:(((w.alloc (.cells #[.slice A m c] 27)).alloc (.cells #[.int .i64 now] 2)).alloc (.cells #[.slice none 0 0] 36)).heap[w.heap.size+1]? =some (.cells #[.int .i64 now] 2 (0,0)):=hpt;have k9:(((w.alloc (.cells #[.slice A m c] 27)).alloc (.cells #[.int .i64 now] 2)).alloc (.cells #[.slice none 0 0] 36)).heap[w.heap.size+1+1]? =some (.cells #[.slice none 0 0] 36 (0,0)):=hpt;have kB:Below w.heap.size w (((w.alloc (.cells #[.slice A m c] 27)).alloc (.cells #[.int .i64 now] 2)).alloc (.cells #[.slice none 0 0] 36)):=bel;generalize(((w.alloc (.cells #[.slice A m c] 27)).alloc (.cells #[.int .i64 now] 2)).alloc (.cells #[.slice none 0 0] 36))=V0 at*;obtain⟨bl,d4⟩:∃x,x=w.heap.size:=⟨_,rfl⟩;obtain⟨bo,d2⟩:∃x,x=w.heap.size+1+1:=⟨_,rfl⟩;obtain⟨bn,d8⟩:∃x,x=w.heap.size+1:=⟨_,rfl⟩;rw[←d4]at k5;rw[←d8]at k7;rw[←d2]at k9;rw[←d2,←d8,←d4];have j3:w.heap.size<=bl/\bl<bn/\bn<bo:=by omega
 have K5:=hI k5;have K7:=hI k7;have K9:=hI k9;have KB:=hI kB;clear d4 d2 d8 k5 k7 k9 kB;refine(callsIn_wide.2 (Ae5 mb A m c a bn V0)).mono ?_;rintro e w2 ⟨b1,b2,b3,b4,rfl,hc,f7⟩;have HC:=hI hc;have a5:=hI f7;clear hc f7;gi_wp2;refine E5 (gf:=140) (lb:= #[.pointer (some ⟨b1,0,none⟩), .pointer (some ⟨b2,0,none⟩), .pointer (some ⟨b3,0,none⟩), .pointer (some ⟨b4,0,none⟩)]) rfl (enters_of Tryz.func140 (by kernel_rfl) rfl) fun fn D l rc W1 hrc hD hl hK2 hD1 hl1 hs2=> ?_
 have i3:=hI hrc;clear hrc;have j9:w2.heap.size<=D:=by omega
 have j2:D<l:=by omega
 clear hs2 hD hl;have a4:=hI hK2;have i6:=hI hD1;have f6:=hI hl1;clear hK2 hD1 hl1;have j1:=KB.out.size;have j4:=a5.out.size;have i0:=lt_of_block K9.out;have j0:=lt_of_block K7.out;have i5:=lt_of_block K5.out;have j8:=a4.out.size;have i2:=lt_of_block f6.out;have d7:Hid (Below w.heap.size w w2):=KB.out.trans (a5.out.mono KB.out.size);have a6:Hid (Below w.heap.size w W1):=d7.out.trans (a4.out.to_below (B:=w.heap.size) (fun b hb=>hb.elim) (by omega));have a1:=hI (HC.out.keep a4.out);have Q5:Hid (W1.heap[bl]? =some (.cells #[.slice A m c] 27 (0,0))):=(a4.out.block _ (by omega) (fun h=>h)).trans ((a5.out.block _ i5).trans K5.out);have Q7:Hid (W1.heap[bn]? =some (.cells #[.int .i64 now] 2 (0,0))):=(a4.out.block _ (by omega) (fun h=>h)).trans ((a5.out.block _ j0).trans K7.out);have Q9:Hid (W1.heap[bo]? =some (.cells #[.slice none 0 0] 36 (0,0))):=(a4.out.block _ (by omega) (fun h=>h)).trans ((a5.out.block _ i0).trans K9.out);clear HC K5 K7 K9 a5 KB;obtain⟨LN,a0⟩:∃LN,LN=Jd n rs (Ae ys) a now:=⟨_,rfl⟩;obtain⟨LL,b7⟩:∃LL,LL=Et n rs (Ae ys) a now:=⟨_,rfl⟩;have g4:Hid (LL=LN.map (Li (Ae ys))):=by show _=_;rw[b7,a0];rfl
 have d1:(Ae ys).length=m:=by rw[Ae,List.length_map];exact b6.out.len
 have i9:Hid (∀k∈LN,k<m):=fun k hk=>by
  rw[a0]at hk;unfold Jd at hk
  have:=((Fy (B8 _) _ _ _).1 hk).1
  omega
 have g2:LN.length<=19:=by
  have h1:=Hr (B8 (tAt n rs (Ae ys) a)) (fun i=>En now (tAt n rs (Ae ys) a i)) (Ae ys).length;have h2:=List.length_filter_le (fun i=>En now (tAt n rs (Ae ys) a i)) (List.range (Ae ys).length);rw[List.length_range,d1]at h2;rw[a0];unfold Jd;rw[h1,d1];omega
 have g5:=hI b7;have j6:=hI a0;clear d1;obtain⟨J,hJ⟩:∃J:Nat->(Nat->Prop)->World->Prop,J=fun i T X=>∃v,Ug bo l rc W1 .ready (LL.take i) T v X:=⟨_,rfl⟩
 have HJ:=hI hJ;clear hJ
 refine(Ae4 (9-1) l b1 b2 b3 b4 bn (by omega) mb n rs A m c ys a now J (fun b=>b=bo\/b=l\/(Value.slice none 0 0).ownBlock=some b) W1 ?hlt ?hst ?hy ?h0 (cell_of_one a1.out.c1) (cell_of_one a1.out.c2) (cell_of_one a1.out.c3) (cell_of_one a1.out.c4) Q7.out
  (lt_of_block a1.out.c1) (lt_of_block a1.out.c2) (lt_of_block a1.out.c3) (lt_of_block a1.out.c4) (HM.out.below a6.out) (b6.out.below a6.out) d5.out han hm19).mono ?_
 case hlt=>
  intro s T X hx;rw[HJ.out]at hx;obtain⟨v,hx⟩:=hx;exact hx.lts
 case hst=>
  intro s T X X' hx hk;rw[HJ.out]at hx ⊢;obtain⟨v,hx⟩:=hx;exact⟨v,hx.keep hk⟩
 case h0=>
  rw[HJ.out];exact⟨_,fun b=>Iff.rfl,⟨by omega,i2,by omega⟩,Q9.out,Ct.nil rr,Au.refl _ _,f6.out⟩
 case hy=>
  intro i T X k b5 hx;rw[HJ.out]at hx;obtain⟨v,hx⟩:=hx;refine E6 i3.out hx.lp rfl ?_;have g9:k<m:=i9.out k (List.mem_of_getElem? (by rw[a0];exact b5));have i1:i<LN.length:=by rw[a0];exact(List.getElem?_eq_some_iff.1 b5).1
  have f0:Below w.heap.size w X:=a6.out.trans (hx.kp.to_below (fun b hb=>by omega) a6.out.size);obtain⟨y,d9⟩:=b6.out.get g9;obtain⟨yb,yo,hA,g7, -,k0, -, -, -, -⟩:=b6.out.at_ d9
  have f3:LL[i]? =some y.d.law:=by
   rw[g4.out,a0,List.getElem?_map,b5];show some (Li (Ae ys) k)=_;unfold Li;rw[Ae,List.getElem?_map,d9];rfl
  have g0:=hI f3;subst hA;obtain⟨law,a9⟩:∃law,law=y.d.law:=⟨_,rfl⟩;rw[←a9]at k0 g0;have HX:=hI hx;have k0X:=(f0.cell (p:=⟨yb,yo+k*5,none⟩) g7).trans k0;have q5X:=(hx.kp.block bl (by omega) (by omega)).trans Q5.out;clear f0 d9 f3 a9 b5 hx k0 a0 b7;gi_wp2;refine⟨HX.out.lp, ?_⟩;have hV:=HX.out.put .busy;have f8:Au T X (X.putObj l (.loop (rc .busy none))):=(Au.refl T X).putObj ((HX.out.tw l).2 (.inr (.inl rfl))) _;have k2:(X.putObj l (.loop (rc .busy none))).cell? ⟨yb,yo+k*5,none⟩=some (.int .i64 law):=(Cn (World.putObj_heap_other (by omega)) _).trans k0X;have k1:(X.putObj l (.loop (rc .busy none))).cell? ⟨bl,0,none⟩=some (.slice (some ⟨yb,yo,none⟩) m c):=cell_of_one ((World.putObj_heap_other (by omega)).trans q5X);have f2:(X.putObj l (.loop (rc .busy none))).heap.size=X.heap.size:=by simp
  generalize X.putObj l (.loop (rc .busy none))=V at*;have k9:=cell_of_one hV.out;have g8:(k:Int)<(m:Int):=by omega
  have HV:=hI hV;have f5:=hI f8;have g1:=hI f2
  have d6:Hid (∀W':World,(∀b,b<V.heap.size->v.ownBlock≠some b->W'.heap[b]? =V.heap[b]?)->W'.cell? ⟨bo,0,none⟩=some v/\W'.cell? ⟨bl,0,none⟩=some (.slice (some ⟨yb,yo,none⟩) m c)/\W'.cell? ⟨yb,yo+k*5,none⟩=some (.int .i64 law)):=by
   intro W' h;have j7:=hV.kp.size;have b9:∀b,b<W1.heap.size->v.ownBlock≠some b:=fun b hb e=>by have:=(hV.own.1.lt b e).1;omega
   exact⟨(Cn (h bo (by omega) (b9 bo (by omega))) 0).trans k9,(Cn (h bl (by omega) (b9 bl (by omega))) 0).trans k1,(Cn (h yb (by omega) (b9 yb (by omega))) _).trans k2⟩
  clear hV f8 f2 k0X q5X;gi_wp2;refine G8 (fun W'=>W'.cell? ⟨bo,0,none⟩=some v/\W'.cell? ⟨bl,0,none⟩=some (.slice (some ⟨yb,yo,none⟩) m c)/\W'.cell? ⟨yb,yo+k*5,none⟩=some (.int .i64 law)) (by kernel_rfl) (by kernel_rfl) (fun _ _ h=>by exact h) ⟨k9,k1,k2⟩ (fun hHeld=> ?_);clear k9 k1 k2
  (refine' Ab 0 rfl ?_;(try simp only[Act.put,nY,nX]));(refine' Ab 1 rfl ?_;(try simp only[Act.put,nY,nX]));(refine' Ab 2 rfl ?_;(try simp only[Act.put,nY,nX]));(refine' Ab 3 rfl ?_;(try simp only[Act.put,nY,nX]));(refine' Ab 4 rfl ?_;(try simp only[Act.put,nY,nX]));(refine' Ab 5 rfl ?_;(try simp only[Act.put,nY,nX]))
  clear hHeld
  (refine Am8 6 rfl (fun K' hK'=> ?_);simp only[nY];go_simp)
  have d0:Below V.heap.size V V.drew:=(Below.refl _ _).drew;have z1:(V.drew.alloc (.cells #[.int .i64 law] 3)).heap[V.drew.heap.size]? =some (.cells #[.int .i64 law] 3 (0,0)):=Ak rfl;have a2:Below V.heap.size V (V.drew.alloc (.cells #[.int .i64 law] 3)):=d0.alloc d0.size _;have o7:=HV.out.own.below a2;refine hK' _ _ ⟨.inr (d6.out _ fun b h _=>a2.block b h),fun _=> ?_⟩
  clear hK' K'
  (try simp only[Act.put,nY,nX])
  obtain⟨q,hq⟩:∃q,q=(LL.take i).length:=⟨_,rfl⟩;have i4:q<=i:=by rw[hq,List.length_take];omega
  have HQ:=hI hq;have o7':=o7.1;rw[←hq]at o7';clear hq;refine Am8 7 rfl (fun K' hK'=> ?_);rw[if_pos (by rfl)];refine B6 (.tmp 17) (.tmp 23) 36 rfl W1.heap.size 3 (.int .i64 0) 1 8 Tryz.underlying36 Gs rfl (by decide) v q ((LL.take i).map (Value.int .i64)) (by rfl) o7' ⟨V.drew.heap.size,0,none⟩ 1 1 [.int .i64 law] (by rfl) rfl (F3 z1) (by intro u hu;simp at hu;subst hu;rfl) (by unfold maxLen;omega) (by omega) o7.2 ?_;intro v' X2 a3 b0 _ g3;obtain⟨A9,c9,rfl⟩:=Bh a3;have b8:∀b,b<V.heap.size->v.ownBlock≠some b->X2.heap[b]? =V.heap[b]? :=fun b hb hn=>(b0.block b (Nat.lt_of_lt_of_le hb a2.size) (fun e=>hn e.symm)).trans (a2.block b hb)
  have f1:=d6.out X2 b8;have a7:v.ownBlock≠some bo:=fun e=>by have:=(HV.out.own.1.lt bo e).1;omega
  have g6:v.ownBlock≠some l:=fun e=>by have:=(HV.out.own.1.lt l e).1;omega
  have d3:=HV.out.kp.size;have x9:=(b8 bo (by omega) a7).trans HV.out.out;have f9:=free_of_one x9;have c9':=cell_of_one x9;refine hK' _ _ ⟨.inr f1,fun _=> ?_⟩
  clear hK' K'
  have f4:Hid (Ug bo l rc W1 .busy (LL.take (i+1)) (fun b=>b=bo\/b=l\/(Value.slice A9 (q+1) c9).ownBlock=some b) (.slice A9 (q+1) c9) (X2.setCell ⟨bo,0,none⟩ (.slice A9 (q+1) c9))):=by
   refine⟨fun b=>Iff.rfl,HV.out.lt,one_setCell x9, ?_, ?_,(Below.heap_setCell _ _ _ _ (by show l≠bo;omega)).trans ((b8 l (by omega) g6).trans HV.out.lp)⟩
   ·have hn:=(Ct.push o7 (by rw[←HQ.out];exact a3) b0);have he:LL.take (i+1)=LL.take i++[law]:=by rw[List.take_add_one,g0.out];rfl
    rw[he];exact hn.block (by simp) fun b e=>Below.heap_setCell _ _ _ _ (by have:=(hn.1.lt b e).1;show b≠bo;omega)
   ·exact((HV.out.kp.below a2 rr).grown b0 fun b e=> .inr (HV.out.own.1.lt b e).1).setCell (p:=⟨bo,0,none⟩) (.inl rfl) _
  have i8:Hid (Au T X (X2.setCell ⟨bo,0,none⟩ (.slice A9 (q+1) c9))):=
   ((f5.out.below a2 rr).grown b0 fun b e=> .inl ((HV.out.tw b).2 (.inr (.inr e)))).setCell (p:=⟨bo,0,none⟩) ((HV.out.tw bo).2 (.inl rfl)) _
  have i7:Hid (∀b,(b=bo\/b=l\/(Value.slice A9 (q+1) c9).ownBlock=some b)->T b\/X.heap.size<=b):=by
   rintro b (e|e|e)
   ·exact .inl ((HV.out.tw b).2 (.inl e))
   ·exact .inl ((HV.out.tw b).2 (.inr (.inl e)))
   ·rcases g3 with h|h
    ·exact .inl ((HV.out.tw b).2 (.inr (.inr (h▸e))))
    ·rw[h]at e;injection e with e
     right;rw[←g1.out,←e];exact a2.size
  clear o7' a3 b0 g3 b8 f1 a7 g6 x9 o7 z1 a2 d0 d6 f5 g1 HV d3
  (try simp only[Act.put,nY,nX])
  (refine Am8 8 rfl (fun K' hK'=> ?_);simp only[nY];go_simp)
  refine hK' _ _ ⟨.inl (by kernel_rfl),fun _=>Ba (by kernel_rfl) ?_ _⟩
  clear hK' K' f9 c9';generalize X2.setCell ⟨bo,0,none⟩ (.slice A9 (q+1) c9)=Y at*;gi_wp2;refine⟨f4.out.lp,rfl, ?_⟩;rw[HJ.out];exact⟨_,⟨_,f4.out.put .ready⟩,i8.out.putObj ((HX.out.tw l).2 (.inr (.inl rfl))) _,i7.out⟩
 rintro e W' ⟨⟨v,rfl⟩,T,hj⟩;rw[HJ.out]at hj;obtain⟨v9,hj⟩:=hj;refine .inl ⟨hj.lp, ?_⟩;have xC:=hj.put .exhausted;generalize W'.putObj l (.loop (rc .exhausted none))=X at*;have a8:LL.take (Jd n rs (Ae ys) a now).length=LL:=by rw[←a0,g4.out,List.take_of_length_le (by simp)]
 rw[a8]at xC;obtain⟨A9,k9,rfl⟩:=xC.own.form;have c1:=cell_of_one xC.out;have XC:=hI xC;clear hj xC a8 b7 a0;gi_wp2;have hM:Dx w.heap.size X [J5 D]:=⟨D,rfl,by omega,(XC.out.kp.block D (by omega) (by omega)).trans i6.out,by simp,trivial⟩;have hX:Below w.heap.size w X:=a6.out.trans (XC.out.kp.to_below (fun b hb=>by omega) a6.out.size);refine La (B:=w.heap.size) Tryz.results59 (.slice A9 LL.length k9) rfl hM fun w' hw'=>⟨A9,k9,by rw[g5.out], ?_,hX.trans hw'.below⟩
 rw[←g5.out];exact Am.of_own (Np XC.out.own.1 hw') (by decide)
end Go.Proofs.YtaglfmlgbcmakaaGreatDoor
namespace Go.Proofs.YtaglfmlgbcmakaaGreatDoor
open Go.RowKit Go.Shelf
theorem Xj (b n:Nat)(rs:List Bb)(Ax:Option Addr)(nx cx:Nat)(xs:List Bj)(A:Option Addr)(m c:Nat)(ys:List Bu)(aa now:Int)(w:World)(hm:C0 w b n rs)(hx:Br w Ax nx cx xs)(hy:Bv w A m c ys)(hT:Cd w)(h19:m<=19\/64<m):
  Calls Tryz.prog 29 #[.pointer (some ⟨b,0,none⟩), .slice Ax nx cx, .slice A m c, .int .i64 aa, .int .i64 now] w (C6 w (Fm n rs (Ah xs) (Ae ys) aa now)):=by
 obtain⟨An,cn,mb,Ar,cr,Aq,cq,c0,c1,c2,c3⟩:=hm.cells;have b4:=hm.lt;have HM:=hI hm;have HX:=hI hx;have HY:=hI hy;have HT:=hI hT;have HC:=hI c0;have a9:(Ae ys).length=m:=by rw[Ae,List.length_map];exact hy.len
 have d0:=hI a9;have b7:=hI h19;clear hm hx hy hT c0 c1 c2 c3 a9 h19;go_enter Tryz.func29,Tryz.ntmps29;go_wp2_with fail;refine(Hs b n rs Ax nx cx xs A m c ys w HM.out HX.out HY.out HT.out).mono ?_;obtain⟨er,a4⟩:∃er,er=Ck n (Ah xs) (Ae ys):=⟨_,rfl⟩;rw[←a4];rintro e w1 ⟨rfl,b1⟩;have a1:=hI b1;have a3:=hI a4;clear b1 a4;by_cases he0:er=0
 ·have b9:(er !=0)=false:=by simp[he0]
  have a5:Hid (Ck n (Ah xs) (Ae ys)=0):=by show _=_;rw[←a3.out,he0]
  have HV:Hid (Fm n rs (Ah xs) (Ae ys) aa now=if aa<0\/(n:Int)<=aa then(3,[])else(0,Et n rs (Ae ys) aa.toNat now)):=by
   show _=_;unfold Fm;rw[if_neg (by rw[a5.out];simp)]
  have a8:m<=19:=by have:=(Dj a5.out).2.2.1;rw[d0.out]at this;have:=b7.out;omega
  have a6:Hid (∀y∈ys,Di n y.d=0):=fun y hy=>((Dj a5.out).2.2.2 y.d (List.mem_map.2 ⟨y,hy,rfl⟩)).2.2
  clear a3 he0;by_cases hk0:aa<0
  ·have a0:Hid (Fm n rs (Ah xs) (Ae ys) aa now=(3,[])):=by show _=_;rw[HV.out,if_pos (.inl hk0)]
   go_wp2
   go_ret2
   exact C6.bad a0.out a1.out
  ·go_wp2_with fail;refine(Gz b An n cn w1 ((a1.out.cell (p:=⟨b,0,none⟩) b4).trans HC.out)).mono ?_;rintro e w2 ⟨rfl,b0⟩;have a2:=hI (a1.out.trans (b0.mono a1.out.size));clear b0 a1;by_cases hkm:(n:Int)<=aa
   ·have a0:Hid (Fm n rs (Ah xs) (Ae ys) aa now=(3,[])):=by show _=_;rw[HV.out,if_pos (.inr hkm)]
    go_wp2
    go_ret2
    exact C6.bad a0.out a2.out
   ·obtain⟨k,rfl⟩:∃k:Nat,aa=k:=⟨aa.toNat,by omega⟩;have b3:k<n:=by omega
    have b5:¬(n:Int)<=(k:Int):=by omega
    have a0:Hid (Fm n rs (Ah xs) (Ae ys) k now=(0,Et n rs (Ae ys) k now)):=by
     show _=_;rw[HV.out,if_neg (by omega)];rfl
    clear HV;go_wp2_with fail;refine(Aiy b n rs A m c ys k now w2 (HM.out.below a2.out) (HY.out.below a2.out) a6.out b3 a8).mono ?_;rintro e w3 ⟨A3,c3,rfl,a7,b2⟩;obtain⟨q,hq⟩:∃q,q=(Et n rs (Ae ys) k now).length:=⟨_,rfl⟩;rw[←hq]at a7 ⊢;have b8:=hI a7;have b6:=hI (a2.out.trans (b2.mono a2.out.size));clear a7 b2 hq;go_wp2
    go_ret2
    exact⟨A3,q,c3,by rw[a0.out];rfl,by rw[a0.out];exact b8.out,b6.out⟩
 ·have b9:(er !=0)=true:=by simpa using he0
  have HV:Hid (Fm n rs (Ah xs) (Ae ys) aa now=(er,[])):=by show _=_;unfold Fm;rw[if_pos (by rw[←a3.out];exact he0),a3.out]
  go_wp2
  go_ret2
  exact C6.bad HV.out a1.out
end Go.Proofs.YtaglfmlgbcmakaaGreatDoor
namespace Go.Proofs.YtaglfmlgbcmakaaGreatDoor
open Go.RowKit Go.Shelf Go.Maps Go.WideMaps
theorem Ti {f:Nat->Int×List Snd}:∀(l:List Nat) (done:List (List Snd)),(∀a∈l,(f a).1=0)->Du f done l=(0,done++l.map fun a=>(f a).2)
 |[],done,_=>by simp[Du]
 |a::l,done,h=>by
  unfold Du;rw[if_neg (by rw[h a (List.mem_cons_self ..)];simp),Ti l _ fun b hb=>h b (List.mem_cons_of_mem _ hb)]
  simp
theorem Qm {f:Nat->Int×List Snd}:∀(l r:List Nat) (done:List (List Snd)) (a:Nat),(∀b∈l,(f b).1=0)->(f a).1≠0->Du f done (l++a::r)=((f a).1,[])
 |[],r,done,a,_,h=>by
  show Du f done (a::r)=_;unfold Du;rw[if_pos h]
 |b::l,r,done,a,hl,h=>by
  show Du f done (b::(l++a::r))=_;unfold Du;rw[if_neg (by rw[hl b (List.mem_cons_self ..)];simp),Qm l r _ a (fun x hx=>hl x (List.mem_cons_of_mem _ hx)) h]
theorem Tj {w:World}{B B':Nat}{t t':TypeId}{z z':Nat}{v v':Value}{n n':Nat}{xs xs':List Value}(h:w.ownsRow B t z v n xs)(h':w.ownsRow B' t' z' v' n' xs')(hn:t≠t'):∀k,v.ownBlock=some k->v'.ownBlock≠some k:=by
 intro k hk a0;rcases h.2 with⟨rfl,_⟩|⟨g,cap,cur,rfl,_,hg,_⟩
 ·cases hk
 ·rcases h'.2 with⟨rfl,_⟩|⟨g',cap',cur',rfl,_,a1,_⟩
  ·cases a0
  ·obtain rfl:g=k:=Option.some.inj hk;obtain rfl:g'=g:=Option.some.inj a0;rw[hg]at a1;injection a1 with e
   injection e with _ e _
   exact hn e
theorem Ae6:(Tryz.prog.info? 5).map (fun i=>(i.zero,i.size,i.bytes))=some (some (.int .u8 0),1,1):=by kernel_rfl
theorem Z8 {ops:Array Oper}{rest:List Oper}{o:Oper}{a:Act}{w:World}{Q:Exit->Act->World->Prop}(hgd:o.guard=none)(s x:Operand)
  (ho:o.op= .call {callee:= .builtin .append,args:= #[s,x],argTypes:= #[102,102]})
  (base:Nat) (v:Value) (n:Nat) (xs:List Value) (hs:a.eval s=v) (hown:w.ownsRow base 5 1 v n xs)
  (ad:Addr) (c:Nat) (y:Value) (hx:a.eval x= .slice (some ad) 1 c) (hr:∀j u,[y][j]? =some u->w.cell? (ad.add j)=some u) (hy:y.oneCell'=true) (hl:n+1<=4096) (hbase:base<=w.heap.size)
  (h:∀v' w',w'.ownsRow base 5 1 v' (n+1) (xs++[y])->w.grownBy w' v.ownBlock→
   wpList Tryz.prog ops Q rest (a.put o.dst v') w'):wpList Tryz.prog ops Q (o::rest) a w:=by
 obtain⟨i0,hi,a1,a2,a0⟩:=info_parts Ae6
 exact wpList_append_own_at w hgd s x 102 ho base 5 i0 _ 1 1 Tryz.underlying102 hi a1 a2 a0 rfl (by decide) v n xs hs hown ad 1 c [y] hx rfl hr
  (by intro u hu;simp at hu;subst hu;exact hy) (by unfold maxLen;omega) (by omega) hbase fun v' w' h1 h2 _ h4=>h v' w' h1 h2
theorem Tk {ls:List Bi}{ws:List Snd}(hw:Cg ws=0):(B9 ls ws).2.length<=32:=by
 unfold B9;split
 ·simp
 ·rename_i h
  split
  ·simp
  ·cases e:(B1 ls ws).2.getLast? with
   |none=>simp
   |some x=>
    have h2:=(Vs ls ws (Vt (Af6 (by simpa using h))).2 hw).2 x (List.mem_of_getLast? e);exact(Mq.1 h2).1
theorem Xk {w:World}{A:Option Addr}{n c s B bm:Nat}{x:List Snd}{vo:Value}(h:Aj w A n c x)(hf:∀ad,A=some ad->s<=ad.block)(hb:bm<s)(ho:∀k,vo.ownBlock=some k->k<s)(hB:B<=s):M3 B bm vo w A n:=fun hn ad had=>by
 have h1:=hf ad had;obtain⟨b,off,hA,a0,_⟩:=h.2.2.2.2 hn;rw[had]at hA;injection hA with hA;subst hA
 exact⟨by omega,by show b≠bm;have:s<=b:=h1;omega,fun e=>by have h2:=ho b e;have:s<=b:=h1;omega,a0⟩
theorem Z9 {w:World}{B B':Nat}{t:TypeId}{z n:Nat}{v:Value}{xs:List Value}(h:w.ownsRow B t z v n xs)(hb:B'<=B):w.ownsRow B' t z v n xs:=by
 refine⟨h.1,h.2.imp (fun h=>h) ?_⟩;rintro⟨g,cap,cur,h1,h2,h3⟩;exact⟨g,cap,cur,h1,by omega,h3⟩
def N2 (xs:List Bj)(L:List Int):List Bj:=L.filterMap fun x=>xs[x.toNat]?
theorem Aiz (xs:List Bj):∀L:List Int,Ah (N2 xs L)=Df (Ah xs) L
 |[]=>rfl
 |x::L=>by
  have h:=Aiz xs L;unfold N2 Df at h ⊢;rw[List.filterMap_cons,List.filterMap_cons];have e:(Ah xs)[x.toNat]? =(xs[x.toNat]?).map Bj.l:=by rw[Ah,List.getElem?_map]
  rw[e]
  cases xs[x.toNat]? with
  |none=>exact h
  |some y=>show Ah (y::_)=y.l::_;rw[←h];rfl
theorem Ae7 (xs:List Bj)(L:List Int)(x:Int)(y:Bj)(h:xs[x.toNat]? =some y):N2 xs (L++[x])=N2 xs L++[y]:=by
 unfold N2;rw[List.filterMap_append];simp[h]
theorem Ai0 {xs:List Bj}{L:List Int}{y:Bj}(h:y∈N2 xs L):y∈xs:=by
 obtain⟨x,_,hx⟩:=List.mem_filterMap.1 h;exact List.mem_of_getElem? hx
theorem Aaa {n a:Nat}(h:a<n):List.range n=List.range a++a::(List.range' (a+1) (n-a-1)):=by
 rw[List.range_eq_range',List.range_eq_range',show n=a+(1+(n-a-1))by omega,←List.range'_append_1,←List.range'_append_1];simp[List.range'_one]
theorem Lr (b n:Nat)(rs:List Bb)(Ax:Option Addr)(nx cx:Nat)(xs:List Bj)(A:Option Addr)(m c:Nat)(ys:List Bu)(Aw:Option Addr)(nw cw:Nat)(ws:List Snd)(now:Int)(w:World)(hm:C0 w b n rs)(hx:Br w Ax nx cx xs)(hy:Bv w A m c ys)(hw:Aj w Aw nw cw ws)(hT:Cd w)(h19:m<=19\/64<m):
  Calls Tryz.prog 18 #[.pointer (some ⟨b,0,none⟩), .slice Ax nx cx, .slice A m c, .slice Aw nw cw, .int .i64 now] w (Up w (Bo n rs (Ah xs) (Ae ys) ws now)):=by
 obtain⟨An,cn,mb,Ar,cr,Aq,cq,c0,c1,c2,c3⟩:=hm.cells;have s2:=hm.lt;have p8:=hm.few;have HM:=hI hm;have HX:=hI hx;have HY:=hI hy;have HT:=hI hT;have HC:=hI c0;have HW:=hI hw;have p7:(Ae ys).length=m:=by rw[Ae,List.length_map];exact hy.len
 have k0:=hI p7;have r5:=hI h19;have t5:=hx.len;clear hm hx hy hT c0 c1 c2 c3 p7 h19 hw;go_enter Tryz.func18,Tryz.ntmps18;go_wp2_with fail;refine(Hs b n rs Ax nx cx xs A m c ys w HM.out HX.out HY.out HT.out).mono ?_;obtain⟨er,m1⟩:∃er,er=Ck n (Ah xs) (Ae ys):=⟨_,rfl⟩;rw[←m1];rintro e w1 ⟨rfl,r0⟩;have i5:=hI r0;have j3:=hI m1;clear r0 m1;by_cases he0:er=0
 case neg=>
  have r6:(er==0)=false:=by simpa using he0
  have q9:(er !=0)=true:=by simpa using he0
  have HV:Hid (Bo n rs (Ah xs) (Ae ys) ws now=(er,[])):=by show _=_;unfold Bo;rw[if_pos (by rw[←j3.out];exact he0),j3.out]
  clear he0;go_wp2
  go_ret2
  exact Up.bad HV.out i5.out
 have r6:(er==0)=true:=by simp[he0]
 have g0:Hid (Ck n (Ah xs) (Ae ys)=0):=by show _=_;rw[←j3.out,he0]
 have k8:m<=19:=by have:=(Dj g0.out).2.2.1;rw[k0.out]at this;have:=r5.out;omega
 have m3:Hid (∀y∈ys,Di n y.d=0):=fun y hy=>((Dj g0.out).2.2.2 y.d (List.mem_map.2 ⟨y,hy,rfl⟩)).2.2
 have k3:Hid (∀y∈ys,0<=y.d.law/\y.d.law<(xs.length:Int)):=fun y hy=>by
  have:=(Dj g0.out).2.2.2 y.d (List.mem_map.2 ⟨y,hy,rfl⟩)
  rw[Ah,List.length_map]at this;exact⟨this.1,this.2.1⟩
 clear j3 he0;go_wp2_with fail;refine(Th Aw nw cw ws w1 (HW.out.below i5.out rr)).mono ?_;obtain⟨i8,f6⟩:∃er,er=Cg ws:=⟨_,rfl⟩;rw[←f6];rintro e w2 ⟨rfl,p0⟩;have i0:=hI (i5.out.trans (p0.mono i5.out.size));have b2:=hI f6;clear p0 f6 i5;by_cases he0:i8=0
 case neg=>
  have q9:(i8 !=0)=true:=by simpa using he0
  have HV:Hid (Bo n rs (Ah xs) (Ae ys) ws now=(i8,[])):=by show _=_;unfold Bo;rw[if_neg (by rw[g0.out];simp),if_pos (by rw[←b2.out];exact he0),b2.out]
  clear he0;go_wp2
  go_ret2
  exact Up.bad HV.out i0.out
 have q9:(i8 !=0)=false:=by simpa using he0
 have p5:Hid (Cg ws=0):=by show _=_;rw[←b2.out];exact he0
 have HV:Hid (Bo n rs (Ah xs) (Ae ys) ws now=Du (Eo n rs (Ah xs) (Ae ys) ws now) [] (List.range n)):=by
  show _=_;unfold Bo;rw[if_neg (by rw[g0.out];simp),if_neg (by rw[←b2.out];simpa using he0)]
 clear b2 he0;have s9:= @run_makeMap Tryz.prog;go_wp2_with fail;clear s9;have j1:(w2.alloc (.map #[] 0)).ownsMap Tryz.prog 9 Un w2.heap.size 0 (.map []):=World.ownsMap_made w2 _ _ _;have j6:Below w.heap.size w (w2.alloc (.map #[] 0)):=i0.out.alloc i0.out.size _;have o7:(w2.alloc (.map #[] 0)).heap.size=w2.heap.size+1:=by simp
 obtain⟨bm,q4⟩:∃bm,bm=w2.heap.size:=⟨_,rfl⟩;have k1:w.heap.size<=bm:=by have:=i0.out.size;omega
 rw[←q4]at j1 o7 ⊢;generalize w2.alloc (.map #[] 0)=W0 at*;clear q4 i0;refine(Gz b An n cn W0 ((j6.cell (p:=⟨b,0,none⟩) s2).trans HC.out)).mono ?_;rintro e w3 ⟨rfl,a6⟩;have p4:=hI (j6.trans (a6.mono j6.size))
 have q8:Hid (G3 bm bm 0 (Ah xs) ws (.slice none 0 0) [] (.map []) w3):=
  ⟨rr,V9 j1 (a6.block bm j1.lt),isMap_empty,(fun L _ hh=>by cases hh),World.ownsRow_nil _ _ _ _,(fun p hp=>absurd hp (List.not_mem_nil)),(fun p hp=>absurd hp (List.not_mem_nil)),(fun p hp=>absurd hp (List.not_mem_nil)),by have:=a6.size;omega⟩
 clear j1 j6 o7 a6;obtain⟨F,hF⟩:∃F,F=Eo n rs (Ah xs) (Ae ys) ws now:=⟨_,rfl⟩;rw[←hF]at HV;have HF:=hI hF;clear hF;go_wp2_with fail
 go_loopw [14,36] (fun u14 i wr=>∃(k:Nat) (ps:List Part) (D:DataW Value),k<=n/\i= .int .i64 (k:Int)/\Hid (G3 bm bm k (Ah xs) ws u14 ps D wr)/\Hid (ps.map Part.word=(List.range k).map fun a=>(F a).2)/\Hid (∀a,a<k->(F a).1=0)/\Hid (Below w.heap.size w wr)) (fun _ i _=>n-(intOf i).toNat)
 case atStart=>exact⟨0,[], .map [],Nat.zero_le _,rfl,q8.out,rfl,fun a ha=>by omega,p4.out⟩
 case round=>
  obtain⟨k,ps,D,hk,rfl,d5,i3,j4,HB⟩:=hrel;clear q8 p4;by_cases hkn:k<n
  ·have r9:(k:Int)<(n:Int):=by omega
   go_wp2_with fail;refine(Aiy b n rs A m c ys k now wr (HM.out.below HB.out) (HY.out.below HB.out) m3.out hkn k8).mono ?_;rintro e w4 ⟨A4,c4,rfl,k4,m8⟩;obtain⟨L,hL⟩:∃L,L=Et n rs (Ae ys) k now:=⟨_,rfl⟩;rw[←hL]at k4 ⊢
   have g7:L.length<=19:=by
    have h1:=Hr (B8 (tAt n rs (Ae ys) k)) (fun i=>En now (tAt n rs (Ae ys) k i)) (Ae ys).length;have h2:=List.length_filter_le (fun i=>En now (tAt n rs (Ae ys) k i)) (List.range (Ae ys).length);rw[List.length_range,k0.out]at h2;rw[hL];unfold Et Jd;rw[List.length_map,h1,k0.out];omega
   have o3:Hid (∀x∈L,0<=x/\x<(xs.length:Int)):=fun x hx=>by
    rw[hL]at hx;obtain⟨j,hj,rfl⟩:=List.mem_map.1 hx;have q7:=((Fy (B8 _) _ _ _).1 hj).1;unfold Li;obtain⟨y,hy⟩:∃y,ys[j]? =some y:=⟨ys[j]'(by rw[Ae,List.length_map]at q7;exact q7),List.getElem?_eq_getElem _⟩;rw[Ae,List.getElem?_map,hy];exact k3.out y (List.mem_of_getElem? hy)
   have f9:Hid (F k=B9 (Df (Ah xs) L) ws):=by show _=_;rw[HF.out,hL];rfl
   have s8:xs.length<=64:=by
    have:=(Dj g0.out).2.1
    have h:=Adr this;rwa[Ah,List.length_map]at h
   have o1:=hI k4;have g5:=hI (d5.out.below m8);have j7:=hI (HB.out.trans (m8.mono HB.out.size));obtain⟨q,hq⟩:∃q,q=L.length:=⟨_,rfl⟩;have HQ:=hI hq;rw[←hq]at g7 ⊢;rw[←hq]at o1;clear k4 m8 hL hq d5 HB;go_wp2_with fail
   go_loopw [16,17,45] (fun s16 s17 i wq=>∃j:Nat,j<=q/\i= .int .i64 (j:Int)/\Hid (wq.ownsRow w4.heap.size 55 18 s16 j ((N2 xs (L.take j)).flatMap Bj.cells))/\Hid (wq.ownsRow w4.heap.size 5 1 s17 j ((L.take j).map (Value.int .u8)))/\Hid (Below w4.heap.size w4 wq)) (fun _ _ i _=>q-(intOf i).toNat)
   case atStart=>exact⟨0,Nat.zero_le _,rfl,World.ownsRow_nil _ _ _ _,World.ownsRow_nil _ _ _ _,Below.refl _ _⟩
   case round=>
    obtain⟨j,hj,rfl,HO,HK,f8⟩:=hrel;by_cases hjq:j<q
    ·have s0:(j:Int)<(q:Int):=by omega
     have i1:L[j]? =some (L[j]'(by have:=HQ.out;omega)):=List.getElem?_eq_getElem _;obtain⟨x,o5⟩:∃x,x=L[j]'(by have:=HQ.out;omega):=⟨_,rfl⟩;rw[←o5]at i1;have t6:=o3.out x (List.mem_of_getElem? i1);obtain⟨z,rfl⟩:∃z:Nat,x=z:=⟨x.toNat,by omega⟩;have t2:z<xs.length:=by omega
     obtain⟨s,hs⟩:∃s,xs[z]? =some s:=⟨xs[z]'t2,List.getElem?_eq_getElem _⟩;have q0:Hid (L.take (j+1)=L.take j++[(z:Int)]):=by show _=_;rw[List.take_add_one,i1];rfl
     have m6:Hid (N2 xs (L.take (j+1))=N2 xs (L.take j)++[s]):=by show _=_;rw[q0.out];exact Ae7 xs _ _ s hs
     obtain⟨gl,ol,vv,s7,t3,m9,t7⟩:=(Am.below o1.out f8.out rr).at1 (k:=j) (by omega);rw[List.getElem?_map,i1]at m9;obtain rfl:vv= .int .i64 (z:Int):=by simpa using m9.symm
     subst s7;obtain⟨b0,off0,t0,r7,q6⟩:=(HX.out.below (j7.out.trans (f8.out.mono j7.out.size)) rr).at_ hs;subst t0;have t4:(z:Int)<(nx:Int):=by omega
     have s6:=hI q6;obtain⟨A6,c6,rfl⟩:=Bh HO.out;obtain⟨A7,c7,rfl⟩:=Bh HK.out;have a8:(wr.alloc (.cells (s.cells).toArray 55)).ownsRow w4.heap.size 55 18 (.slice A6 j c6) j ((N2 xs (L.take j)).flatMap Bj.cells):=HO.out.alloc _;have b6:(wr.alloc (.cells (s.cells).toArray 55)).ownsRow w4.heap.size 5 1 (.slice A7 j c7) j ((L.take j).map (Value.int .u8)):=HK.out.alloc _
     have g1:Cr Bj.cells 18 (wr.alloc (.cells (s.cells).toArray 55)) (some ⟨wr.heap.size,0,none⟩) 1 1 [s]:=
      ⟨⟨by simp[Bj.len],rr,by unfold maxLen;omega,(fun h=>by cases h),fun _=>⟨wr.heap.size,0,rfl,by simp,fun j v hv=>by rw[Nat.zero_add];exact Ch (by simpa using hv)⟩⟩,rfl⟩
     have d6:Below w4.heap.size w4 (wr.alloc (.cells (s.cells).toArray 55)):=f8.out.alloc f8.out.size _;have i2:=d6.size;have q5:=hI (Tj b6 a8 (by decide));have d4:=hI a8;have d3:=hI b6;have m5:=hI g1;have k2:=hI d6;have o8:IntKind.u8.wrap (z:Int)=(z:Int):=by unfold IntKind.wrap;simp[IntKind.signed,IntKind.bits];omega
     clear a8 b6 g1 d6 q6 hs i1 m9 o5;go_wp2_with(first|(refine Pe rfl (.tmp 52) rfl b0 (off0+z*18) s rfl s6.out ?_)|(refine Aaj rfl (.tmp 53) rfl s rfl ?_)|(at_builtin;refine Xq rfl (.tmp 49) (.tmp 54) rfl w4.heap.size (.slice A6 j c6) j (N2 xs (L.take j)) rfl d4.out (some ⟨wr.heap.size,0,none⟩) 1 1 [s] rfl m5.out (by omega) i2 ?hl))
     case hl=>
      intro v' w9 b1 f4 _;have f5:Below w4.heap.size w4 w9:=k2.out.grown f4 i2 fun p hp=>(d4.out.lt _ hp).1
      have a9:w9.ownsRow w4.heap.size 5 1 (.slice A7 j c7) j ((L.take j).map (Value.int .u8)):=Bc d3.out fun p e=>f4.block p (d3.out.lt p e).2 fun e'=>q5.out p e e'.symm
      have a1:Below w9.heap.size w9 (w9.alloc (.cells #[.int .u8 (z:Int)] 5)):=(Below.refl _ w9).alloc rr _;have a3:=Bc b1 fun p e=>a1.block p (b1.lt p e).2
      have a2:=Bc a9 fun p e=>a1.block p (a9.lt p e).2
      have d1:=f5.trans (a1.mono f5.size);have d2:=d1.size;have g2:=hI (Tj a3 a2 (by decide));have b4:=hI a3;have d0:=hI a2;have g9:=hI d1;clear b1 a9 f4 a1 f5 a3 a2 d1;go_wp2_with(at_builtin;refine Z8 rfl (.tmp 56) (.tmp 59) rfl w4.heap.size (.slice A7 j c7) j ((L.take j).map (Value.int .u8)) rfl d0.out ⟨w9.heap.size,0,none⟩ 1 (.int .u8 (z:Int)) rfl (cell_one_new _ _ _) rfl (by omega) d2 ?hc)
      case hc=>
       intro v'' w11 a7 d9;have g8:Hid (Below w4.heap.size w4 w11):=g9.out.grown d9 d2 fun p hp=>(d0.out.lt _ hp).1
       have o0:Hid (w11.ownsRow w4.heap.size 55 18 v' (j+1) ((N2 xs (L.take (j+1))).flatMap Bj.cells)):=by
        show World.ownsRow _ _ _ _ _ _ _;rw[m6.out,List.flatMap_append,List.flatMap_singleton];exact Bc b4.out fun p e=>d9.block p (b4.out.lt p e).2 fun e'=>g2.out p e e'.symm
       have j9:Hid (w11.ownsRow w4.heap.size 5 1 v'' (j+1) ((L.take (j+1)).map (Value.int .u8))):=by
        show World.ownsRow _ _ _ _ _ _ _;rw[q0.out,List.map_append,List.map_take];exact a7
       clear a7 d9;go_wp2
       go_roundw
       case rel=>exact⟨j+1,by omega,by go_num,o0.out,j9.out,g8.out⟩
       case measure=>simp[intOf];omega
    ·obtain rfl:j=q:=by omega
     have p1:L.take j=L:=List.take_of_length_le (by rw[HQ.out];exact rr);rw[p1]at HO HK;obtain⟨A6,c6,rfl⟩:=Bh HO.out;obtain⟨A7,c7,rfl⟩:=Bh HK.out;have i9:Hid (P3 L):=fun x hx=>by have:=o3.out x hx;omega
     have b3:=HK.out;rw[show j=L.length from HQ.out]at b3;have a4:=Yf i9.out b3;rw[←show j=L.length from HQ.out]at a4;have a0:=hI (g5.out.below f8.out);obtain⟨v,pz,b8,a5⟩:=a0.out.om.look_ok (string_keyed Tryz.underlying9) Tryz.underlying118 (Tryz.zeroValue28 wr) (show Un (.slice none 0 0)=some (.held (.slice none 0 0),[])from rfl) (Ye L (by have:=HQ.out;omega))
     have i7:D.atKey (N9 L) (.held (.slice none 0 0))= .held v:=by
      unfold Un at a5;injection a5 with a5
      injection a5 with a5 _
      exact a5.symm
     have r8:=hI i7;have r1:=hI HO.out;have f7:=hI (j7.out.trans (f8.out.mono j7.out.size));have q3:=hI HK.out;clear b3 p1 a5 i7 HO HK g5
     cases hh:Go.Maps.has D (N9 L)with
     |true=>
      rw[hh]at b8;obtain⟨Ac,nc,cc,h1,h2,h3,h4⟩:=a0.out.wd L i9.out hh
      obtain rfl:v= .slice Ac nc cc:=by
       have:=r8.out.symm.trans h1
       injection this
      have g3:Hid ((F k).1=0):=by show _=_;rw[f9.out];exact h3
      have p2:=hI h2;have q5:=hI h4;clear h1 h2 h3 h4 hh;go_wp2_with fail;have m4:nc<=4096:=by have h1:=Tk (ls:=Df (Ah xs) L) p5.out;have h2:=p2.out.len;omega
      refine(Xv Ac nc cc (B9 (Df (Ah xs) L) ws).2 wr p2.out m4).mono ?_;rintro e w5 ⟨A3,n3,c3,rfl,d8,a6,g6,i4⟩;have i6:=hI (a0.out.below a6);have f1:=hI (f7.out.trans (a6.mono f7.out.size));have b7:M3 bm bm u14 w5 A3 n3:=Xk d8 g6 a0.out.om.lt (fun p e=>(a0.out.oo.lt p e).2) a0.out.sz;have a1:Below w5.heap.size w5 (w5.alloc (.cells #[.slice A3 n3 c3] 28)):=(Below.refl _ w5).alloc rr _;have b5:=hI (i6.out.below a1);have k7:=hI (d8.below a1 rr);have m7:=hI (b7.up a1.size);have j8:=hI (i4.below a1);have g4:=hI (f1.out.trans (a1.mono f1.out.size));have f0:=b5.out.sz;obtain⟨A14,c14,rfl⟩:=Bh b5.out.oo;have s4:ps.length<=k:=by have:=congrArg List.length i3.out;simp at this;omega
      clear d8 a6 g6 b7 i4 a1 i6 f1;go_wp2_with(at_builtin;(refine Uk rfl (.tmp 84) (.tmp 87) rfl bm (.slice A14 ps.length c14) ps.length (ps.map Part.val) rfl b5.out.oo ⟨w5.heap.size,0,none⟩ 1 (.slice A3 n3 c3) rfl (cell_one_new _ _ _) rfl (by omega) f0 ?hc))
      case hc=>
       intro v' w7 b9 hg a5;have k6:=hI ((b5.out.push (p:=(A3,n3,c3,(B9 (Df (Ah xs) L) ws).2)) k7.out m7.out j8.out b9 hg (by simpa using a5)).mono (Nat.le_succ k));have m2:Hid (Below w.heap.size w w7):=g4.out.grown hg g4.out.size fun p e=>by have:=(b5.out.oo.lt p e).1;omega
       have d7:Hid ((ps++[(A3,n3,c3,(B9 (Df (Ah xs) L) ws).2)]).map Part.word=(List.range (k+1)).map fun a=>(F a).2):=by
        show _=_;rw[List.map_append,i3.out,List.range_succ,List.map_append];show _++[(B9 (Df (Ah xs) L) ws).2]=_++[(F k).2];rw[f9.out]
       have f3:Hid (∀a,a<k+1->(F a).1=0):=fun a ha=>by
        by_cases e:a=k
        ·rw[e];exact g3.out
        ·exact j4.out a (by omega)
       clear b9 hg a5;go_wp2
       go_roundw
       case rel=>exact⟨k+1,_,D,by omega,by go_num,k6.out,d7.out,f3.out,m2.out⟩
       case measure=>simp[intOf];omega
     |false=>
      rw[hh]at b8;clear hh;have p9:Br wr A6 j c6 (N2 xs L):=⟨Cr.of_own r1.out Bj.len (by decide),fun y hy=>(HX.out.below f7.out rr).2 y (Ai0 hy)⟩
      have s1:=hI p9;clear p9;go_wp2_with fail;refine(X0 A6 j c6 (N2 xs L) Aw nw cw ws wr s1.out (HW.out.below f7.out rr) (HT.out.below f7.out rr)).mono ?_;rw[Aiz];obtain⟨e3,k5⟩:∃e3,e3=(B9 (Df (Ah xs) L) ws).1:=⟨_,rfl⟩;rintro e w8 ⟨Ac,nc,cc,rfl,k9,j0,o4⟩;rw[←k5];have j5:=hI k5;have o6:=hI k9;have p3:=hI (a0.out.below j0);have m0:=hI (f7.out.trans (j0.mono f7.out.size));have r2:=hI (Xk (B:=bm) (bm:=bm) (vo:=u14) k9 o4 a0.out.om.lt (fun p e=>(a0.out.oo.lt p e).2) a0.out.sz);have s3:=hI (Bc q3.out fun p e=>j0.block p (q3.out.lt p e).2);clear k5 k9 j0 o4 b8 a4;by_cases h30:e3=0
      ·have t1:(e3 !=0)=false:=by simp[h30]
       have g3:Hid ((F k).1=0):=by show _=_;rw[f9.out,←j5.out];exact h30
       have f2:=s3.out;rw[show j=L.length from HQ.out]at f2;have a4:=Yf i9.out f2;rw[←show j=L.length from HQ.out]at a4;obtain⟨w9,s5,o2,f4⟩:=p3.out.om.update (string_keyed Tryz.underlying9) Tryz.underlying118 (show k<maxLen by unfold maxLen;omega) (Ye L (by have:=HQ.out;omega)) (show Un (.slice Ac nc cc)=some (.held (.slice Ac nc cc),[])from rfl);obtain⟨q2,p6,r4⟩:=p3.out.put i9.out o6.out (by rw[←j5.out];exact h30) r2.out o2 f4;have j2:=hI q2;have r3:=hI p6;have o9:Hid (Below w.heap.size w w9):=m0.out.grown f4 m0.out.size fun p e=>by injection e with e;omega
       have m4:nc<=4096:=by have h1:=Tk (ls:=Df (Ah xs) L) p5.out;have h2:=o6.out.len;omega
       clear f2 o2 f4 q2 p6 r4 h30;go_wp2_with fail;refine(Xv Ac nc cc (B9 (Df (Ah xs) L) ws).2 w9 r3.out m4).mono ?_;rintro e w5 ⟨A3,n3,c3,rfl,d8,a6,g6,i4⟩;have i6:=hI (j2.out.below a6);have f1:=hI (o9.out.trans (a6.mono o9.out.size));have b7:M3 bm bm u14 w5 A3 n3:=Xk d8 g6 j2.out.om.lt (fun p e=>(j2.out.oo.lt p e).2) j2.out.sz;have a1:Below w5.heap.size w5 (w5.alloc (.cells #[.slice A3 n3 c3] 28)):=(Below.refl _ w5).alloc rr _;have b5:=hI (i6.out.below a1);have k7:=hI (d8.below a1 rr);have m7:=hI (b7.up a1.size);have j8:=hI (i4.below a1);have g4:=hI (f1.out.trans (a1.mono f1.out.size));have f0:=b5.out.sz;obtain⟨A14,c14,rfl⟩:=Bh b5.out.oo;have s4:ps.length<=k:=by have:=congrArg List.length i3.out;simp at this;omega
       clear d8 a6 g6 b7 i4 a1 i6 f1;go_wp2_with(at_builtin;refine Uk rfl (.tmp 84) (.tmp 87) rfl bm (.slice A14 ps.length c14) ps.length (ps.map Part.val) rfl b5.out.oo ⟨w5.heap.size,0,none⟩ 1 (.slice A3 n3 c3) rfl (cell_one_new _ _ _) rfl (by omega) f0 ?hc)
       case hc=>
        intro v' w7 b9 hg a5;have k6:=hI ((b5.out.push (p:=(A3,n3,c3,(B9 (Df (Ah xs) L) ws).2)) k7.out m7.out j8.out b9 hg (by simpa using a5)));have m2:Hid (Below w.heap.size w w7):=g4.out.grown hg g4.out.size fun p e=>by have:=(b5.out.oo.lt p e).1;omega
        have d7:Hid ((ps++[(A3,n3,c3,(B9 (Df (Ah xs) L) ws).2)]).map Part.word=(List.range (k+1)).map fun a=>(F a).2):=by
         show _=_;rw[List.map_append,i3.out,List.range_succ,List.map_append];show _++[(B9 (Df (Ah xs) L) ws).2]=_++[(F k).2];rw[f9.out]
        have f3:Hid (∀a,a<k+1->(F a).1=0):=fun a ha=>by
         by_cases e:a=k
         ·rw[e];exact g3.out
         ·exact j4.out a (by omega)
        clear b9 hg a5;go_wp2
        go_roundw
        case rel=>exact⟨k+1,_,(D.put (N9 L) (.held (.slice Ac nc cc))),by omega,by go_num,k6.out,d7.out,f3.out,m2.out⟩
        case measure=>simp[intOf];omega
      ·have t1:(e3 !=0)=true:=by simpa using h30
       have g3:Hid (Bo n rs (Ah xs) (Ae ys) ws now=(e3,[])):=by
        show _=_;rw[HV.out,Aaa hkn,Qm _ _ _ _ (fun b hb=>j4.out b (List.mem_range.1 hb)) (by rw[f9.out,←j5.out];exact h30),f9.out,←j5.out]
       go_wp2
       go_ret2
       exact Up.bad g3.out m0.out
  ·obtain rfl:k=n:=by omega
   have q1:Hid (Bo k rs (Ah xs) (Ae ys) ws now=(0,(List.range k).map fun a=>(F a).2)):=by
    show _=_;rw[HV.out,Ti _ _ fun a ha=>j4.out a (List.mem_range.1 ha)];rfl
   obtain⟨A14,c14,rfl⟩:=Bh d5.out.oo;go_wp2
   go_ret2
   refine⟨A14,c14,ps,by rw[q1.out];rfl,by rw[q1.out];exact i3.out,Z9 d5.out.oo k1,d5.out.pp,fun p hp hn ad had=> ?_,HB.out⟩
   obtain⟨h1,h2,h3,h4⟩:=d5.out.pd p hp hn ad had;exact⟨by omega,h3,d5.out.pu p hp hn ad had⟩
end Go.Proofs.YtaglfmlgbcmakaaGreatDoor
