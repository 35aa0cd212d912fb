/-
  wave.arrived, wave.line.
  wave.line.
  wave.Line.
  wave.Forms.
-/
import Derived.Test.YtaglfmlgbcmakaaGreatDoorH04
import Derived.Test.YtaglfmlgbcmakaaGreatDoorG38
import Derived.Test.YtaglfmlgbcmakaaGreatDoorG21
set_option linter.all false
set_option maxRecDepth 100000
set_option maxHeartbeats 4000000
namespace Go.Proofs.YtaglfmlgbcmakaaGreatDoor
open Go.RowKit Go.Shelf
attribute [local go_sem] Oper.semAt_some
structure Acw (W:World)(b1 b2 b3 b4:Nat)(A:Option Addr)(m c mb:Nat)(a:Int)(fv:Value):Prop where
 c1:W.heap[b1]? =some (.cells #[.slice A m c] 27 (0,0))
 c2:W.heap[b2]? =some (.cells #[.pointer (some ⟨mb,0,none⟩)] 29 (0,0))
 c3:W.heap[b3]? =some (.cells #[.int .i64 a] 3 (0,0))
 c4:W.heap[b4]? =some (.cells #[fv] 161 (0,0))
theorem Acw.keep {W W':World}{b1 b2 b3 b4:Nat}{A:Option Addr}{m c mb:Nat}{a:Int}{fv:Value}(h:Acw W b1 b2 b3 b4 A m c mb a fv)(hk:Ag (fun _=>False) W W'):Acw W' b1 b2 b3 b4 A m c mb a fv:=
 ⟨(hk.block _ (lt_of_block h.c1) (fun h=>h)).trans h.c1,(hk.block _ (lt_of_block h.c2) (fun h=>h)).trans h.c2,(hk.block _ (lt_of_block h.c3) (fun h=>h)).trans h.c3,(hk.block _ (lt_of_block h.c4) (fun h=>h)).trans h.c4⟩
theorem Xv (mb:Nat)(A:Option Addr)(m c:Nat)(a:Int)(bn:Nat)(w:World):
  Calls Tryz.prog 102 #[.pointer (some ⟨mb,0,none⟩), .slice A m c, .int .i64 a, .func (.func 103) #[] #[.pointer (some ⟨bn,0,none⟩)]] w fun e w'=>
   ∃b1 b2 b3 b4,e= .returned (.func (.func 140) #[] #[.pointer (some ⟨b1,0,none⟩), .pointer (some ⟨b2,0,none⟩), .pointer (some ⟨b3,0,none⟩), .pointer (some ⟨b4,0,none⟩)])/\Acw w' b1 b2 b3 b4 A m c mb a (.func (.func 103) #[] #[.pointer (some ⟨bn,0,none⟩)])/\Below w.heap.size w w':=by
 go_enter Tryz.func102,Tryz.ntmps102;go_wp2_with fail;go_ret;refine⟨_,_,_,_,rfl,⟨hpt,hpt,hpt,hpt⟩,bel⟩
structure Pv (bo lr:Nat)(rc:LoopState->Option Code->Loop)(W1:World)(st:LoopState)(l:List Int)(T:Nat->Prop)(v:Value)(W:World):Prop where
 tw:∀b,T b↔b=bo\/b=lr\/v.ownBlock=some b
 lt:bo<W1.heap.size/\lr<W1.heap.size/\bo≠lr
 out:W.heap[bo]? =some (.cells #[v] 36 (0,0))
 own:Ee W W1.heap.size v l
 kp:Ag (fun b=>b=bo\/b=lr) W1 W
 lp:W.heap[lr]? =some (.loop (rc st none))
section
variable {bo lr:Nat}{rc:LoopState->Option Code->Loop}{W1:World}{st:LoopState}{l:List Int}{T:Nat->Prop}{v:Value}{W W':World}
theorem Pv.keep (h:Pv bo lr rc W1 st l T v W)(hk:Ag (fun b=>W1.heap.size<=b∧¬T b) W W'):Pv bo lr rc W1 st l T v W':=by
 obtain⟨h1,h2,h3,h4,h5,h6⟩:=h;have ho:∀b,b<W1.heap.size->W'.heap[b]? =W.heap[b]? :=fun b hb=>hk.block b (by have:=h5.size;omega) (fun h=>by omega)
 exact⟨h1,h2,(ho _ h2.1).trans h3,h4.block hk.size fun k e=>hk.block k (h4.1.lt k e).2 (fun h=>h.2 ((h1 k).2 (.inr (.inr e)))),((h5.mono (S':=fun b=>(b=bo\/b=lr)\/W1.heap.size<=b) fun _ e=> .inl e).trans (hk.mono fun _ e=> .inr e.1)).old fun b hb e=>e.resolve_right (by omega),(ho _ h2.2.1).trans h6⟩
theorem Pv.lts (h:Pv bo lr rc W1 st l T v W):∀b,T b->b<W.heap.size:=by
 intro b hb;rcases(h.tw b).1 hb with rfl|rfl|e
 ·exact lt_of_block h.out
 ·exact lt_of_block h.lp
 ·exact(h.own.1.lt b e).2
theorem Pv.put (h:Pv bo lr rc W1 st l T v W)(st':LoopState):Pv bo lr rc W1 st' l T v (W.putObj lr (.loop (rc st' none))):=by
 obtain⟨h1,h2,h3,h4,h5,h6⟩:=h;exact⟨h1,h2,(World.putObj_heap_other h2.2.2).trans h3,h4.block (by simp) fun k e=>World.putObj_heap_other (by have:=(h4.1.lt k e).1;omega),h5.putObj (by simp) _,World.putObj_heap_same (lt_of_block h6)⟩
end
end Go.Proofs.YtaglfmlgbcmakaaGreatDoor
namespace Go.Proofs.YtaglfmlgbcmakaaGreatDoor
open Go.RowKit Go.Shelf
attribute [local go_sem] Oper.semAt_some
theorem Aa9 (mb n:Nat)(rs:List Bh)(A:Option Addr)(m c:Nat)(ys:List Cs)(a:Nat)(now:Int)(w:World)(hmap:Cl w mb n rs)(hys:Ci w A m c ys)(hone:∀y∈ys,Ev n y.d=0)(han:a<n)(hm19:m<=19):
  Calls Tryz.prog 59 #[.pointer (some ⟨mb,0,none⟩), .slice A m c, .int .i64 (a:Int), .int .i64 now] w fun e w'=>
   ∃A' c',e= .returned (.slice A' (E5 n rs (Af ys) a now).length c')/\Cm w' A' (E5 n rs (Af ys) a now).length c' (E5 n rs (Af ys) a now)/\Below w.heap.size w w':=by
 have HM:=hI hmap;have b6:=hI hys;have d1:=hI hone;have j6:=hys.max;clear hmap hys hone;refine(callsIn_wide (n:=9)).1 (callsIn_of_wp_marks Tryz.func59 rfl trivial ?_ rfl);simp only[Tryz.ntmps59,List.size_toArray,List.length_cons,List.length_nil,Nat.reduceAdd,Nat.reduceSub,Array.replicate_succ,Array.replicate_zero,List.push_toArray,List.append_toArray,List.nil_append,List.cons_append];gi_wp2;refine⟨trivial, ?_⟩;have k5:(((w.alloc (.cells #[.slice A m c] 27)).alloc (.cells #[.int .i64 now] 2)).alloc (.cells #[.slice none 0 0] 36)).heap[w.heap.size]? =some (.cells #[.slice A m c] 27 (0,0)):=hpt;have k7:(((w.alloc (.cells #[.slice A m c] 27)).alloc (.cells #[.int .i64 now] 2)).alloc (.cells #[.slice none 0 0] 36)).heap[w.heap.size+1]? =some (.cells #[.int .i64 now] 2 (0,0)):=hpt;have k9:(((w.alloc (.cells #[.slice A m c] 27)).alloc (.cells #[.int .i64 now] 2)).alloc (.cells #[.slice none 0 0] 36)).heap[w.heap.size+1+1]? =some (.cells #[.slice none 0 0] 36 (0,0)):=hpt;have kB:Below w.heap.size w (((w.alloc (.cells #[.slice A m c] 27)).alloc (.cells #[.int .i64 now] 2)).alloc (.cells #[.slice none 0 0] 36)):=bel;generalize(((w.alloc (.cells #[.slice A m c] 27)).alloc (.cells #[.int .i64 now] 2)).alloc (.cells #[.slice none 0 0] 36))=V0 at*;obtain⟨bl,d5⟩:∃x,x=w.heap.size:=⟨_,rfl⟩;obtain⟨bo,d6⟩:∃x,x=w.heap.size+1+1:=⟨_,rfl⟩;obtain⟨bn,d7⟩:∃x,x=w.heap.size+1:=⟨_,rfl⟩;rw[←d5]at k5;rw[←d7]at k7;rw[←d6]at k9;rw[←d6,←d7,←d5];have j4:w.heap.size<=bl/\bl<bn/\bn<bo:=by omega
 have K5:=hI k5;have K7:=hI k7;have K9:=hI k9;have KB:=hI kB;clear d5 d6 d7 k5 k7 k9 kB;refine(callsIn_wide.2 (Xv mb A m c a bn V0)).mono ?_;rintro e w2 ⟨b1,b2,b3,b4,rfl,hc,g4⟩;have HC:=hI hc;have a4:=hI g4;clear hc g4;gi_wp2;refine Dw (gf:=140) (lb:= #[.pointer (some ⟨b1,0,none⟩), .pointer (some ⟨b2,0,none⟩), .pointer (some ⟨b3,0,none⟩), .pointer (some ⟨b4,0,none⟩)]) rfl (enters_of Tryz.func140 (by kernel_rfl) rfl) fun fn D l rc W1 hrc hD hl hK2 hD1 hl1 hs2=> ?_
 have i5:=hI hrc;clear hrc;have j3:w2.heap.size<=D:=by omega
 have j5:D<l:=by omega
 clear hs2 hD hl;have a5:=hI hK2;have i7:=hI hD1;have f1:=hI hl1;clear hK2 hD1 hl1;have j8:=KB.out.size;have j7:=a4.out.size;have i4:=lt_of_block K9.out;have g7:=lt_of_block K7.out;have g8:=lt_of_block K5.out;have j9:=a5.out.size;have i9:=lt_of_block f1.out;have b9:Hid (Below w.heap.size w w2):=KB.out.trans (a4.out.mono KB.out.size);have a6:Hid (Below w.heap.size w W1):=b9.out.trans (a5.out.to_below (B:=w.heap.size) (fun b hb=>hb.elim) (by omega));have a2:=hI (HC.out.keep a5.out);have Q5:Hid (W1.heap[bl]? =some (.cells #[.slice A m c] 27 (0,0))):=(a5.out.block _ (by omega) (fun h=>h)).trans ((a4.out.block _ g8).trans K5.out);have Q7:Hid (W1.heap[bn]? =some (.cells #[.int .i64 now] 2 (0,0))):=(a5.out.block _ (by omega) (fun h=>h)).trans ((a4.out.block _ g7).trans K7.out);have Q9:Hid (W1.heap[bo]? =some (.cells #[.slice none 0 0] 36 (0,0))):=(a5.out.block _ (by omega) (fun h=>h)).trans ((a4.out.block _ i4).trans K9.out);clear HC K5 K7 K9 a4 KB;obtain⟨LN,a0⟩:∃LN,LN=Jd n rs (Af ys) a now:=⟨_,rfl⟩;obtain⟨LL,b8⟩:∃LL,LL=E5 n rs (Af ys) a now:=⟨_,rfl⟩;have f2:Hid (LL=LN.map (Tk (Af ys))):=by show _=_;rw[b8,a0];rfl
 have d9:(Af ys).length=m:=by rw[Af,List.length_map];exact b6.out.len
 have i6:Hid (∀k∈LN,k<m):=fun k hk=>by
  rw[a0]at hk;unfold Jd at hk
  have:=((Em (Ca _) _ _ _).1 hk).1
  omega
 have f6:LN.length<=19:=by
  have h1:=G3 (Ca (tAt n rs (Af ys) a)) (fun i=>G0 now (tAt n rs (Af ys) a i)) (Af ys).length;have h2:=List.length_filter_le (fun i=>G0 now (tAt n rs (Af ys) a i)) (List.range (Af ys).length);rw[List.length_range,d9]at h2;rw[a0];unfold Jd;rw[h1,d9];omega
 have f5:=hI b8;have j1:=hI a0;clear d9;obtain⟨J,hJ⟩:∃J:Nat->(Nat->Prop)->World->Prop,J=fun i T X=>∃v,Pv bo l rc W1 .ready (LL.take i) T v X:=⟨_,rfl⟩
 have HJ:=hI hJ;clear hJ
 refine(Xu (9-1) l b1 b2 b3 b4 bn (by omega) mb n rs A m c ys a now J (fun b=>b=bo\/b=l\/(Value.slice none 0 0).ownBlock=some b) W1 ?hlt ?hst ?hy ?h0 (cell_of_one a2.out.c1) (cell_of_one a2.out.c2) (cell_of_one a2.out.c3) (cell_of_one a2.out.c4) Q7.out
  (lt_of_block a2.out.c1) (lt_of_block a2.out.c2) (lt_of_block a2.out.c3) (lt_of_block a2.out.c4) (HM.out.below a6.out) (b6.out.below a6.out) d1.out han hm19).mono ?_
 case hlt=>
  intro s T X hx;rw[HJ.out]at hx;obtain⟨v,hx⟩:=hx;exact hx.lts
 case hst=>
  intro s T X X' hx hk;rw[HJ.out]at hx ⊢;obtain⟨v,hx⟩:=hx;exact⟨v,hx.keep hk⟩
 case h0=>
  rw[HJ.out];exact⟨_,fun b=>Iff.rfl,⟨by omega,i9,by omega⟩,Q9.out,Ee.nil rr,Ag.refl _ _,f1.out⟩
 case hy=>
  intro i T X k b5 hx;rw[HJ.out]at hx;obtain⟨v,hx⟩:=hx;refine Dx i5.out hx.lp rfl ?_;have i2:k<m:=i6.out k (List.mem_of_getElem? (by rw[a0];exact b5));have i3:i<LN.length:=by rw[a0];exact(List.getElem?_eq_some_iff.1 b5).1
  have g0:Below w.heap.size w X:=a6.out.trans (hx.kp.to_below (fun b hb=>by omega) a6.out.size);obtain⟨y,d0⟩:=b6.out.get i2;obtain⟨yb,yo,hA,j0, -,k0, -, -, -, -⟩:=b6.out.at_ d0
  have f7:LL[i]? =some y.d.law:=by
   rw[f2.out,a0,List.getElem?_map,b5];show some (Tk (Af ys) k)=_;unfold Tk;rw[Af,List.getElem?_map,d0];rfl
  have f3:=hI f7;subst hA;obtain⟨law,a8⟩:∃law,law=y.d.law:=⟨_,rfl⟩;rw[←a8]at k0 f3;have HX:=hI hx;have k0X:=(g0.cell (p:=⟨yb,yo+k*5,none⟩) j0).trans k0;have q5X:=(hx.kp.block bl (by omega) (by omega)).trans Q5.out;clear g0 d0 f7 a8 b5 hx k0 a0 b8;gi_wp2;refine⟨HX.out.lp, ?_⟩;have hV:=HX.out.put .busy;have g6:Ag T X (X.putObj l (.loop (rc .busy none))):=(Ag.refl T X).putObj ((HX.out.tw l).2 (.inr (.inl rfl))) _;have k2:(X.putObj l (.loop (rc .busy none))).cell? ⟨yb,yo+k*5,none⟩=some (.int .i64 law):=(Bz (World.putObj_heap_other (by omega)) _).trans k0X;have k1:(X.putObj l (.loop (rc .busy none))).cell? ⟨bl,0,none⟩=some (.slice (some ⟨yb,yo,none⟩) m c):=cell_of_one ((World.putObj_heap_other (by omega)).trans q5X);have g2:(X.putObj l (.loop (rc .busy none))).heap.size=X.heap.size:=by simp
  generalize X.putObj l (.loop (rc .busy none))=V at*;have k9:=cell_of_one hV.out;have i1:(k:Int)<(m:Int):=by omega
  have HV:=hI hV;have g5:=hI g6;have f0:=hI g2
  have d4:Hid (∀W':World,(∀b,b<V.heap.size->v.ownBlock≠some b->W'.heap[b]? =V.heap[b]?)->W'.cell? ⟨bo,0,none⟩=some v/\W'.cell? ⟨bl,0,none⟩=some (.slice (some ⟨yb,yo,none⟩) m c)/\W'.cell? ⟨yb,yo+k*5,none⟩=some (.int .i64 law)):=by
   intro W' h;have j2:=hV.kp.size;have d2:∀b,b<W1.heap.size->v.ownBlock≠some b:=fun b hb e=>by have:=(hV.own.1.lt b e).1;omega
   exact⟨(Bz (h bo (by omega) (d2 bo (by omega))) 0).trans k9,(Bz (h bl (by omega) (d2 bl (by omega))) 0).trans k1,(Bz (h yb (by omega) (d2 yb (by omega))) _).trans k2⟩
  clear hV g6 g2 k0X q5X;gi_wp2;refine Fv (fun W'=>W'.cell? ⟨bo,0,none⟩=some v/\W'.cell? ⟨bl,0,none⟩=some (.slice (some ⟨yb,yo,none⟩) m c)/\W'.cell? ⟨yb,yo+k*5,none⟩=some (.int .i64 law)) (by kernel_rfl) (by kernel_rfl) (fun _ _ h=>by exact h) ⟨k9,k1,k2⟩ (fun hHeld=> ?_);clear k9 k1 k2
  (refine' Ab 0 rfl ?_;(try simp only[Act.put,nY,nX]));(refine' Ab 1 rfl ?_;(try simp only[Act.put,nY,nX]));(refine' Ab 2 rfl ?_;(try simp only[Act.put,nY,nX]));(refine' Ab 3 rfl ?_;(try simp only[Act.put,nY,nX]));(refine' Ab 4 rfl ?_;(try simp only[Act.put,nY,nX]));(refine' Ab 5 rfl ?_;(try simp only[Act.put,nY,nX]))
  clear hHeld
  (refine Aeu 6 rfl (fun K' hK'=> ?_);simp only[nY];go_simp)
  have d8:Below V.heap.size V V.drew:=(Below.refl _ _).drew;have z1:(V.drew.alloc (.cells #[.int .i64 law] 3)).heap[V.drew.heap.size]? =some (.cells #[.int .i64 law] 3 (0,0)):=Ah rfl;have a1:Below V.heap.size V (V.drew.alloc (.cells #[.int .i64 law] 3)):=d8.alloc d8.size _;have o7:=HV.out.own.below a1;refine hK' _ _ ⟨.inr (d4.out _ fun b h _=>a1.block b h),fun _=> ?_⟩
  clear hK' K'
  (try simp only[Act.put,nY,nX])
  obtain⟨q,hq⟩:∃q,q=(LL.take i).length:=⟨_,rfl⟩;have i8:q<=i:=by rw[hq,List.length_take];omega
  have HQ:=hI hq;have o7':=o7.1;rw[←hq]at o7';clear hq;refine Aeu 7 rfl (fun K' hK'=> ?_);rw[if_pos (by rfl)];refine Bs (.tmp 17) (.tmp 23) 36 rfl W1.heap.size 3 (.int .i64 0) 1 8 Tryz.underlying36 Fg rfl (by decide) v q ((LL.take i).map (Value.int .i64)) (by rfl) o7' ⟨V.drew.heap.size,0,none⟩ 1 1 [.int .i64 law] (by rfl) rfl (Es z1) (by intro u hu;simp at hu;subst hu;rfl) (by unfold maxLen;omega) (by omega) o7.2 ?_;intro v' X2 a3 a9 _ g3;obtain⟨A9,c9,rfl⟩:=Bg a3;have b7:∀b,b<V.heap.size->v.ownBlock≠some b->X2.heap[b]? =V.heap[b]? :=fun b hb hn=>(a9.block b (Nat.lt_of_lt_of_le hb a1.size) (fun e=>hn e.symm)).trans (a1.block b hb)
  have f8:=d4.out X2 b7;have a7:v.ownBlock≠some bo:=fun e=>by have:=(HV.out.own.1.lt bo e).1;omega
  have g1:v.ownBlock≠some l:=fun e=>by have:=(HV.out.own.1.lt l e).1;omega
  have d3:=HV.out.kp.size;have x9:=(b7 bo (by omega) a7).trans HV.out.out;have f9:=free_of_one x9;have c9':=cell_of_one x9;refine hK' _ _ ⟨.inr f8,fun _=> ?_⟩
  clear hK' K'
  have f4:Hid (Pv bo l rc W1 .busy (LL.take (i+1)) (fun b=>b=bo\/b=l\/(Value.slice A9 (q+1) c9).ownBlock=some b) (.slice A9 (q+1) c9) (X2.setCell ⟨bo,0,none⟩ (.slice A9 (q+1) c9))):=by
   refine⟨fun b=>Iff.rfl,HV.out.lt,one_setCell x9, ?_, ?_,(Below.heap_setCell _ _ _ _ (by show l≠bo;omega)).trans ((b7 l (by omega) g1).trans HV.out.lp)⟩
   ·have hn:=(Ee.push o7 (by rw[←HQ.out];exact a3) a9);have he:LL.take (i+1)=LL.take i++[law]:=by rw[List.take_add_one,f3.out];rfl
    rw[he];exact hn.block (by simp) fun b e=>Below.heap_setCell _ _ _ _ (by have:=(hn.1.lt b e).1;show b≠bo;omega)
   ·exact((HV.out.kp.below a1 rr).grown a9 fun b e=> .inr (HV.out.own.1.lt b e).1).setCell (p:=⟨bo,0,none⟩) (.inl rfl) _
  have i0:Hid (Ag T X (X2.setCell ⟨bo,0,none⟩ (.slice A9 (q+1) c9))):=
   ((g5.out.below a1 rr).grown a9 fun b e=> .inl ((HV.out.tw b).2 (.inr (.inr e)))).setCell (p:=⟨bo,0,none⟩) ((HV.out.tw bo).2 (.inl rfl)) _
  have g9:Hid (∀b,(b=bo\/b=l\/(Value.slice A9 (q+1) c9).ownBlock=some b)->T b\/X.heap.size<=b):=by
   rintro b (e|e|e)
   ·exact .inl ((HV.out.tw b).2 (.inl e))
   ·exact .inl ((HV.out.tw b).2 (.inr (.inl e)))
   ·rcases g3 with h|h
    ·exact .inl ((HV.out.tw b).2 (.inr (.inr (h▸e))))
    ·rw[h]at e;injection e with e
     right;rw[←f0.out,←e];exact a1.size
  clear o7' a3 a9 g3 b7 f8 a7 g1 x9 o7 z1 a1 d8 d4 g5 f0 HV d3
  (try simp only[Act.put,nY,nX])
  (refine Aeu 8 rfl (fun K' hK'=> ?_);simp only[nY];go_simp)
  refine hK' _ _ ⟨.inl (by kernel_rfl),fun _=>Bc (by kernel_rfl) ?_ _⟩
  clear hK' K' f9 c9';generalize X2.setCell ⟨bo,0,none⟩ (.slice A9 (q+1) c9)=Y at*;gi_wp2;refine⟨f4.out.lp,rfl, ?_⟩;rw[HJ.out];exact⟨_,⟨_,f4.out.put .ready⟩,i0.out.putObj ((HX.out.tw l).2 (.inr (.inl rfl))) _,g9.out⟩
 rintro e W' ⟨⟨v,rfl⟩,T,hj⟩;rw[HJ.out]at hj;obtain⟨v9,hj⟩:=hj;refine .inl ⟨hj.lp, ?_⟩;have xC:=hj.put .exhausted;generalize W'.putObj l (.loop (rc .exhausted none))=X at*;have b0:LL.take (Jd n rs (Af ys) a now).length=LL:=by rw[←a0,f2.out,List.take_of_length_le (by simp)]
 rw[b0]at xC;obtain⟨A9,k9,rfl⟩:=xC.own.form;have c1:=cell_of_one xC.out;have XC:=hI xC;clear hj xC b0 b8 a0;gi_wp2;have hM:Cy w.heap.size X [G9 D]:=⟨D,rfl,by omega,(XC.out.kp.block D (by omega) (by omega)).trans i7.out,by simp,trivial⟩;have hX:Below w.heap.size w X:=a6.out.trans (XC.out.kp.to_below (fun b hb=>by omega) a6.out.size);refine Hz (B:=w.heap.size) Tryz.results59 (.slice A9 LL.length k9) rfl hM fun w' hw'=>⟨A9,k9,by rw[f5.out], ?_,hX.trans hw'.below⟩
 rw[←f5.out];exact Am.of_own (Kx XC.out.own.1 hw') (by decide)
end Go.Proofs.YtaglfmlgbcmakaaGreatDoor
namespace Go.Proofs.YtaglfmlgbcmakaaGreatDoor
open Go.RowKit Go.Shelf
theorem Acx (b n:Nat)(rs:List Bh)(Ax:Option Addr)(nx cx:Nat)(xs:List B8)(A:Option Addr)(m c:Nat)(ys:List Cs)(aa now:Int)(w:World)(hm:Cl w b n rs)(hx:B1 w Ax nx cx xs)(hy:Ci w A m c ys)(hT:Cc w)(h19:m<=19\/64<m):
  Calls Tryz.prog 29 #[.pointer (some ⟨b,0,none⟩), .slice Ax nx cx, .slice A m c, .int .i64 aa, .int .i64 now] w (Ji w (Jt n rs (Ak xs) (Af ys) aa now)):=by
 obtain⟨An,cn,mb,Ar,cr,Aq,cq,c0,c1,c2,c3⟩:=hm.cells;have b7:=hm.lt;have HM:=hI hm;have HX:=hI hx;have HY:=hI hy;have HT:=hI hT;have HC:=hI c0;have b2:(Af ys).length=m:=by rw[Af,List.length_map];exact hy.len
 have b8:=hI b2;have b4:=hI h19;clear hm hx hy hT c0 c1 c2 c3 b2 h19;go_enter Tryz.func29,Tryz.ntmps29;go_wp2_with fail;refine(Pi b n rs Ax nx cx xs A m c ys w HM.out HX.out HY.out HT.out).mono ?_;obtain⟨er,a8⟩:∃er,er=Dr n (Ak xs) (Af ys):=⟨_,rfl⟩;rw[←a8];rintro e w1 ⟨rfl,b1⟩;have a0:=hI b1;have a3:=hI a8;clear b1 a8;by_cases he0:er=0
 ·have b6:(er !=0)=false:=by simp[he0]
  have a5:Hid (Dr n (Ak xs) (Af ys)=0):=by show _=_;rw[←a3.out,he0]
  have HV:Hid (Jt n rs (Ak xs) (Af ys) aa now=if aa<0\/(n:Int)<=aa then(3,[])else(0,E5 n rs (Af ys) aa.toNat now)):=by
   show _=_;unfold Jt;rw[if_neg (by rw[a5.out];simp)]
  have a6:m<=19:=by have:=(E7 a5.out).2.2.1;rw[b8.out]at this;have:=b4.out;omega
  have a7:Hid (∀y∈ys,Ev n y.d=0):=fun y hy=>((E7 a5.out).2.2.2 y.d (List.mem_map.2 ⟨y,hy,rfl⟩)).2.2
  clear a3 he0;by_cases hk0:aa<0
  ·have a1:Hid (Jt n rs (Ak xs) (Af ys) aa now=(3,[])):=by show _=_;rw[HV.out,if_pos (.inl hk0)]
   go_wp2
   go_ret2
   exact Ji.bad a1.out a0.out
  ·go_wp2_with fail;refine(F2 b An n cn w1 ((a0.out.cell (p:=⟨b,0,none⟩) b7).trans HC.out)).mono ?_;rintro e w2 ⟨rfl,a9⟩;have a2:=hI (a0.out.trans (a9.mono a0.out.size));clear a9 a0;by_cases hkm:(n:Int)<=aa
   ·have a1:Hid (Jt n rs (Ak xs) (Af ys) aa now=(3,[])):=by show _=_;rw[HV.out,if_pos (.inr hkm)]
    go_wp2
    go_ret2
    exact Ji.bad a1.out a2.out
   ·obtain⟨k,rfl⟩:∃k:Nat,aa=k:=⟨aa.toNat,by omega⟩;have d0:k<n:=by omega
    have b3:¬(n:Int)<=(k:Int):=by omega
    have a1:Hid (Jt n rs (Ak xs) (Af ys) k now=(0,E5 n rs (Af ys) k now)):=by
     show _=_;rw[HV.out,if_neg (by omega)];rfl
    clear HV;go_wp2_with fail;refine(Aa9 b n rs A m c ys k now w2 (HM.out.below a2.out) (HY.out.below a2.out) a7.out d0 a6).mono ?_;rintro e w3 ⟨A3,c3,rfl,a4,b0⟩;obtain⟨q,hq⟩:∃q,q=(E5 n rs (Af ys) k now).length:=⟨_,rfl⟩;rw[←hq]at a4 ⊢;have b9:=hI a4;have b5:=hI (a2.out.trans (b0.mono a2.out.size));clear a4 b0 hq;go_wp2
    go_ret2
    exact⟨A3,q,c3,by rw[a1.out];rfl,by rw[a1.out];exact b9.out,b5.out⟩
 ·have b6:(er !=0)=true:=by simpa using he0
  have HV:Hid (Jt n rs (Ak xs) (Af ys) aa now=(er,[])):=by show _=_;unfold Jt;rw[if_pos (by rw[←a3.out];exact he0),a3.out]
  go_wp2
  go_ret2
  exact Ji.bad HV.out a0.out
end Go.Proofs.YtaglfmlgbcmakaaGreatDoor
namespace Go.Proofs.YtaglfmlgbcmakaaGreatDoor
open Go.RowKit Go.Shelf Go.Maps Go.WideMaps
theorem Pe {f:Nat->Int×List Snd}:∀(l:List Nat) (done:List (List Snd)),(∀a∈l,(f a).1=0)->Cw f done l=(0,done++l.map fun a=>(f a).2)
 |[],done,_=>by simp[Cw]
 |a::l,done,h=>by
  unfold Cw;rw[if_neg (by rw[h a (List.mem_cons_self ..)];simp),Pe l _ fun b hb=>h b (List.mem_cons_of_mem _ hb)]
  simp
theorem Ms {f:Nat->Int×List Snd}:∀(l r:List Nat) (done:List (List Snd)) (a:Nat),(∀b∈l,(f b).1=0)->(f a).1≠0->Cw f done (l++a::r)=((f a).1,[])
 |[],r,done,a,_,h=>by
  show Cw f done (a::r)=_;unfold Cw;rw[if_pos h]
 |b::l,r,done,a,hl,h=>by
  show Cw f done (b::(l++a::r))=_;unfold Cw;rw[if_neg (by rw[hl b (List.mem_cons_self ..)];simp),Ms l r _ a (fun x hx=>hl x (List.mem_cons_of_mem _ hx)) h]
theorem Pf {w:World}{B B':Nat}{t t':TypeId}{z z':Nat}{v v':Value}{n n':Nat}{xs xs':List Value}(h:w.ownsRow B t z v n xs)(h':w.ownsRow B' t' z' v' n' xs')(hn:t≠t'):∀k,v.ownBlock=some k->v'.ownBlock≠some k:=by
 intro k hk a0;rcases h.2 with⟨rfl,_⟩|⟨g,cap,cur,rfl,_,hg,_⟩
 ·cases hk
 ·rcases h'.2 with⟨rfl,_⟩|⟨g',cap',cur',rfl,_,a1,_⟩
  ·cases a0
  ·obtain rfl:g=k:=Option.some.inj hk;obtain rfl:g'=g:=Option.some.inj a0;rw[hg]at a1;injection a1 with e
   injection e with _ e _
   exact hn e
theorem Xw:(Tryz.prog.info? 5).map (fun i=>(i.zero,i.size,i.bytes))=some (some (.int .u8 0),1,1):=by kernel_rfl
theorem Tm {ops:Array Oper}{rest:List Oper}{o:Oper}{a:Act}{w:World}{Q:Exit->Act->World->Prop}(hgd:o.guard=none)(s x:Operand)
  (ho:o.op= .call {callee:= .builtin .append,args:= #[s,x],argTypes:= #[102,102]})
  (base:Nat) (v:Value) (n:Nat) (xs:List Value) (hs:a.eval s=v) (hown:w.ownsRow base 5 1 v n xs)
  (ad:Addr) (c:Nat) (y:Value) (hx:a.eval x= .slice (some ad) 1 c) (hr:∀j u,[y][j]? =some u->w.cell? (ad.add j)=some u) (hy:y.oneCell'=true) (hl:n+1<=4096) (hbase:base<=w.heap.size)
  (h:∀v' w',w'.ownsRow base 5 1 v' (n+1) (xs++[y])->w.grownBy w' v.ownBlock→
   wpList Tryz.prog ops Q rest (a.put o.dst v') w'):wpList Tryz.prog ops Q (o::rest) a w:=by
 obtain⟨i0,hi,a2,a0,a1⟩:=info_parts Xw
 exact wpList_append_own_at w hgd s x 102 ho base 5 i0 _ 1 1 Tryz.underlying102 hi a2 a0 a1 rfl (by decide) v n xs hs hown ad 1 c [y] hx rfl hr
  (by intro u hu;simp at hu;subst hu;exact hy) (by unfold maxLen;omega) (by omega) hbase fun v' w' h1 h2 _ h4=>h v' w' h1 h2
theorem Pg {ls:List Bb}{ws:List Snd}(hw:Bu ws=0):(Bt ls ws).2.length<=32:=by
 unfold Bt;split
 ·simp
 ·rename_i h
  split
  ·simp
  ·cases e:(Bm ls ws).2.getLast? with
   |none=>simp
   |some x=>
    have h2:=(Qv ls ws (Qw (Yu (by simpa using h))).2 hw).2 x (List.mem_of_getLast? e);exact(J8.1 h2).1
theorem Ro {w:World}{A:Option Addr}{n c s B bm:Nat}{x:List Snd}{vo:Value}(h:Ae w A n c x)(hf:∀ad,A=some ad->s<=ad.block)(hb:bm<s)(ho:∀k,vo.ownBlock=some k->k<s)(hB:B<=s):Kj B bm vo w A n:=fun hn ad had=>by
 have h1:=hf ad had;obtain⟨b,off,hA,a0,_⟩:=h.2.2.2.2 hn;rw[had]at hA;injection hA with hA;subst hA
 exact⟨by omega,by show b≠bm;have:s<=b:=h1;omega,fun e=>by have h2:=ho b e;have:s<=b:=h1;omega,a0⟩
theorem Tn {w:World}{B B':Nat}{t:TypeId}{z n:Nat}{v:Value}{xs:List Value}(h:w.ownsRow B t z v n xs)(hb:B'<=B):w.ownsRow B' t z v n xs:=by
 refine⟨h.1,h.2.imp (fun h=>h) ?_⟩;rintro⟨g,cap,cur,h1,h2,h3⟩;exact⟨g,cap,cur,h1,by omega,h3⟩
def Ll (xs:List B8)(L:List Int):List B8:=L.filterMap fun x=>xs[x.toNat]?
theorem Aba (xs:List B8):∀L:List Int,Ak (Ll xs L)=Cx (Ak xs) L
 |[]=>rfl
 |x::L=>by
  have h:=Aba xs L;unfold Ll Cx at h ⊢;rw[List.filterMap_cons,List.filterMap_cons];have e:(Ak xs)[x.toNat]? =(xs[x.toNat]?).map B8.l:=by rw[Ak,List.getElem?_map]
  rw[e]
  cases xs[x.toNat]? with
  |none=>exact h
  |some y=>show Ak (y::_)=y.l::_;rw[←h];rfl
theorem Xx (xs:List B8)(L:List Int)(x:Int)(y:B8)(h:xs[x.toNat]? =some y):Ll xs (L++[x])=Ll xs L++[y]:=by
 unfold Ll;rw[List.filterMap_append];simp[h]
theorem Abb {xs:List B8}{L:List Int}{y:B8}(h:y∈Ll xs L):y∈xs:=by
 obtain⟨x,_,hx⟩:=List.mem_filterMap.1 h;exact List.mem_of_getElem? hx
theorem To {n a:Nat}(h:a<n):List.range n=List.range a++a::(List.range' (a+1) (n-a-1)):=by
 rw[List.range_eq_range',List.range_eq_range',show n=a+(1+(n-a-1))by omega,←List.range'_append_1,←List.range'_append_1];simp[List.range'_one]
theorem Mc (b n:Nat)(rs:List Bh)(Ax:Option Addr)(nx cx:Nat)(xs:List B8)(A:Option Addr)(m c:Nat)(ys:List Cs)(Aw:Option Addr)(nw cw:Nat)(ws:List Snd)(now:Int)(w:World)(hm:Cl w b n rs)(hx:B1 w Ax nx cx xs)(hy:Ci w A m c ys)(hw:Ae w Aw nw cw ws)(hT:Cc w)(h19:m<=19\/64<m):
  Calls Tryz.prog 18 #[.pointer (some ⟨b,0,none⟩), .slice Ax nx cx, .slice A m c, .slice Aw nw cw, .int .i64 now] w (Qb w (Bf n rs (Ak xs) (Af ys) ws now)):=by
 obtain⟨An,cn,mb,Ar,cr,Aq,cq,c0,c1,c2,c3⟩:=hm.cells;have s5:=hm.lt;have q0:=hm.few;have HM:=hI hm;have HX:=hI hx;have HY:=hI hy;have HT:=hI hT;have HC:=hI c0;have HW:=hI hw;have p5:(Af ys).length=m:=by rw[Af,List.length_map];exact hy.len
 have m8:=hI p5;have r2:=hI h19;have t0:=hx.len;clear hm hx hy hT c0 c1 c2 c3 p5 h19 hw;go_enter Tryz.func18,Tryz.ntmps18;go_wp2_with fail;refine(Pi b n rs Ax nx cx xs A m c ys w HM.out HX.out HY.out HT.out).mono ?_;obtain⟨er,m0⟩:∃er,er=Dr n (Ak xs) (Af ys):=⟨_,rfl⟩;rw[←m0];rintro e w1 ⟨rfl,q7⟩;have i5:=hI q7;have j0:=hI m0;clear q7 m0;by_cases he0:er=0
 case neg=>
  have q9:(er==0)=false:=by simpa using he0
  have p1:(er !=0)=true:=by simpa using he0
  have HV:Hid (Bf n rs (Ak xs) (Af ys) ws now=(er,[])):=by show _=_;unfold Bf;rw[if_pos (by rw[←j0.out];exact he0),j0.out]
  clear he0;go_wp2
  go_ret2
  exact Qb.bad HV.out i5.out
 have q9:(er==0)=true:=by simp[he0]
 have f7:Hid (Dr n (Ak xs) (Af ys)=0):=by show _=_;rw[←j0.out,he0]
 have k7:m<=19:=by have:=(E7 f7.out).2.2.1;rw[m8.out]at this;have:=r2.out;omega
 have k8:Hid (∀y∈ys,Ev n y.d=0):=fun y hy=>((E7 f7.out).2.2.2 y.d (List.mem_map.2 ⟨y,hy,rfl⟩)).2.2
 have m7:Hid (∀y∈ys,0<=y.d.law/\y.d.law<(xs.length:Int)):=fun y hy=>by
  have:=(E7 f7.out).2.2.2 y.d (List.mem_map.2 ⟨y,hy,rfl⟩)
  rw[Ak,List.length_map]at this;exact⟨this.1,this.2.1⟩
 clear j0 he0;go_wp2_with fail;refine(Pd Aw nw cw ws w1 (HW.out.below i5.out rr)).mono ?_;obtain⟨i7,f1⟩:∃er,er=Bu ws:=⟨_,rfl⟩;rw[←f1];rintro e w2 ⟨rfl,q5⟩;have i0:=hI (i5.out.trans (q5.mono i5.out.size));have a8:=hI f1;clear q5 f1 i5;by_cases he0:i7=0
 case neg=>
  have p1:(i7 !=0)=true:=by simpa using he0
  have HV:Hid (Bf n rs (Ak xs) (Af ys) ws now=(i7,[])):=by show _=_;unfold Bf;rw[if_neg (by rw[f7.out];simp),if_pos (by rw[←a8.out];exact he0),a8.out]
  clear he0;go_wp2
  go_ret2
  exact Qb.bad HV.out i0.out
 have p1:(i7 !=0)=false:=by simpa using he0
 have p0:Hid (Bu ws=0):=by show _=_;rw[←a8.out];exact he0
 have HV:Hid (Bf n rs (Ak xs) (Af ys) ws now=Cw (En n rs (Ak xs) (Af ys) ws now) [] (List.range n)):=by
  show _=_;unfold Bf;rw[if_neg (by rw[f7.out];simp),if_neg (by rw[←a8.out];simpa using he0)]
 clear a8 he0;have r4:= @run_makeMap Tryz.prog;go_wp2_with fail;clear r4;have i8:(w2.alloc (.map #[] 0)).ownsMap Tryz.prog 9 P3 w2.heap.size 0 (.map []):=World.ownsMap_made w2 _ _ _;have j1:Below w.heap.size w (w2.alloc (.map #[] 0)):=i0.out.alloc i0.out.size _;have p4:(w2.alloc (.map #[] 0)).heap.size=w2.heap.size+1:=by simp
 obtain⟨bm,o0⟩:∃bm,bm=w2.heap.size:=⟨_,rfl⟩;have m6:w.heap.size<=bm:=by have:=i0.out.size;omega
 rw[←o0]at i8 p4 ⊢;generalize w2.alloc (.map #[] 0)=W0 at*;clear o0 i0;refine(F2 b An n cn W0 ((j1.cell (p:=⟨b,0,none⟩) s5).trans HC.out)).mono ?_;rintro e w3 ⟨rfl,a6⟩;have q6:=hI (j1.trans (a6.mono j1.size))
 have o8:Hid (Fr bm bm 0 (Ak xs) ws (.slice none 0 0) [] (.map []) w3):=
  ⟨rr,Q6 i8 (a6.block bm i8.lt),isMap_empty,(fun L _ hh=>by cases hh),World.ownsRow_nil _ _ _ _,(fun p hp=>absurd hp (List.not_mem_nil)),(fun p hp=>absurd hp (List.not_mem_nil)),by have:=a6.size;omega⟩
 clear i8 j1 p4 a6;obtain⟨F,hF⟩:∃F,F=En n rs (Ak xs) (Af ys) ws now:=⟨_,rfl⟩;rw[←hF]at HV;have HF:=hI hF;clear hF;go_wp2_with fail
 go_loopw [14,36] (fun u14 i wr=>∃(k:Nat) (ps:List Part) (D:DataW Value),k<=n/\i= .int .i64 (k:Int)/\Hid (Fr bm bm k (Ak xs) ws u14 ps D wr)/\Hid (ps.map Part.word=(List.range k).map fun a=>(F a).2)/\Hid (∀a,a<k->(F a).1=0)/\Hid (Below w.heap.size w wr)) (fun _ i _=>n-(intOf i).toNat)
 case atStart=>exact⟨0,[], .map [],Nat.zero_le _,rfl,o8.out,rfl,fun a ha=>by omega,q6.out⟩
 case round=>
  obtain⟨k,ps,D,hk,rfl,f8,g5,j5,HB⟩:=hrel;clear o8 q6;by_cases hkn:k<n
  ·have r0:(k:Int)<(n:Int):=by omega
   go_wp2_with fail;refine(Aa9 b n rs A m c ys k now wr (HM.out.below HB.out) (HY.out.below HB.out) k8.out hkn k7).mono ?_;rintro e w4 ⟨A4,c4,rfl,m1,k6⟩;obtain⟨L,hL⟩:∃L,L=E5 n rs (Af ys) k now:=⟨_,rfl⟩;rw[←hL]at m1 ⊢
   have g8:L.length<=19:=by
    have h1:=G3 (Ca (tAt n rs (Af ys) k)) (fun i=>G0 now (tAt n rs (Af ys) k i)) (Af ys).length;have h2:=List.length_filter_le (fun i=>G0 now (tAt n rs (Af ys) k i)) (List.range (Af ys).length);rw[List.length_range,m8.out]at h2;rw[hL];unfold E5 Jd;rw[List.length_map,h1,m8.out];omega
   have o7:Hid (∀x∈L,0<=x/\x<(xs.length:Int)):=fun x hx=>by
    rw[hL]at hx;obtain⟨j,hj,rfl⟩:=List.mem_map.1 hx;have p7:=((Em (Ca _) _ _ _).1 hj).1;unfold Tk;obtain⟨y,hy⟩:∃y,ys[j]? =some y:=⟨ys[j]'(by rw[Af,List.length_map]at p7;exact p7),List.getElem?_eq_getElem _⟩;rw[Af,List.getElem?_map,hy];exact m7.out y (List.mem_of_getElem? hy)
   have g0:Hid (F k=Bt (Cx (Ak xs) L) ws):=by show _=_;rw[HF.out,hL];rfl
   have s3:xs.length<=64:=by
    have:=(E7 f7.out).2.1
    have h:=Wm this;rwa[Ak,List.length_map]at h
   have q8:=hI m1;have g9:=hI (f8.out.below k6);have i9:=hI (HB.out.trans (k6.mono HB.out.size));obtain⟨q,hq⟩:∃q,q=L.length:=⟨_,rfl⟩;have HQ:=hI hq;rw[←hq]at g8 ⊢;rw[←hq]at q8;clear m1 k6 hL hq f8 HB;go_wp2_with fail
   go_loopw [16,17,45] (fun s16 s17 i wq=>∃j:Nat,j<=q/\i= .int .i64 (j:Int)/\Hid (wq.ownsRow w4.heap.size 55 18 s16 j ((Ll xs (L.take j)).flatMap B8.cells))/\Hid (wq.ownsRow w4.heap.size 5 1 s17 j ((L.take j).map (Value.int .u8)))/\Hid (Below w4.heap.size w4 wq)) (fun _ _ i _=>q-(intOf i).toNat)
   case atStart=>exact⟨0,Nat.zero_le _,rfl,World.ownsRow_nil _ _ _ _,World.ownsRow_nil _ _ _ _,Below.refl _ _⟩
   case round=>
    obtain⟨j,hj,rfl,HO,HK,f9⟩:=hrel;by_cases hjq:j<q
    ·have r8:(j:Int)<(q:Int):=by omega
     have g4:L[j]? =some (L[j]'(by have:=HQ.out;omega)):=List.getElem?_eq_getElem _;obtain⟨x,p9⟩:∃x,x=L[j]'(by have:=HQ.out;omega):=⟨_,rfl⟩;rw[←p9]at g4;have t3:=o7.out x (List.mem_of_getElem? g4);obtain⟨z,rfl⟩:∃z:Nat,x=z:=⟨x.toNat,by omega⟩;have t2:z<xs.length:=by omega
     obtain⟨s,hs⟩:∃s,xs[z]? =some s:=⟨xs[z]'t2,List.getElem?_eq_getElem _⟩;have p8:Hid (L.take (j+1)=L.take j++[(z:Int)]):=by show _=_;rw[List.take_add_one,g4];rfl
     have m4:Hid (Ll xs (L.take (j+1))=Ll xs (L.take j)++[s]):=by show _=_;rw[p8.out];exact Xx xs _ _ s hs
     obtain⟨gl,ol,vv,r5,t4,k4,t1⟩:=(Am.below q8.out f9.out rr).at1 (k:=j) (by omega);rw[List.getElem?_map,g4]at k4;obtain rfl:vv= .int .i64 (z:Int):=by simpa using k4.symm
     subst r5;obtain⟨b0,off0,s4,s8,o9⟩:=(HX.out.below (i9.out.trans (f9.out.mono i9.out.size)) rr).at_ hs;subst s4;have t5:(z:Int)<(nx:Int):=by omega
     have r6:=hI o9;obtain⟨A6,c6,rfl⟩:=Bg HO.out;obtain⟨A7,c7,rfl⟩:=Bg HK.out;have b9:(wr.alloc (.cells (s.cells).toArray 55)).ownsRow w4.heap.size 55 18 (.slice A6 j c6) j ((Ll xs (L.take j)).flatMap B8.cells):=HO.out.alloc _;have b4:(wr.alloc (.cells (s.cells).toArray 55)).ownsRow w4.heap.size 5 1 (.slice A7 j c7) j ((L.take j).map (Value.int .u8)):=HK.out.alloc _
     have i2:Dg B8.cells 18 (wr.alloc (.cells (s.cells).toArray 55)) (some ⟨wr.heap.size,0,none⟩) 1 1 [s]:=
      ⟨⟨by simp[B8.len],rr,by unfold maxLen;omega,(fun h=>by cases h),fun _=>⟨wr.heap.size,0,rfl,by simp,fun j v hv=>by rw[Nat.zero_add];exact C0 (by simpa using hv)⟩⟩,rfl⟩
     have d6:Below w4.heap.size w4 (wr.alloc (.cells (s.cells).toArray 55)):=f9.out.alloc f9.out.size _;have i3:=d6.size;have p3:=hI (Pf b4 b9 (by decide));have d3:=hI b9;have d4:=hI b4;have k5:=hI i2;have k9:=hI d6;have p2:IntKind.u8.wrap (z:Int)=(z:Int):=by unfold IntKind.wrap;simp[IntKind.signed,IntKind.bits];omega
     clear b9 b4 i2 d6 o9 hs g4 k4 p9;go_wp2_with(first|(refine Qc rfl (.tmp 52) rfl b0 (off0+z*18) s rfl r6.out ?_)|(refine Tw rfl (.tmp 53) rfl s rfl ?_)|(at_builtin;refine Rr rfl (.tmp 49) (.tmp 54) rfl w4.heap.size (.slice A6 j c6) j (Ll xs (L.take j)) rfl d3.out (some ⟨wr.heap.size,0,none⟩) 1 1 [s] rfl k5.out (by omega) i3 ?hl))
     case hl=>
      intro v' w9 b1 d7 _;have f3:Below w4.heap.size w4 w9:=k9.out.grown d7 i3 fun p hp=>(d3.out.lt _ hp).1
      have d0:w9.ownsRow w4.heap.size 5 1 (.slice A7 j c7) j ((L.take j).map (Value.int .u8)):=Be d4.out fun p e=>d7.block p (d4.out.lt p e).2 fun e'=>p3.out p e e'.symm
      have a1:Below w9.heap.size w9 (w9.alloc (.cells #[.int .u8 (z:Int)] 5)):=(Below.refl _ w9).alloc rr _;have a3:=Be b1 fun p e=>a1.block p (b1.lt p e).2
      have a2:=Be d0 fun p e=>a1.block p (d0.lt p e).2
      have b6:=f3.trans (a1.mono f3.size);have d2:=b6.size;have g7:=hI (Pf a3 a2 (by decide));have b5:=hI a3;have a9:=hI a2;have i4:=hI b6;clear b1 d0 d7 a1 f3 a3 a2 b6;go_wp2_with(at_builtin;refine Tm rfl (.tmp 56) (.tmp 59) rfl w4.heap.size (.slice A7 j c7) j ((L.take j).map (Value.int .u8)) rfl a9.out ⟨w9.heap.size,0,none⟩ 1 (.int .u8 (z:Int)) rfl (cell_one_new _ _ _) rfl (by omega) d2 ?hc)
      case hc=>
       intro v'' w11 b2 f2;have i1:Hid (Below w4.heap.size w4 w11):=i4.out.grown f2 d2 fun p hp=>(a9.out.lt _ hp).1
       have k1:Hid (w11.ownsRow w4.heap.size 55 18 v' (j+1) ((Ll xs (L.take (j+1))).flatMap B8.cells)):=by
        show World.ownsRow _ _ _ _ _ _ _;rw[m4.out,List.flatMap_append,List.flatMap_singleton];exact Be b5.out fun p e=>f2.block p (b5.out.lt p e).2 fun e'=>g7.out p e e'.symm
       have j7:Hid (w11.ownsRow w4.heap.size 5 1 v'' (j+1) ((L.take (j+1)).map (Value.int .u8))):=by
        show World.ownsRow _ _ _ _ _ _ _;rw[p8.out,List.map_append,List.map_take];exact b2
       clear b2 f2;go_wp2
       go_roundw
       case rel=>exact⟨j+1,by omega,by go_num,k1.out,j7.out,i1.out⟩
       case measure=>simp[intOf];omega
    ·obtain rfl:j=q:=by omega
     have m9:L.take j=L:=List.take_of_length_le (by rw[HQ.out];exact rr);rw[m9]at HO HK;obtain⟨A6,c6,rfl⟩:=Bg HO.out;obtain⟨A7,c7,rfl⟩:=Bg HK.out;have j3:Hid (Mh L):=fun x hx=>by have:=o7.out x hx;omega
     have b8:=HK.out;rw[show j=L.length from HQ.out]at b8;have a4:=Sd j3.out b8;rw[←show j=L.length from HQ.out]at a4;have a0:=hI (g9.out.below f9.out);obtain⟨v,pz,b3,a5⟩:=a0.out.om.look_ok (string_keyed Tryz.underlying9) Tryz.underlying118 (Tryz.zeroValue28 wr) (show P3 (.slice none 0 0)=some (.held (.slice none 0 0),[])from rfl) (Sc L (by have:=HQ.out;omega))
     have g1:D.atKey (Lr L) (.held (.slice none 0 0))= .held v:=by
      unfold P3 at a5;injection a5 with a5
      injection a5 with a5 _
      exact a5.symm
     have r1:=hI g1;have r3:=hI HO.out;have f6:=hI (i9.out.trans (f9.out.mono i9.out.size));have o2:=hI HK.out;clear b8 m9 a5 g1 HO HK g9
     cases hh:Go.Maps.has D (Lr L)with
     |true=>
      rw[hh]at b3;obtain⟨Ac,nc,cc,h1,h2,h3,h4⟩:=a0.out.wd L j3.out hh
      obtain rfl:v= .slice Ac nc cc:=by
       have:=r1.out.symm.trans h1
       injection this
      have g2:Hid ((F k).1=0):=by show _=_;rw[g0.out];exact h3
      have o6:=hI h2;have p3:=hI h4;clear h1 h2 h3 h4 hh;go_wp2_with fail;have k3:nc<=4096:=by have h1:=Pg (ls:=Cx (Ak xs) L) p0.out;have h2:=o6.out.len;omega
      refine(M8 Ac nc cc (Bt (Cx (Ak xs) L) ws).2 wr o6.out k3).mono ?_;rintro e w5 ⟨A3,n3,c3,rfl,f4,a6,g3⟩;have g6:=hI (a0.out.below a6);have d8:=hI (f6.out.trans (a6.mono f6.out.size));have d1:Kj bm bm u14 w5 A3 n3:=Ro f4 g3 a0.out.om.lt (fun p e=>(a0.out.oo.lt p e).2) a0.out.sz;have a1:Below w5.heap.size w5 (w5.alloc (.cells #[.slice A3 n3 c3] 28)):=(Below.refl _ w5).alloc rr _;have a7:=hI (g6.out.below a1);have m5:=hI (f4.below a1 rr);have k2:=hI (d1.up a1.size);have i6:=hI (d8.out.trans (a1.mono d8.out.size));have d5:=a7.out.sz;obtain⟨A14,c14,rfl⟩:=Bg a7.out.oo;have s7:ps.length<=k:=by have:=congrArg List.length g5.out;simp at this;omega
      clear f4 a6 g3 d1 a1 g6 d8;go_wp2_with(at_builtin;(refine Py rfl (.tmp 84) (.tmp 87) rfl bm (.slice A14 ps.length c14) ps.length (ps.map Part.val) rfl a7.out.oo ⟨w5.heap.size,0,none⟩ 1 (.slice A3 n3 c3) rfl (cell_one_new _ _ _) rfl (by omega) d5 ?hc))
      case hc=>
       intro v' w7 b7 hg a5;have j9:=hI ((a7.out.push (p:=(A3,n3,c3,(Bt (Cx (Ak xs) L) ws).2)) m5.out k2.out b7 hg (by simpa using a5)).mono (Nat.le_succ k));have k0:Hid (Below w.heap.size w w7):=i6.out.grown hg i6.out.size fun p e=>by have:=(a7.out.oo.lt p e).1;omega
       have f5:Hid ((ps++[(A3,n3,c3,(Bt (Cx (Ak xs) L) ws).2)]).map Part.word=(List.range (k+1)).map fun a=>(F a).2):=by
        show _=_;rw[List.map_append,g5.out,List.range_succ,List.map_append];show _++[(Bt (Cx (Ak xs) L) ws).2]=_++[(F k).2];rw[g0.out]
       have d9:Hid (∀a,a<k+1->(F a).1=0):=fun a ha=>by
        by_cases e:a=k
        ·rw[e];exact g2.out
        ·exact j5.out a (by omega)
       clear b7 hg a5;go_wp2
       go_roundw
       case rel=>exact⟨k+1,_,D,by omega,by go_num,j9.out,f5.out,d9.out,k0.out⟩
       case measure=>simp[intOf];omega
     |false=>
      rw[hh]at b3;clear hh;have o5:B1 wr A6 j c6 (Ll xs L):=⟨Dg.of_own r3.out B8.len (by decide),fun y hy=>(HX.out.below f6.out rr).2 y (Abb hy)⟩
      have s1:=hI o5;clear o5;go_wp2_with fail;refine(Yl A6 j c6 (Ll xs L) Aw nw cw ws wr s1.out (HW.out.below f6.out rr) (HT.out.below f6.out rr)).mono ?_;rw[Aba];obtain⟨e3,m3⟩:∃e3,e3=(Bt (Cx (Ak xs) L) ws).1:=⟨_,rfl⟩;rintro e w8 ⟨Ac,nc,cc,rfl,m2,j6,q3⟩;rw[←m3];have j2:=hI m3;have q4:=hI m2;have o1:=hI (a0.out.below j6);have j8:=hI (f6.out.trans (j6.mono f6.out.size));have s9:=hI (Ro (B:=bm) (bm:=bm) (vo:=u14) m2 q3 a0.out.om.lt (fun p e=>(a0.out.oo.lt p e).2) a0.out.sz);have r7:=hI (Be o2.out fun p e=>j6.block p (o2.out.lt p e).2);clear m3 m2 j6 q3 b3 a4;by_cases h30:e3=0
      ·have r9:(e3 !=0)=false:=by simp[h30]
       have g2:Hid ((F k).1=0):=by show _=_;rw[g0.out,←j2.out];exact h30
       have f0:=r7.out;rw[show j=L.length from HQ.out]at f0;have a4:=Sd j3.out f0;rw[←show j=L.length from HQ.out]at a4;obtain⟨w9,s6,q1,d7⟩:=o1.out.om.update (string_keyed Tryz.underlying9) Tryz.underlying118 (show k<maxLen by unfold maxLen;omega) (Sc L (by have:=HQ.out;omega)) (show P3 (.slice Ac nc cc)=some (.held (.slice Ac nc cc),[])from rfl);obtain⟨q2,o4,s0⟩:=o1.out.put j3.out q4.out (by rw[←j2.out];exact h30) s9.out q1 d7;have j4:=hI q2;have s2:=hI o4;have o3:Hid (Below w.heap.size w w9):=j8.out.grown d7 j8.out.size fun p e=>by injection e with e;omega
       have k3:nc<=4096:=by have h1:=Pg (ls:=Cx (Ak xs) L) p0.out;have h2:=q4.out.len;omega
       clear f0 q1 d7 q2 o4 s0 h30;go_wp2_with fail;refine(M8 Ac nc cc (Bt (Cx (Ak xs) L) ws).2 w9 s2.out k3).mono ?_;rintro e w5 ⟨A3,n3,c3,rfl,f4,a6,g3⟩;have g6:=hI (j4.out.below a6);have d8:=hI (o3.out.trans (a6.mono o3.out.size));have d1:Kj bm bm u14 w5 A3 n3:=Ro f4 g3 j4.out.om.lt (fun p e=>(j4.out.oo.lt p e).2) j4.out.sz;have a1:Below w5.heap.size w5 (w5.alloc (.cells #[.slice A3 n3 c3] 28)):=(Below.refl _ w5).alloc rr _;have a7:=hI (g6.out.below a1);have m5:=hI (f4.below a1 rr);have k2:=hI (d1.up a1.size);have i6:=hI (d8.out.trans (a1.mono d8.out.size));have d5:=a7.out.sz;obtain⟨A14,c14,rfl⟩:=Bg a7.out.oo;have s7:ps.length<=k:=by have:=congrArg List.length g5.out;simp at this;omega
       clear f4 a6 g3 d1 a1 g6 d8;go_wp2_with(at_builtin;refine Py rfl (.tmp 84) (.tmp 87) rfl bm (.slice A14 ps.length c14) ps.length (ps.map Part.val) rfl a7.out.oo ⟨w5.heap.size,0,none⟩ 1 (.slice A3 n3 c3) rfl (cell_one_new _ _ _) rfl (by omega) d5 ?hc)
       case hc=>
        intro v' w7 b7 hg a5;have j9:=hI ((a7.out.push (p:=(A3,n3,c3,(Bt (Cx (Ak xs) L) ws).2)) m5.out k2.out b7 hg (by simpa using a5)));have k0:Hid (Below w.heap.size w w7):=i6.out.grown hg i6.out.size fun p e=>by have:=(a7.out.oo.lt p e).1;omega
        have f5:Hid ((ps++[(A3,n3,c3,(Bt (Cx (Ak xs) L) ws).2)]).map Part.word=(List.range (k+1)).map fun a=>(F a).2):=by
         show _=_;rw[List.map_append,g5.out,List.range_succ,List.map_append];show _++[(Bt (Cx (Ak xs) L) ws).2]=_++[(F k).2];rw[g0.out]
        have d9:Hid (∀a,a<k+1->(F a).1=0):=fun a ha=>by
         by_cases e:a=k
         ·rw[e];exact g2.out
         ·exact j5.out a (by omega)
        clear b7 hg a5;go_wp2
        go_roundw
        case rel=>exact⟨k+1,_,(D.put (Lr L) (.held (.slice Ac nc cc))),by omega,by go_num,j9.out,f5.out,d9.out,k0.out⟩
        case measure=>simp[intOf];omega
      ·have r9:(e3 !=0)=true:=by simpa using h30
       have g2:Hid (Bf n rs (Ak xs) (Af ys) ws now=(e3,[])):=by
        show _=_;rw[HV.out,To hkn,Ms _ _ _ _ (fun b hb=>j5.out b (List.mem_range.1 hb)) (by rw[g0.out,←j2.out];exact h30),g0.out,←j2.out]
       go_wp2
       go_ret2
       exact Qb.bad g2.out j8.out
  ·obtain rfl:k=n:=by omega
   have p6:Hid (Bf k rs (Ak xs) (Af ys) ws now=(0,(List.range k).map fun a=>(F a).2)):=by
    show _=_;rw[HV.out,Pe _ _ fun a ha=>j5.out a (List.mem_range.1 ha)];rfl
   obtain⟨A14,c14,rfl⟩:=Bg f8.out.oo;go_wp2
   go_ret2
   refine⟨A14,c14,ps,by rw[p6.out];rfl,by rw[p6.out];exact g5.out,Tn f8.out.oo m6,f8.out.pp,fun p hp hn ad had=> ?_,HB.out⟩
   obtain⟨h1,h2,h3,h4⟩:=f8.out.pd p hp hn ad had;exact⟨by omega,h3⟩
end Go.Proofs.YtaglfmlgbcmakaaGreatDoor
