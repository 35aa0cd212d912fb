/-
  The iterator of law.run: laws that go over all places.
  The iterator of law.run, for any valid law; what law.Trace and law.Apply return, as it is reckoned.
  law.run's replacements come to an end: how many steps are left at most. The results of law.Trace lie in three cells.
  law.Trace: the range over law.run's function, and the rows of places and words.
-/
import Derived.Test.YtaglfmlgbcmakaaGreatDoorG10
set_option linter.all false
set_option maxRecDepth 100000
set_option maxHeartbeats 4000000
namespace Go.Proofs.YtaglfmlgbcmakaaGreatDoor
open Go.RowKit Go.Shelf
attribute [local go_sem] Oper.semAt_some
theorem Aiv (m lr bw bl bk bm:Nat)(hm:3<=m)(l:Bi)(a:Dq)(A:Option Addr)(n c:Nat)(ws:List Snd)(W:World)(J Jx:RS->TU->World->Prop)(T0:TU)
  (H:Tp lr bw bl bk bm l a A n c ws W.heap.size J Jx) (h0:J (Ca l ws) T0 W) (hmode:l.mode=1) (hn:n<=32) (hfit:∀x∈l.outs,Ei x l.ifs.length=true) (ho:l.outs.length<=64) (hk:l.ifs.length<=64):
  CallsIn Fence.wide m Tryz.prog 204 #[.func (.yield lr) #[] #[], .pointer (some ⟨bw,0,none⟩), .pointer (some ⟨bl,0,none⟩), .pointer (some ⟨bk,0,none⟩), .pointer (some ⟨bm,0,none⟩)] W fun e W'=>
   (∃v,e= .returned v)/\((∃r T,E7 l ws r=true/\J r T W')∨∃r T,Jx r T W'):=by
 have z7:1<=m:=by omega
 have t0:=H.hlt _ _ _ h0;obtain⟨r1,r2,r3,r4,r5,r6,r7⟩:=H.hrd _ _ _ h0;have z2:=lt_of_block r1;have z3:=lt_of_block r2;have z8:=lt_of_block r3;have z6:=lt_of_block r4;obtain⟨d0,d1,d2,d3⟩:=Bu r1;have e2:=cell_of_one r2;have i4:ws.length=n:=r6.len;have i9:=hI i4;clear i4;rw[hmode]at d3;have HM:=hI hmode;clear hmode;have HU:=hI H;clear H;have HF:=hI hfit;clear hfit;have H0:=hI h0;have R1:=hI r1;clear h0 r1 r2 r3 r4 r5 r6 r7 d0 d1 d2;have m7:bw<W.heap.size+1:=by omega
 have m9:bw<W.heap.size+1+1:=by omega
 have i6:bw<W.heap.size+1+1+1:=by omega
 refine callsIn_of_wp_marks Tryz.func204 rfl trivial ?_ rfl;simp only[Tryz.ntmps204,List.size_toArray,List.length_cons,List.length_nil,Nat.reduceAdd,Nat.reduceSub,Array.replicate_succ,Array.replicate_zero,List.push_toArray,List.append_toArray,List.nil_append,List.cons_append]
 gi_wp2_with (refine Ew rfl (.tmp 2) rfl bl l a rfl (t:=55) (fr:=(0,0)) (by repeat(first|exact R1.out|rw[Bc sd])) ?_)
 have g5:((((W.alloc (.cells #[.func (.yield lr) #[] #[]] 216)).alloc (.cells #[.slice A n c] 28)).alloc (.cells #[.int .i64 0] 3)).alloc (.cells #[.int .i64 0] 3)).heap[W.heap.size]? =some (.cells #[.func (.yield lr) #[] #[]] 216 (0,0)):=hpt;have g6:((((W.alloc (.cells #[.func (.yield lr) #[] #[]] 216)).alloc (.cells #[.slice A n c] 28)).alloc (.cells #[.int .i64 0] 3)).alloc (.cells #[.int .i64 0] 3)).heap[W.heap.size+1]? =some (.cells #[.slice A n c] 28 (0,0)):=hpt;have g7:((((W.alloc (.cells #[.func (.yield lr) #[] #[]] 216)).alloc (.cells #[.slice A n c] 28)).alloc (.cells #[.int .i64 0] 3)).alloc (.cells #[.int .i64 0] 3)).heap[W.heap.size+1+1]? =some (.cells #[.int .i64 0] 3 (0,0)):=hpt;have g8:((((W.alloc (.cells #[.func (.yield lr) #[] #[]] 216)).alloc (.cells #[.slice A n c] 28)).alloc (.cells #[.int .i64 0] 3)).alloc (.cells #[.int .i64 0] 3)).heap[W.heap.size+1+1+1]? =some (.cells #[.int .i64 0] 3 (0,0)):=hpt;have g9:Below W.heap.size W ((((W.alloc (.cells #[.func (.yield lr) #[] #[]] 216)).alloc (.cells #[.slice A n c] 28)).alloc (.cells #[.int .i64 0] 3)).alloc (.cells #[.int .i64 0] 3)):=bel;have i0:((((W.alloc (.cells #[.func (.yield lr) #[] #[]] 216)).alloc (.cells #[.slice A n c] 28)).alloc (.cells #[.int .i64 0] 3)).alloc (.cells #[.int .i64 0] 3)).heap.size=W.heap.size+1+1+1+1:=by simp
 generalize((((W.alloc (.cells #[.func (.yield lr) #[] #[]] 216)).alloc (.cells #[.slice A n c] 28)).alloc (.cells #[.int .i64 0] 3)).alloc (.cells #[.int .i64 0] 3))=W0 at*;clear m7 m9 i6 d3 e2;refine⟨trivial, ?_⟩;refine(callsIn_wide.2 (Afo l a A n c 0 W0)).mono ?_;rintro e w1 ⟨rfl,rfl⟩;have o0:=hI i0;clear i0;gi_wp2;have k1:(((W0.alloc (.cells (Bw l a) 55)).alloc (.cells #[.slice A n c] 28)).alloc (.cells #[.int .i64 0] 3)).heap[W0.heap.size]? =some (.cells (Bw l a) 55 (0,0)):=hpt;have k2:(((W0.alloc (.cells (Bw l a) 55)).alloc (.cells #[.slice A n c] 28)).alloc (.cells #[.int .i64 0] 3)).heap[W0.heap.size+1]? =some (.cells #[.slice A n c] 28 (0,0)):=hpt;have k3:(((W0.alloc (.cells (Bw l a) 55)).alloc (.cells #[.slice A n c] 28)).alloc (.cells #[.int .i64 0] 3)).heap[W0.heap.size+1+1]? =some (.cells #[.int .i64 0] 3 (0,0)):=hpt;have kB:Below W0.heap.size W0 (((W0.alloc (.cells (Bw l a) 55)).alloc (.cells #[.slice A n c] 28)).alloc (.cells #[.int .i64 0] 3)):=bel;generalize hV1:(((W0.alloc (.cells (Bw l a) 55)).alloc (.cells #[.slice A n c] 28)).alloc (.cells #[.int .i64 0] 3))=V1 at*;clear hV1;have i0:=o0.out;have q8:=lt_of_block k3;refine Fl (gf:=215) (lb:= #[.pointer (some ⟨W0.heap.size,0,none⟩), .pointer (some ⟨W0.heap.size+1,0,none⟩), .pointer (some ⟨W0.heap.size+1+1,0,none⟩)]) rfl (enters_of Tryz.func215 (by kernel_rfl) rfl) fun fn D l2 rc W1 hrc hD hl2 hK2 hD1 hl1 hs2=> ?_
 have t8:=hI hrc;clear hrc;have z0:W0.heap.size+1+1<D:=by omega
 have p0:D+1=l2:=by omega
 have o8:l2+1=W1.heap.size:=by omega
 have i2:=hI (And.intro p0 o8);have v1:D<l2:=by omega
 have a9:l2<W1.heap.size:=by omega
 clear hs2 hD hl2 p0 o8;have f1:W0.heap.size=W.heap.size+1+1+1+1:=o0.out;have t1:W.heap.size+1+1+1<W0.heap.size:=by omega
 have HZ:=hI f1;clear f1 i0 o0;have a8:Below W.heap.size W W1:=(g9.trans (kB.mono g9.size)).trans (hK2.to_below (fun k hk=>hk.elim) (by have:=g9.size;have:=kB.size;omega));have b3:∀k,k<W0.heap.size->W1.heap[k]? =W0.heap[k]? :=fun k hk=>(hK2.block k (by omega) (by simp)).trans (kB.block k hk)
 have g51:=(b3 _ (by omega)).trans g5;have g61:=(b3 _ (by omega)).trans g6;have g71:=(b3 _ (by omega)).trans g7;have g81:=(b3 _ (by omega)).trans g8;have k11:=(hK2.block _ (by omega) (by simp)).trans k1;have k21:=(hK2.block _ (by omega) (by simp)).trans k2;have k31:=(hK2.block _ (by omega) (by simp)).trans k3;have J1:=HU.out.hst _ T0 W W1 H0.out (Br a8);clear b3 g5 g6 g7 g8 k1 k2 k3 hK2 kB g9
 obtain⟨JJ,s2⟩:∃JJ:Nat->(Nat->Prop)->World->Prop,JJ=fun(s:Nat) T' W'=>∃(r:RS) (T:TU) (An:Option Addr) (nn cn:Nat),
   T'=(fun k=>T.all k\/(W.heap.size+1<=k/\k<=W.heap.size+1+1+1)\/k=l2\/(0<nn∧∃ad,An=some ad/\ad.block=k))/\r.at_=(s:Int)/\nn<=32/\(nn:Int)=n+r.shift/\0<=r.next+r.shift/\r.next<=5000∧
   J r T W'/\W'.heap[W.heap.size]? =some (.cells #[.func (.yield lr) #[] #[]] 216 (0,0))/\W'.heap[W.heap.size+1]? =some (.cells #[.slice An nn cn] 28 (0,0))∧
   W'.heap[W.heap.size+1+1]? =some (.cells #[.int .i64 r.next] 3 (0,0))/\W'.heap[W.heap.size+1+1+1]? =some (.cells #[.int .i64 r.shift] 3 (0,0))∧
   W'.heap[W0.heap.size]? =some (.cells (Bw l a) 55 (0,0))/\W'.heap[W0.heap.size+1]? =some (.cells #[.slice A n c] 28 (0,0))∧
   Nh D A n c ws T.w W' An nn cn r.now/\W'.heap[l2]? =some (.loop (rc .ready none))/\W'.heap[D]? =some (.deferred (some []))/\(∀k,W.heap.size<=k->k<W1.heap.size→¬T.all k)/\W1.heap.size<=W'.heap.size:=⟨_,rfl⟩
 have d4:=hI s2;clear s2;obtain⟨JX,p4⟩:∃JX:Nat->(Nat->Prop)->World->Prop,JX=fun _ _ W'=>∃(r:RS) (T:TU),Jx r T W'/\W'.heap[l2]? =some (.loop (rc .done (some .ret)))/\W'.heap[D]? =some (.deferred (some []))∧¬T.all l2∧¬T.all D:=⟨_,rfl⟩
 have r9:=hI p4;clear p4;refine(Sw (m-1) l2 W0.heap.size (W0.heap.size+1) (W0.heap.size+1+1) (by omega) l a A n c ws 0 JJ JX (fun k=>T0.all k\/(W.heap.size+1<=k/\k<=W.heap.size+1+1+1)\/k=l2\/(0<n∧∃ad,A=some ad/\ad.block=k)) W1 ?hlt ?hst ?hrd ?hskip ?hy ?h0 (cell_of_one k31) (by omega) (by omega) (by omega) hk).mono ?_
 case hlt=>
  intro s T' W' hx k hk;rw[d4.out]at hx;obtain⟨r,T,An,nn,cn,rfl,h1,h2,h3,h4,b7,h5,h6,h7,h8,h9,b1,b4,a3,a7,b0,b5,d5⟩:=hx;rcases hk with hk|hk|rfl|⟨hk,ad,rfl,d6⟩
  ·exact HU.out.hlt _ _ _ h5 k hk
  ·have:=lt_of_block h9;omega
  ·exact lt_of_block a7
  ·obtain⟨b,off,hb,hlt,_⟩:=(a3.word (HU.out.hrd _ _ _ h5).2.2.2.2.2.1).2.2.2.2 hk;injection hb with hb
   subst hb;exact d6▸hlt
 case hst=>
  intro s T' W' W'' hx f2;rw[d4.out]at hx ⊢;obtain⟨r,T,An,nn,cn,rfl,h1,h2,h3,h4,b7,h5,h6,h7,h8,h9,b1,b4,a3,a7,b0,b5,d5⟩:=hx;have ho:∀k,k<W1.heap.size->W''.heap[k]? =W'.heap[k]? :=fun k hk=>f2.block k (by omega) (fun h=>by omega)
  refine⟨r,T,An,nn,cn,rfl,h1,h2,h3,h4,b7,HU.out.hst _ _ _ _ h5 (f2.mono (fun k hk=>⟨by have:=a8.size;omega,fun h=>hk.2 (.inl h)⟩)),(ho _ (by omega)).trans h6,(ho _ (by omega)).trans h7,(ho _ (by omega)).trans h8,(ho _ (by omega)).trans h9,
   (ho _ (by omega)).trans b1,(ho _ (by omega)).trans b4, ?_,(ho _ a9).trans a7,(ho _ (by omega)).trans b0,b5,Nat.le_trans d5 f2.size⟩
  rcases a3 with a3|⟨a3,hb⟩
  ·exact .inl a3
  ·exact .inr ⟨a3.keep f2 (fun hn ad a0 h=>h.2 (.inr (.inr (.inr ⟨hn,ad,a0,rfl⟩)))),fun hn ad a0=>⟨(hb hn ad a0).1,(hb hn ad a0).2.1,Nat.lt_of_lt_of_le (hb hn ad a0).2.2 f2.size⟩⟩
 case hrd=>
  intro s T' W' hx;rw[d4.out]at hx;obtain⟨r,T,An,nn,cn,rfl,h1,h2,h3,h4,b7,h5,h6,h7,h8,h9,b1,b4,a3,a7,b0,b5,d5⟩:=hx;obtain⟨q1,q2,q3,q4,q5,q6,q7⟩:=HU.out.hrd _ _ _ h5;exact⟨b1,b4,q5,q6,q7⟩
 case hskip=>
  intro s T' W' q1 q2 q3 hx;rw[d4.out]at hx ⊢;obtain⟨r,T,An,nn,cn,rfl,h1,h2,h3,h4,b7,h5,h6,h7,h8,h9,b1,b4,a3,a7,b0,b5,d5⟩:=hx;have a4:E7 l ws r=false:=by unfold E7;rw[HM.out,h1,i9.out];simp;omega
  have hst:C6 l ws r=(none,{r with at_:=r.at_+1}):=by unfold C6;rw[HM.out,h1];simp[q3]
  exact⟨{r with at_:=r.at_+1},T,An,nn,cn,rfl,by show r.at_+1=_;rw[h1];omega,h2,h3,h4,b7,HU.out.hskip _ _ _ _ a4 hst h5,h6,h7,h8,h9,b1,b4,a3,a7,b0,b5,d5⟩
 case h0=>
  rw[d4.out];have j2:Ca l ws=⟨0,0,0,ws⟩:=by unfold Ca;rw[if_neg (by rw[HM.out];decide)]
  refine⟨Ca l ws,T0,A,n,c,rfl, ?_,hn, ?_, ?_, ?_,J1,g51,g61, ?_, ?_,k11,k21, .inl ⟨rfl,rfl,rfl, ?_⟩,hl1,hD1,fun k h1 _ h=>by have:=t0 _ h;omega,rr⟩
  all_goals rw[j2]
  ·rfl
  ·simp
  ·simp
  ·simp
  ·exact g71
  ·exact g81
 case hy=>
  intro s T' W' _ q2 q3 hx;rw[d4.out]at hx;obtain⟨r,T,An,nn,cn,rfl,h1,h2,h3,h4,b7,h5,h6,h7,h8,h9,b1,b4,a3,a7,b0,b5,d5⟩:=hx;have a4:E7 l ws r=false:=by unfold E7;rw[HM.out,h1,i9.out];simp;omega
  have b9:=hI a4;clear a4;refine Fm t8.out a7 rfl ?_;have j9:=hI h1;clear h1;have m1:=hI h3;clear h3;have v7:=hI h5;clear h5;have v5:=hI h6;clear h6;have t4:=hI h7;clear h7;have t3:=hI h8;clear h8;have y5:=hI h9;clear h9;have m8:=hI b1;clear b1;have j5:=hI b4;clear b4;have k4:=hI a3;clear a3;have f5:=hI a7;clear a7;have m2:=hI b0;clear b0;have a2:=hI b5;clear b5;have v2:=hI q3;clear q3;gi_wp2;refine⟨f5.out, ?_⟩;have v8:=a8.size;have o2:∀k,k≠l2->(W'.putObj l2 (.loop (rc .busy none))).heap[k]? =W'.heap[k]? :=fun k hk=>World.putObj_heap_other hk
  have p13:(W'.putObj l2 (.loop (rc .busy none))).heap[l2]? =some (.loop (rc .busy none)):=World.putObj_heap_same (lt_of_block f5.out);have pK:Ba (fun k=>k=l2) W' (W'.putObj l2 (.loop (rc .busy none))):=(Ba.refl (fun k=>k=l2) W').putObj rfl _;have p5:J r T (W'.putObj l2 (.loop (rc .busy none))):=HU.out.hst _ _ _ _ v7.out (pK.mono (fun k hk=>by subst hk;exact⟨by omega,a2.out _ (by omega) a9⟩));have p6:=(o2 _ (by omega)).trans v5.out;have p7:=(o2 _ (by omega)).trans t4.out;have p8:=(o2 _ (by omega)).trans t3.out;have p9:=(o2 _ (by omega)).trans y5.out;have p10:=(o2 _ (by omega)).trans m8.out;have p11:=(o2 _ (by omega)).trans j5.out;have p14:=(o2 D (by omega)).trans m2.out
  have p12:Nh D A n c ws T.w (W'.putObj l2 (.loop (rc .busy none))) An nn cn r.now:=by
   rcases k4.out with h|⟨h,hb⟩
   ·exact .inl h
   ·have v3:=i2.out.1;exact .inr ⟨h.keep pK (fun hn ad a0=>by have:=(hb hn ad a0).1;omega),fun hn ad a0=>⟨(hb hn ad a0).1,(hb hn ad a0).2.1,Nat.lt_of_lt_of_le (hb hn ad a0).2.2 pK.size⟩⟩
  have p16:W'.heap.size<=(W'.putObj l2 (.loop (rc .busy none))).heap.size:=pK.size;generalize W'.putObj l2 (.loop (rc .busy none))=V at*;obtain⟨u1,u2,u3,u4,u5,u6,u7⟩:=HU.out.hrd _ _ _ p5;have e7:=cell_of_one p7;have f7:=free_of_one p7;have e8:=cell_of_one p8;have f8:=free_of_one p8;have e9:=cell_of_one p9;have f9:=free_of_one p9;have k7:=cell_of_one u2;have o4:=cell_of_one u3;have t9:=cell_of_one u4;have P5:=hI p5;clear p5;have P6:=hI p6;clear p6;have P7:=hI p7;clear p7;have P8:=hI p8;clear p8;have P9:=hI p9;clear p9;have P10:=hI p10;clear p10;have P11:=hI p11;clear p11;have P12:=hI p12;clear p12;have P13:=hI p13;clear p13;have P14:=hI p14;clear p14;have PK:=hI pK;clear pK o2;have U1:=hI u1;have U5:=hI u5;have U6:=hI u6;have U7:=hI u7;clear u1 u2 u3 u4 u5 u6 u7
  have s0:Hid (∀(X:World) (r':RS) (T4:TU) (A2:Option Addr) (n2 c2:Nat),r'.at_=((s+1:Nat):Int)->n2<=32->(n2:Int)=n+r'.shift->0<=r'.next+r'.shift->r'.next<=5000->J r' T4 X→
    X.heap[W.heap.size]? =some (.cells #[.func (.yield lr) #[] #[]] 216 (0,0))->X.heap[W.heap.size+1]? =some (.cells #[.slice A2 n2 c2] 28 (0,0))→
    X.heap[W.heap.size+1+1]? =some (.cells #[.int .i64 r'.next] 3 (0,0))->X.heap[W.heap.size+1+1+1]? =some (.cells #[.int .i64 r'.shift] 3 (0,0))→
    X.heap[W0.heap.size]? =some (.cells (Bw l a) 55 (0,0))->X.heap[W0.heap.size+1]? =some (.cells #[.slice A n c] 28 (0,0))->Nh D A n c ws T4.w X A2 n2 c2 r'.now→
    X.heap[l2]? =some (.loop (rc .busy none))->X.heap[D]? =some (.deferred (some []))->Ba (fun k=>T.all k\/(W.heap.size+1<=k/\k<=W.heap.size+1+1+1)\/k=l2\/(0<nn∧∃ad,An=some ad/\ad.block=k)) W' X->(∀k,T4.all k->T.all k\/W'.heap.size<=k)→
    (0<n2→∀ad,A2=some ad->(0<nn/\An=some ad)\/W'.heap.size<=ad.block)→
    ∃T'',JJ (s+1) T'' (X.putObj l2 (.loop (rc .ready none)))/\Ba (fun k=>T.all k\/(W.heap.size+1<=k/\k<=W.heap.size+1+1+1)\/k=l2\/(0<nn∧∃ad,An=some ad/\ad.block=k)) W' (X.putObj l2 (.loop (rc .ready none)))∧∀k,T'' k->(fun k=>T.all k\/(W.heap.size+1<=k/\k<=W.heap.size+1+1+1)\/k=l2\/(0<nn∧∃ad,An=some ad/\ad.block=k)) k\/W'.heap.size<=k):=by
   intro X r' T4 A2 n2 c2 x1 x2 x3 x4 x5 x6 x7 x8 x9 x10 x11 x12 x13 x14 x15 x16 x17 x18;have o2:∀k,k≠l2->(X.putObj l2 (.loop (rc .ready none))).heap[k]? =X.heap[k]? :=fun k hk=>World.putObj_heap_other hk
   have qK:Ba (fun k=>k=l2) X (X.putObj l2 (.loop (rc .ready none))):=(Ba.refl (fun k=>k=l2) X).putObj rfl _;have s1:∀k,W.heap.size<=k->k<W1.heap.size→¬T4.all k:=fun k hk1 d6 h=>(x17 k h).elim (a2.out k hk1 d6) (fun h3=>by omega)
   refine⟨fun k=>T4.all k\/(W.heap.size+1<=k/\k<=W.heap.size+1+1+1)\/k=l2\/(0<n2∧∃ad,A2=some ad/\ad.block=k), ?_,x16.putObj (by simp) _, ?_⟩
   rotate_left
   ·rintro k (h|h|h|⟨y7,ad,a0,d6⟩)
    ·exact(x17 k h).elim (fun h=> .inl (.inl h)) .inr
    ·exact .inl (.inr (.inl h))
    ·exact .inl (.inr (.inr (.inl h)))
    ·rcases x18 y7 ad a0 with⟨h1,h2⟩|h1
     ·exact .inl (.inr (.inr (.inr ⟨h1,ad,h2,d6⟩)))
     ·exact .inr (by omega)
   ·rw[d4.out]
    refine⟨r',T4,A2,n2,c2,rfl,x1,x2,x3,x4,x5,HU.out.hst _ _ _ _ x6 (qK.mono (fun k hk=>by subst hk;exact⟨by omega,s1 _ (by omega) a9⟩)),(o2 _ (by omega)).trans x7,(o2 _ (by omega)).trans x8,(o2 _ (by omega)).trans x9,(o2 _ (by omega)).trans x10,
     (o2 _ (by omega)).trans x11,(o2 _ (by omega)).trans x12, ?_,World.putObj_heap_same (lt_of_block x14),(o2 D (by omega)).trans x15,s1,by have:=x16.size;have:=qK.size;omega⟩
    rcases x13 with h|⟨h,hb⟩
    ·exact .inl h
    ·have v3:=i2.out.1;exact .inr ⟨h.keep qK (fun hn ad a0=>by have:=(hb hn ad a0).1;omega),fun hn ad a0=>⟨(hb hn ad a0).1,(hb hn ad a0).2.1,Nat.lt_of_lt_of_le (hb hn ad a0).2.2 qK.size⟩⟩
  by_cases hnx:(s:Int)<r.next
  ·have hst:C6 l ws r=(none,{r with at_:=r.at_+1}):=by unfold C6;rw[HM.out,j9.out];simp[hnx]
   have o5:=hI hst;clear hst;gi_wp2;refine⟨P13.out, .inl ⟨rfl, ?_⟩⟩
   exact s0.out V {r with at_:=r.at_+1} T An nn cn (by show r.at_+1=_;rw[j9.out];omega) h2 m1.out h4 b7 (HU.out.hskip _ _ _ _ b9.out o5.out P5.out) P6.out P7.out P8.out P9.out P10.out P11.out P12.out P13.out P14.out
    (PK.out.mono (fun k hk=> .inr (.inr (.inl hk)))) (fun k hk=> .inl hk) (fun hn ad a0=> .inl ⟨hn,a0⟩)
  ·have k0:decide ((s:Int)<r.next)=false:=by simpa using hnx
   have j6:r.next<=(s:Int):=by omega
   gi_wp2;have j8:0<=(s:Int)+r.shift:=by omega
   have g2:nn<=cn:=(P12.out.word U6.out).2.1;have g3:cn<=9223372036854775807:=by have:=(P12.out.word U6.out).2.2.1;unfold maxLen at this;omega
   have q0:n<=c:=U6.out.2.1;have i7:c<=9223372036854775807:=by have:=U6.out.2.2.1;unfold maxLen at this;omega
   obtain⟨e,he⟩:∃e:Nat,(e:Int)=(s:Int)+r.shift:=⟨((s:Int)+r.shift).toNat,by omega⟩;have m0:(s:Int)+r.shift=(e:Int):=he.symm;have y2:e<=nn:=by have:=m1.out;omega
   have m5:=hI m0;have v6:(e:Int)<=(cn:Int):=by omega
   clear he j8;have r0:=lt_of_block P7.out;have y1:=lt_of_block P9.out
   have k8:Hid (∀X:World,Below V.heap.size V X->X.heap[bl]? =some (.cells (Bw l a) 55 (0,0))/\X.cell? ⟨W.heap.size+1,0,none⟩=some (.slice An nn cn)/\X.cell? ⟨W.heap.size+1+1+1,0,none⟩=some (.int .i64 r.shift)∧
     X.cell? ⟨bw,0,none⟩=some (.slice A n c)/\X.cell? ⟨bk,0,none⟩=some (.int .i64 l.ifs.length)):=fun X hb=>
    ⟨(hb.block _ (lt_of_block U1.out)).trans U1.out,(hb.cell (p:=⟨W.heap.size+1,0,none⟩) r0).trans e7,(hb.cell (p:=⟨W.heap.size+1+1+1,0,none⟩) y1).trans e9,(hb.cell (p:=⟨bw,0,none⟩) (show bw<V.heap.size by omega)).trans k7,(hb.cell (p:=⟨bk,0,none⟩) (show bk<V.heap.size by omega)).trans o4⟩
   refine Jh (fun W''=>W''.heap[bl]? =some (.cells (Bw l a) 55 (0,0))/\W''.cell? ⟨W.heap.size+1,0,none⟩=some (.slice An nn cn)/\W''.cell? ⟨W.heap.size+1+1+1,0,none⟩=some (.int .i64 r.shift)∧
    W''.cell? ⟨bw,0,none⟩=some (.slice A n c)/\W''.cell? ⟨bk,0,none⟩=some (.int .i64 l.ifs.length)) (by kernel_rfl) (by kernel_rfl) (fun _ _ h=>by exact h) ⟨U1.out,e7,e9,k7,o4⟩ (fun hHeld=> ?_)
   have j3:IntKind.i64.wrap ((s:Int)+r.shift)=(e:Int):=by rw[m0];exact IntWalk.i64_in _ (by omega)
   have m4:IntKind.i64.wrap (e:Int)=(e:Int):=IntWalk.i64_in _ (by omega);have u8:IntKind.i64.wrap ((s:Int)+(l.ifs.length:Int))=(s:Int)+(l.ifs.length:Int):=IntWalk.i64_in _ (by omega);have j1:(s:Int)<=(s:Int)+(l.ifs.length:Int):=by omega
   have o3:(s:Int)+(l.ifs.length:Int)<=(c:Int):=by omega
   have t7:((s:Int)+(l.ifs.length:Int)).toNat=s+l.ifs.length:=by omega
   have y0:(0:Int)<=(s:Int)+(l.ifs.length:Int):=by omega
   have t6:(s:Int)+(l.ifs.length:Int)<=(n:Int):=by omega
   have t2:(0:Int)<=(e:Int):=by omega
   have y6:(s:Int)<=(c:Int):=by omega
   clear h4 b7 hnx k0
   (refine' Ae 0 rfl ?_;(try simp only[Act.put,nY,nX]));(refine' Ae 1 rfl ?_;(try simp only[Act.put,nY,nX]));(refine' Ae 2 rfl ?_;(try simp only[Act.put,nY,nX]));(refine' Ae 3 rfl ?_;(try simp only[Act.put,nY,nX]));(refine' Ae 4 rfl ?_;(try simp only[Act.put,nY,nX]))
   (refine' Ch (i:=5) (v:=Eg l a) rfl (by kernel_rfl) (by kernel_rfl) (by kernel_rfl) (by kernel_rfl) (fun _ _ _ h=>h) (Lh (by rfl) (.tmp 2) rfl (bl) l a (by rfl) (fun w' hSw=>by(try dsimp only at hSw);first|exact hSw|exact hSw.1)) (by assumption) ?_;(try simp only[Act.put,nY,nX]))
   (refine' Ae 6 rfl ?_;(try simp only[Act.put,nY,nX]));(refine' Ae 7 rfl ?_;(try simp only[Act.put,nY,nX]));(refine' Ae 8 rfl ?_;(try simp only[Act.put,nY,nX]));(refine' Ae 9 rfl ?_;(try simp only[Act.put,nY,nX]));(refine' Ae 10 rfl ?_;(try simp only[Act.put,nY,nX]));(refine' Ae 11 rfl ?_;(try simp only[Act.put,nY,nX]));(refine' Ae 13 rfl ?_;(try simp only[Act.put,nY,nX]));(refine' Ae 14 rfl ?_;(try simp only[Act.put,nY,nX]));(refine' Ae 15 rfl ?_;(try simp only[Act.put,nY,nX]));(refine' Ae 16 rfl ?_;(try simp only[Act.put,nY,nX]));(refine' Ae 17 rfl ?_;(try simp only[Act.put,nY,nX]))
   (refine Anv 12 rfl (fun K' hK'=> ?_);simp only[nY];go_simp)
   have i5:Below V.heap.size V V.drew:=(Below.refl _ V).drew;have a6:=P12.out.word U6.out;have hcut:Ak V.drew (if c=s then A else A.map (·.add (s*2))) l.ifs.length (c-s) ((ws.drop s).take l.ifs.length):=Ak.take ((U6.out.below i5 rr).drop (by omega)) (by omega);refine(Aln l a _ _ _ _ (U5.out.below i5 rr) hcut HF.out ho).mono ?_;rintro e2 w2 ⟨A2,n2,c2,rfl,o6,p1,_⟩;have o9:Below V.heap.size V w2:=i5.trans p1;have f6:=hI o9;clear o9 p1;have s7:=hI o6;clear o6 hcut;refine hK' _ _ ⟨.inr (k8.out _ f6.out),fun _=> ?_⟩
   clear hK' K' hHeld
   (try simp only[Act.put,nY,nX])
   (refine Anv 18 rfl (fun K' hK'=> ?_);simp only[nY];go_simp)
   have f3:Below V.heap.size V (w2.alloc (.cells #[.slice An e cn, .slice A2 n2 c2, .slice (if c=s+l.ifs.length then A else A.map (·.add ((s+l.ifs.length)*2))) (n-(s+l.ifs.length)) (c-(s+l.ifs.length))] 28)):=f6.out.alloc f6.out.size _;refine hK' _ _ ⟨.inr (k8.out _ f3),fun _=> ?_⟩
   clear hK' K'
   (try simp only[Act.put,nY,nX])
   (refine Anv 19 rfl (fun K' hK'=> ?_);simp only[nY];go_simp)
   have b2:(Hb l ((ws.drop s).take l.ifs.length)).length=l.outs.length:=by simp[Hb]
   refine(Rx (some ⟨w2.heap.size,0,none⟩) 3 3 [(An,e,cn,r.now.take e),(A2,n2,c2,Hb l ((ws.drop s).take l.ifs.length)),(if c=s+l.ifs.length then A else A.map (·.add ((s+l.ifs.length)*2)),n-(s+l.ifs.length),c-(s+l.ifs.length),ws.drop (s+l.ifs.length))] _ ?hc ?hp ?hb).mono ?_
   case hc=>exact⟨rfl,rr,by unfold maxLen;omega,(fun h=>by cases h),fun _=>⟨w2.heap.size,0,rfl,by simp,fun j v hv=>by rw[Nat.zero_add];exact B8 (by simpa[Part.val]using hv)⟩⟩
   case hp=>
    intro p hp;simp only[List.mem_cons,List.not_mem_nil,or_false]at hp;rcases hp with rfl|rfl|rfl
    ·exact Ak.take (a6.below f3 rr) (show e<=nn by omega)
    ·exact s7.out.below ((Below.refl w2.heap.size w2).alloc rr _) rr
    ·exact Ak.drop (U6.out.below f3 rr) q2
   case hb=>
    have i4:=U6.out.len;have y4:=a6.len;simp only[Ka,List.flatMap_cons,List.flatMap_nil,List.append_nil,Part.word,List.length_append,List.length_take,List.length_drop,b2];omega
   rintro e4 w4 ⟨A4,n4,c4,rfl,g4,s3,f4⟩;have j7:Below V.heap.size V w4:=f3.trans (s3.mono (by have:=f6.out.size;simp;omega));have i3:∀ad,A4=some ad->V.heap.size<=ad.block:=fun ad a0=>by have:=f4 ad a0;have:=f6.out.size;simp only[World.size_alloc]at*;omega
   refine hK' _ _ ⟨.inr (k8.out _ j7),fun _=> ?_⟩
   clear hK' K' f4 s3 f3;have m3:=hI j7;clear j7;have p74:=(m3.out.block _ r0).trans P7.out;have v9:=cell_of_one p74;have f74:=free_of_one p74
   (try simp only[Act.put,nY,nX])
   generalize(if c=s then A else A.map (·.add (s*2)))=A5;generalize(if c=s+l.ifs.length then A else A.map (·.add ((s+l.ifs.length)*2)))=A6
   (refine Anv 20 rfl (fun K' hK'=> ?_);simp only[nY];go_simp)
   refine hK' _ _ ⟨.inl (by kernel_rfl),fun _=>Bf (by kernel_rfl) ?_ _⟩
   clear hK' K';clear v9 f74 g3 g2 i7 v6 j3 m4 j1 o3 t7 y0 t6 t2 y6 u8 i5 m0 e7 f7 e8 f8 e9 f9 k7 o4 t9;obtain⟨now',a5⟩:∃now',now'=r.now.take e++Hb l ((ws.drop s).take l.ifs.length)++ws.drop (s+l.ifs.length):=⟨_,rfl⟩
   have g1:Ka [(An,e,cn,r.now.take e),(A2,n2,c2,Hb l ((ws.drop s).take l.ifs.length)),(if c=s+l.ifs.length then A else A.map (·.add ((s+l.ifs.length)*2)),n-(s+l.ifs.length),c-(s+l.ifs.length),ws.drop (s+l.ifs.length))]=now':=by
    rw[a5,List.append_assoc];simp[Ka,Part.word]
   rw[g1]at g4
   have r8:(n4:Int)=n+(r.shift+l.outs.length-l.ifs.length):=by
    have h:=g4.len;have i4:=U6.out.len;have y4:=a6.len;rw[a5]at h;simp only[List.length_append,List.length_take,List.length_drop,b2]at h
    have:=m5.out
    omega
   have hst:C6 l ws r=(some ((s:Int),now'),⟨(s:Int)+1,(s:Int)+max (l.ifs.length:Int) 1,r.shift+l.outs.length-l.ifs.length,now'⟩):=by
    unfold C6;rw[HM.out,j9.out];simp[v2.out,j6,m5.out,a5]
   have o5:=hI hst;clear hst g1 a5;have o7:Ba (fun k=>W.heap.size<=k∧¬T.all k) V (w4.setCell ⟨W.heap.size+1,0,none⟩ (.slice A4 n4 c4)):=(Br m3.out).setCell (p:=⟨W.heap.size+1,0,none⟩) ⟨by simp,a2.out (W.heap.size+1) (by omega) (by omega)⟩ _;have y8:=hI (HU.out.hst _ _ _ _ P5.out o7);have a1:Ba (fun k=>k=W.heap.size+1) V (w4.setCell ⟨W.heap.size+1,0,none⟩ (.slice A4 n4 c4)):=(Br (S:=fun k=>k=W.heap.size+1) m3.out).setCell (p:=⟨W.heap.size+1,0,none⟩) rfl _;have q9:=hI a1;have k5:Ak (w4.setCell ⟨W.heap.size+1,0,none⟩ (.slice A4 n4 c4)) A4 n4 c4 now':=g4.keep (S:=fun k=>k=W.heap.size+1) ((Ba.refl (fun k=>k=W.heap.size+1) _).setCell (p:=⟨W.heap.size+1,0,none⟩) rfl _) (fun _ ad a0 h=>by have:=i3 ad a0;omega);have m6:=hI k5;have P75:=hI (one_setCell (u:= .slice A4 n4 c4) p74);have P65:=hI ((a1.block _ (lt_of_block P6.out) (by omega)).trans P6.out);have P85:=hI ((a1.block _ (lt_of_block P8.out) (by omega)).trans P8.out);have P95:=hI ((a1.block _ (lt_of_block P9.out) (by omega)).trans P9.out);have P105:=hI ((a1.block _ (lt_of_block P10.out) (by omega)).trans P10.out);have P115:=hI ((a1.block _ (lt_of_block P11.out) (by omega)).trans P11.out);have P135:=hI ((a1.block _ (lt_of_block P13.out) (by omega)).trans P13.out);have P145:=hI ((a1.block D (lt_of_block P14.out) (by omega)).trans P14.out);have t5:=hI r8;have i1:=hI i3;obtain⟨fn',tmps',assign',body',s6,hR⟩:=Kz (m':=m-1-1-1) (HU.out.hy r T _ _ _ _ A4 n4 c4 b9.out o5.out k5 (fun ad a0=>by have h1:=i3 ad a0;exact⟨by omega,fun h=>by have:=HU.out.hlt _ _ _ P5.out _ h;omega⟩) y8.out);have HR:=hI hR;clear hR;clear g4 k5 o7 a1 r8 i3 a6 b2 p74 y2;generalize(w4.setCell ⟨W.heap.size+1,0,none⟩ (.slice A4 n4 c4))=w5 at*;have y9:=cell_of_one P65.out;have v0:=cell_of_one P75.out;gi_wp2;refine⟨fun _=>by omega, ?_⟩
   refine RoundIn.mono (F:=Fence.wide.inRound l2) (by exact HR.out) ?_;rintro e6 W6 (⟨rfl,f0,T6,j0,b6,g0,p3⟩|⟨rfl,hx,j4⟩)
   ·obtain⟨q1,q2,q3,q4,q5,q6,q7⟩:=HU.out.hrd _ _ _ j0;have x0:=cell_of_one q3;have s9:=cell_of_one q4;have d7:∀k,W.heap.size<=k->k<W1.heap.size→¬T.all k:=a2.out;have b8:∀k,W.heap.size<=k->k<W1.heap.size→¬T.w k:=fun k h1 h2 h=>d7 k h1 h2 (.inl h)
    have s5:=q9.out.size;have g66:=hI ((b6.block _ (lt_of_block P65.out) (b8 _ (by omega) (by omega))).trans P65.out);have g76:=hI ((b6.block _ (lt_of_block P75.out) (b8 _ (by omega) (by omega))).trans P75.out);have g86:=(b6.block _ (lt_of_block P85.out) (b8 _ (by omega) (by omega))).trans P85.out;have g96:=(b6.block _ (lt_of_block P95.out) (b8 _ (by omega) (by omega))).trans P95.out;have g106:=hI ((b6.block _ (lt_of_block P105.out) (b8 _ (by omega) (by omega))).trans P105.out);have g116:=hI ((b6.block _ (lt_of_block P115.out) (b8 _ (by omega) (by omega))).trans P115.out);have g136:=hI ((b6.block _ (lt_of_block P135.out) (b8 _ (by omega) (by omega))).trans P135.out);have g146:=hI ((b6.block D (lt_of_block P145.out) (b8 _ (by omega) (by omega))).trans P145.out);have z5:=cell_of_one g86;have f86:=free_of_one g86;have v4:=cell_of_one g96;have f96:=free_of_one g96;have G86:=hI g86;have G96:=hI g96;have u9:=hI j0;have o1:=hI b6;have s4:=hI p3;have k6:=hI g0;have s8:=hI d7;have k9:=hI f0;have u0:=lt_of_block q3;have y3:=lt_of_block q4;clear q1 q2 q3 q4 q5 q6 q7 g86 g96 j0 b6 p3 g0 b8 d7 f0 y9 v0 s6;gi_wp2;have z9: -100<=r.shift/\r.shift<=100:=by have:=m1.out;omega
    have j3:IntKind.i64.wrap (r.shift+(l.outs.length:Int))=r.shift+(l.outs.length:Int):=IntWalk.i64_in _ (by omega);have j1:IntKind.i64.wrap (r.shift+(l.outs.length:Int)-(l.ifs.length:Int))=r.shift+(l.outs.length:Int)-(l.ifs.length:Int):=IntWalk.i64_in _ (by omega);have o3:IntKind.i64.wrap ((s:Int)+max (l.ifs.length:Int) 1)=(s:Int)+max (l.ifs.length:Int) 1:=IntWalk.i64_in _ (by omega);refine Jh (fun X=>X.cell? ⟨bk,0,none⟩=some (.int .i64 l.ifs.length)/\X.cell? ⟨bm,0,none⟩=some (.int .i64 l.outs.length)/\X.cell? ⟨W.heap.size+1+1+1,0,none⟩=some (.int .i64 r.shift)) (by kernel_rfl) (by kernel_rfl) (fun _ _ h=>by exact h) ⟨x0,s9,v4⟩ (fun hHeld=> ?_)
    (refine' Ae 0 rfl ?_;(try simp only[Act.put,nY,nX]));(refine' Ae 1 rfl ?_;(try simp only[Act.put,nY,nX]));(refine' Ae 2 rfl ?_;(try simp only[Act.put,nY,nX]));(refine' Ae 3 rfl ?_;(try simp only[Act.put,nY,nX]));(refine' Ae 4 rfl ?_;(try simp only[Act.put,nY,nX]));(refine' Ae 5 rfl ?_;(try simp only[Act.put,nY,nX]));(refine' Ae 6 rfl ?_;(try simp only[Act.put,nY,nX]));(refine' Ae 7 rfl ?_;(try simp only[Act.put,nY,nX]));(refine' Ae 8 rfl ?_;(try simp only[Act.put,nY,nX]))
    (refine Anv 9 rfl (fun K' hK'=> ?_);simp only[nY];go_simp)
    refine hK' _ _ ⟨.inr ⟨(B5 (by omega)).trans hHeld.1,(B5 (by omega)).trans hHeld.2.1,(B5 (by omega)).trans hHeld.2.2⟩,fun _=> ?_⟩
    clear hK' K'
    (try simp only[Act.put,nY,nX])
    (refine Anv 10 rfl (fun K' hK'=> ?_);simp only[nY];go_simp)
    refine hK' _ _ ⟨.inl (by kernel_rfl),fun _=>Bf (by kernel_rfl) ?_ _⟩
    clear hK' K' j3 j1 o3;simp only[Exit.inBlock];have d9:∀k,W.heap.size<=k->k<W1.heap.size→¬T6.all k:=fun k hk1 d6 h=>(s4.out k h).elim (s8.out k hk1 d6) (fun h3=>h3.elim (fun h3=>by omega) (fun⟨hn,ad,a0,hb⟩=>by have:=i1.out ad a0;have:=lt_of_block P13.out;have:=i2.out.2;omega))
    have xK:∀S:Nat->Prop,S (W.heap.size+1+1)->S (W.heap.size+1+1+1)->Ba S W6 ((W6.setCell ⟨W.heap.size+1+1,0,none⟩ (.int .i64 ((s:Int)+max (l.ifs.length:Int) 1))).setCell ⟨W.heap.size+1+1+1,0,none⟩ (.int .i64 (r.shift+l.outs.length-l.ifs.length))):=fun S q8 hs2=>((Ba.refl S W6).setCell (p:=⟨W.heap.size+1+1,0,none⟩) q8 _).setCell (p:=⟨W.heap.size+1+1+1,0,none⟩) hs2 _
    have xo:∀k,k≠W.heap.size+1+1->k≠W.heap.size+1+1+1->((W6.setCell ⟨W.heap.size+1+1,0,none⟩ (.int .i64 ((s:Int)+max (l.ifs.length:Int) 1))).setCell ⟨W.heap.size+1+1+1,0,none⟩ (.int .i64 (r.shift+l.outs.length-l.ifs.length))).heap[k]? =W6.heap[k]? :=fun k h1 h2=>(Below.heap_setCell _ _ _ _ h2).trans (Below.heap_setCell _ _ _ _ h1)
    have x8:((W6.setCell ⟨W.heap.size+1+1,0,none⟩ (.int .i64 ((s:Int)+max (l.ifs.length:Int) 1))).setCell ⟨W.heap.size+1+1+1,0,none⟩ (.int .i64 (r.shift+l.outs.length-l.ifs.length))).heap[W.heap.size+1+1]? =some (.cells #[.int .i64 ((s:Int)+max (l.ifs.length:Int) 1)] 3 (0,0)):=(Below.heap_setCell _ _ _ _ (by simp)).trans (one_setCell G86.out);have x9:((W6.setCell ⟨W.heap.size+1+1,0,none⟩ (.int .i64 ((s:Int)+max (l.ifs.length:Int) 1))).setCell ⟨W.heap.size+1+1+1,0,none⟩ (.int .i64 (r.shift+l.outs.length-l.ifs.length))).heap[W.heap.size+1+1+1]? =some (.cells #[.int .i64 (r.shift+l.outs.length-l.ifs.length)] 3 (0,0)):=one_setCell ((Below.heap_setCell _ _ _ _ (by simp)).trans G96.out);have xJ:J ⟨(s:Int)+1,(s:Int)+max (l.ifs.length:Int) 1,r.shift+l.outs.length-l.ifs.length,now'⟩ T6 ((W6.setCell ⟨W.heap.size+1+1,0,none⟩ (.int .i64 ((s:Int)+max (l.ifs.length:Int) 1))).setCell ⟨W.heap.size+1+1+1,0,none⟩ (.int .i64 (r.shift+l.outs.length-l.ifs.length))).drew:=HU.out.hst _ _ _ _ u9.out (xK _ ⟨by omega,d9 _ (by omega) (by omega)⟩ ⟨by omega,d9 _ (by omega) (by omega)⟩).drew;have i8:=HU.out.hlt _ _ _ P5.out
    have d8:0<n4→∀ad,A4=some ad->D+1<ad.block∧¬T.w ad.block/\ad.block<w5.heap.size:=by
     intro hn ad a0;obtain⟨b,off,hb,hlt,_⟩:=m6.out.2.2.2.2 hn;have h1:=i1.out ad a0;have h2:=lt_of_block P13.out;have h3:=i2.out.1;rw[a0]at hb;injection hb with hb
     subst hb;exact⟨by omega,fun h=>by have:=i8 _ (.inl h);omega,hlt⟩
    have z1:=o1.out.size;have xw:Ak ((W6.setCell ⟨W.heap.size+1+1,0,none⟩ (.int .i64 ((s:Int)+max (l.ifs.length:Int) 1))).setCell ⟨W.heap.size+1+1+1,0,none⟩ (.int .i64 (r.shift+l.outs.length-l.ifs.length))).drew A4 n4 c4 now':=(m6.out.keep o1.out (fun hn ad a0=>(d8 hn ad a0).2.1)).keep (xK (fun k=>k=W.heap.size+1+1\/k=W.heap.size+1+1+1) (.inl rfl) (.inr rfl)).drew (fun hn ad a0 h=>by have:=(d8 hn ad a0).1;omega);have xKK:Ba (fun k=>T.all k\/(W.heap.size+1<=k/\k<=W.heap.size+1+1+1)\/k=l2\/(0<nn∧∃ad,An=some ad/\ad.block=k)) W' ((W6.setCell ⟨W.heap.size+1+1,0,none⟩ (.int .i64 ((s:Int)+max (l.ifs.length:Int) 1))).setCell ⟨W.heap.size+1+1+1,0,none⟩ (.int .i64 (r.shift+l.outs.length-l.ifs.length))).drew:=((((PK.out.mono (fun k hk=> .inr (.inr (.inl hk)))).trans (q9.out.mono (fun k hk=> .inr (.inl (by omega))))).trans (o1.out.mono (fun k hk=> .inl (.inl hk)))).trans (xK _ (.inr (.inl (by omega))) (.inr (.inl (by omega))))).drew;have hsz:((W6.setCell ⟨W.heap.size+1+1,0,none⟩ (.int .i64 ((s:Int)+max (l.ifs.length:Int) 1))).setCell ⟨W.heap.size+1+1+1,0,none⟩ (.int .i64 (r.shift+l.outs.length-l.ifs.length))).drew.heap.size=W6.heap.size:=by simp
    refine⟨(xo _ (by omega) (by omega)).trans g136.out, .inl ⟨rfl, ?_⟩⟩
    exact s0.out ((W6.setCell ⟨W.heap.size+1+1,0,none⟩ (.int .i64 ((s:Int)+max (l.ifs.length:Int) 1))).setCell ⟨W.heap.size+1+1+1,0,none⟩ (.int .i64 (r.shift+l.outs.length-l.ifs.length))).drew ⟨(s:Int)+1,(s:Int)+max (l.ifs.length:Int) 1,r.shift+l.outs.length-l.ifs.length,now'⟩ T6 A4 n4 c4 (by simp) (by have h:=m6.out.len;have:=k9.out;omega) (by have:=t5.out;simp only[];omega) (by have:=m5.out;show 0<=((s:Int)+max (l.ifs.length:Int) 1)+(r.shift+l.outs.length-l.ifs.length);omega) (by show(s:Int)+max (l.ifs.length:Int) 1<=5000;omega) xJ
     ((xo _ (by omega) (by omega)).trans g66.out) ((xo _ (by omega) (by omega)).trans g76.out) x8 x9 ((xo _ (by omega) (by omega)).trans g106.out) ((xo _ (by omega) (by omega)).trans g116.out)
     (.inr ⟨xw,fun hn ad a0=>⟨(d8 hn ad a0).1,fun h=>(k6.out _ h).elim (d8 hn ad a0).2.1 (fun h2=>by have:=(d8 hn ad a0).2.2;omega),by have:=(d8 hn ad a0).2.2;omega⟩⟩)
     ((xo _ (by omega) (by omega)).trans g136.out) ((xo D (by omega) (by omega)).trans g146.out) xKK (fun k hk=>(s4.out k hk).elim .inl (fun h=>h.elim (fun h=> .inr (by omega)) (fun⟨hn,ad,a0,hb⟩=> .inr (by have:=i1.out ad a0;omega)))) (fun hn ad a0=> .inr (by have:=i1.out ad a0;omega))
   ·have g136:=hI ((j4.block _ (lt_of_block P135.out) (fun h=>a2.out _ (by omega) (by omega) (.inl h))).trans P135.out);have g146:=hI ((j4.block D (lt_of_block P145.out) (fun h=>a2.out _ (by omega) (by omega) (.inl h))).trans P145.out);have HX:=hI hx;clear hx j4;gi_wp2;refine⟨g136.out, .inr ⟨rfl, ?_⟩⟩;rw[r9.out];refine⟨r,T,HU.out.hsx _ _ _ _ HX.out ((Ba.refl (fun k=>k=l2) W6).putObj rfl _ |>.mono (fun k hk=>by subst hk;exact⟨by omega,a2.out _ (by omega) a9⟩)),World.putObj_heap_same (lt_of_block g136.out),(World.putObj_heap_other (by omega)).trans g146.out,a2.out _ (by omega) a9,a2.out _ (by omega) (by omega)⟩
 ·rintro e W' ⟨⟨v,rfl⟩,⟨s,T',_,q2,hx⟩|⟨s,T',hx⟩⟩
  ·rw[d4.out]at hx;obtain⟨r,T,An,nn,cn,rfl,h1,h2,h3,h4,b7,h5,h6,h7,h8,h9,b1,b4,a3,a7,b0,b5,d5⟩:=hx;refine .inl ⟨a7, ?_⟩;have a4:E7 l ws r=true:=by unfold E7;rw[HM.out,h1,i9.out];simp;omega
   have b9:=hI a4;clear a4;have xJ:=HU.out.hst _ _ _ _ h5 (((Ba.refl (fun k=>k=l2) W').putObj rfl (.loop (rc .exhausted none))).mono (fun k hk=>by subst hk;exact⟨by have:=a8.size;omega,b5 _ (by have:=a8.size;omega) a9⟩));have xD:=(World.putObj_heap_other (r:=l2) (o:= .loop (rc .exhausted none)) (w:=W') (show D≠l2 by omega)).trans b0;generalize W'.putObj l2 (.loop (rc .exhausted none))=X at*;have XJ:=hI xJ;clear xJ h1 h3 h5 h6 h7 h8 h9 b1 b4 a3 a7 b0;have XD:=hI xD;clear xD;gi_wp2;have hM:D4 W.heap.size X [Le D]:=⟨D,rfl,by omega,XD.out,by simp,trivial⟩;refine Agl (B:=W.heap.size) hM fun w' hw'=>⟨_,results_none rfl _ _ _,⟨_,rfl⟩, .inl ⟨r,b9.out,T,HU.out.hst _ _ _ _ XJ.out (Py hw' (HU.out.hnd _ _ _ XJ.out))⟩⟩
  ·rw[r9.out]at hx;obtain⟨r,T,hX,hL,p2,i8,z4⟩:=hx;refine .inr ⟨.ret,hL, ?_⟩;have xJ:=HU.out.hsx _ _ _ _ hX (((Ba.refl (fun k=>k=l2) W').putObj rfl (.loop (rc .exhausted (some .ret)))).mono (fun k hk=>by subst hk;exact⟨by have:=a8.size;omega,i8⟩));have xD:=(World.putObj_heap_other (r:=l2) (o:= .loop (rc .exhausted (some .ret))) (w:=W') (show D≠l2 by omega)).trans p2;generalize W'.putObj l2 (.loop (rc .exhausted (some .ret)))=X at*;have XJ:=hI xJ;clear xJ hX hL p2;have XD:=hI xD;clear xD;gi_wp2;have hM:D4 W.heap.size X [Le D]:=⟨D,rfl,by omega,XD.out,by simp,trivial⟩;refine Gx (B:=W.heap.size) hM fun w' hw'=>⟨_,results_none rfl _ _ _,⟨_,rfl⟩, .inr ⟨r,T,HU.out.hsx _ _ _ _ XJ.out (Py hw' (HU.out.hnx _ _ _ XJ.out))⟩⟩
end Go.Proofs.YtaglfmlgbcmakaaGreatDoor
namespace Go.Proofs.YtaglfmlgbcmakaaGreatDoor
open Go.RowKit Go.Shelf
theorem Qw {l:Bi}(h:Cc l=0):l.ifs.length<=4/\l.outs.length<=6/\(l.mode=1\/l.mode=2\/l.mode=3)∧∀x∈l.outs,Ei x l.ifs.length=true:=by
 have hb:Dh l=false:=by
  unfold Cc at h;cases hb:Dh l
  ·rfl
  ·rw[hb,if_pos rfl]at h;exact absurd h (by decide)
 unfold Dh at hb;simp only[Bool.or_eq_false_iff,decide_eq_false_iff_not]at hb;obtain⟨⟨⟨⟨⟨⟨⟨⟨⟨_,_⟩,_⟩,h1⟩,h2⟩,_⟩,h3⟩,h4⟩,_⟩,h5⟩:=hb;refine⟨by omega,by omega,by omega,fun x hx=> ?_⟩
 have:=List.any_eq_false.1 h5 x hx
 simpa using this
theorem Amy (m lr bw bl bk bm:Nat)(hm:3<=m)(l:Bi)(a:Dq)(A:Option Addr)(n c:Nat)(ws:List Snd)(W:World)(J Jx:RS->TU->World->Prop)(T0:TU)
  (H:Tp lr bw bl bk bm l a A n c ws W.heap.size J Jx) (h0:J (Ca l ws) T0 W) (hv:Cc l=0) (hn:n<=32):
  CallsIn Fence.wide m Tryz.prog 204 #[.func (.yield lr) #[] #[], .pointer (some ⟨bw,0,none⟩), .pointer (some ⟨bl,0,none⟩), .pointer (some ⟨bk,0,none⟩), .pointer (some ⟨bm,0,none⟩)] W fun e W'=>
   (∃v,e= .returned v)/\((∃r T,E7 l ws r=true/\J r T W')∨∃r T,Jx r T W'):=by
 obtain⟨h1,h2,h3,h4⟩:=Qw hv;rcases h3 with h3|h3|h3
 ·exact Aiv m lr bw bl bk bm hm l a A n c ws W J Jx T0 H h0 h3 hn h4 (by omega) (by omega)
 ·exact Acf m lr bw bl bk bm (by omega) l a A n c ws W J Jx T0 H h0 h3 hn h4 (by omega) (by omega)
 ·exact Aez m lr bw bl bk bm (by omega) l a A n c ws W J Jx T0 H h0 h3 hn h4 (by omega) (by omega)
def E0 (l:Bi)(ws:List Snd):Nat->RS->List (Int×List Snd)×Bool
 |0,_=>([],false)
 |f+1,r=>
  if E7 l ws r then([],false)
  else match C6 l ws r with
   |(none,r')=>E0 l ws f r'
   |(some (p,now),r')=>if 32<now.length then([],true)else((p,now)::(E0 l ws f r').1,(E0 l ws f r').2)
def Co (l:Bi)(ws:List Snd):Int×List (Int×List Snd):=
 if B7 l ws≠0 then(B7 l ws,[])else if(E0 l ws 80 (Ca l ws)).2 then(11,[])else(0,(E0 l ws 80 (Ca l ws)).1)
def B3 (l:Bi)(ws:List Snd):Int×List Snd:=
 if(Co l ws).1≠0 then((Co l ws).1,[])else(0,match(Co l ws).2.getLast? with|some x=>x.2|none=>ws)
def Nj (l:Bi)(ws:List Snd)(r:RS):Nat:=
 if l.mode=1 then(ws.length+1-r.at_).toNat else if l.mode=2 then(r.now.length+1-r.at_).toNat else(r.at_+1).toNat
theorem Aae (l:Bi)(cut:List Snd):(Hb l cut).length=l.outs.length:=by simp[Hb]
theorem Mo {l:Bi}{ws:List Snd}{at_:Nat}(h:Ez l ws at_=true):at_+l.ifs.length<=ws.length:=by
 unfold Ez at h;simp only[Bool.and_eq_true,decide_eq_true_eq]at h;exact h.1.1
theorem Lr {l:Bi}{ws:List Snd}{at_:Nat}(h:Ez l ws at_=true):(Bb l ws at_).length+l.ifs.length=ws.length+l.outs.length:=by
 have:=Mo h
 simp only[Bb,List.length_append,List.length_take,List.length_drop,Aae];omega
def RS.ok (r:RS)(l:Bi):Prop:=l.mode=3\/0<=r.at_
theorem Q1 {l:Bi}{ws:List Snd}{r:RS}(hm:l.mode=1\/l.mode=2\/l.mode=3)(hok:r.ok l)(hf:E7 l ws r=false):(C6 l ws r).2.ok l/\Nj l ws (C6 l ws r).2<Nj l ws r:=by
 rcases hm with h|h|h
 ·have h2:l.mode≠2:=by rw[h];decide
  have h3:l.mode≠3:=by rw[h];decide
  have a0:0<=r.at_:=hok.resolve_left h3;unfold E7 at hf;rw[if_pos h]at hf;have a1:=of_decide_eq_false hf;have e:(C6 l ws r).2.at_=r.at_+1:=by unfold C6;rw[if_pos h];split<;>rfl
  unfold RS.ok Nj;rw[if_pos h,if_pos h,e];exact⟨.inr (by omega),by omega⟩
 ·have h1:l.mode≠1:=by rw[h];decide
  have h3:l.mode≠3:=by rw[h];decide
  have a0:0<=r.at_:=hok.resolve_left h3;unfold E7 at hf;rw[if_neg h1,if_pos h]at hf;have a1:=of_decide_eq_false hf;unfold C6;rw[if_neg h1,if_pos h];by_cases hh:Ez l r.now r.at_.toNat=true
  ·rw[if_pos hh];have hl:=Lr hh;unfold RS.ok Nj;rw[if_neg h1,if_neg h1,if_pos h,if_pos h];dsimp only;refine⟨.inr (by split<;>omega), ?_⟩;split<;>omega
  ·rw[if_neg hh];unfold RS.ok Nj;rw[if_neg h1,if_neg h1,if_pos h,if_pos h];dsimp only;exact⟨.inr (by omega),by omega⟩
 ·have h1:l.mode≠1:=by rw[h];decide
  have h2:l.mode≠2:=by rw[h];decide
  unfold E7 at hf;rw[if_neg h1,if_neg h2,if_pos h]at hf;have a1:=of_decide_eq_false hf;unfold C6;rw[if_neg h1,if_neg h2];unfold RS.ok Nj;rw[if_neg h1,if_neg h1,if_neg h2,if_neg h2];refine⟨.inl h, ?_⟩;split<;>dsimp only<;>omega
theorem Tu (l:Bi)(ws:List Snd)(hw:ws.length<=32):(Ca l ws).ok l/\Nj l ws (Ca l ws)<=80:=by
 unfold Ca RS.ok Nj;by_cases h3:l.mode=3
 ·have h1:l.mode≠1:=by rw[h3];decide
  have h2:l.mode≠2:=by rw[h3];decide
  rw[if_pos h3,if_neg h1,if_neg h2];dsimp only;exact⟨.inl h3,by omega⟩
 ·rw[if_neg h3];dsimp only;refine⟨.inr (by omega), ?_⟩;split
  ·omega
  ·split<;>omega
def Cy (l:Bi)(ws:List Snd)(r:RS)(done:List (Int×List Snd)):Prop:=
 r.ok l∧∃f,Nj l ws r<=f/\E0 l ws 80 (Ca l ws)=(done++(E0 l ws f r).1,(E0 l ws f r).2)
theorem Cy.start (l:Bi)(ws:List Snd)(hw:ws.length<=32):Cy l ws (Ca l ws) []:=⟨(Tu l ws hw).1,80,(Tu l ws hw).2,by simp⟩
theorem Cy.fin {l:Bi}{ws:List Snd}{r:RS}{done:List (Int×List Snd)}(h:Cy l ws r done)(hf:E7 l ws r=true):E0 l ws 80 (Ca l ws)=(done,false):=by
 obtain⟨_,f,_,h⟩:=h
 have:E0 l ws f r=([],false):=by cases f with
  |zero=>rfl
  |succ f=>unfold E0;rw[if_pos hf]
 rw[h,this];simp
theorem Tv {l:Bi}{ws:List Snd}{r:RS}(hm:l.mode=1\/l.mode=2\/l.mode=3)(hok:r.ok l)(hf:E7 l ws r=false):0<Nj l ws r:=by
 have:=(Q1 hm hok hf).2;omega
theorem Cy.skip {l:Bi}{ws:List Snd}{r r':RS}{done:List (Int×List Snd)}(hm:l.mode=1\/l.mode=2\/l.mode=3)(h:Cy l ws r done)(hf:E7 l ws r=false)(hs:C6 l ws r=(none,r')):Cy l ws r' done:=by
 obtain⟨a0,f,a1,h⟩:=h;have h1:=Tv hm a0 hf;have h2:=Q1 hm a0 hf;rw[hs]at h2
 cases f with
 |zero=>omega
 |succ f=>
  refine⟨h2.1,f,by have:=h2.2;dsimp only at this;omega, ?_⟩;rw[h]
  have:E0 l ws (f+1) r=E0 l ws f r':=by rw[E0,if_neg (by rw[hf];decide),hs]
  rw[this]
theorem Cy.step {l:Bi}{ws:List Snd}{r r':RS}{done:List (Int×List Snd)}{p:Int}{now:List Snd}(hm:l.mode=1\/l.mode=2\/l.mode=3)(h:Cy l ws r done)(hf:E7 l ws r=false)
  (hs:C6 l ws r=(some (p,now),r')) (hn:now.length<=32):Cy l ws r' (done++[(p,now)]):=by
 obtain⟨a0,f,a1,h⟩:=h;have h1:=Tv hm a0 hf;have h2:=Q1 hm a0 hf;rw[hs]at h2
 cases f with
 |zero=>omega
 |succ f=>
  refine⟨h2.1,f,by have:=h2.2;dsimp only at this;omega, ?_⟩;rw[h]
  have:E0 l ws (f+1) r=((p,now)::(E0 l ws f r').1,(E0 l ws f r').2):=by rw[E0,if_neg (by rw[hf];decide),hs];dsimp only;rw[if_neg (by omega)]
  rw[this];simp
theorem Cy.long {l:Bi}{ws:List Snd}{r r':RS}{done:List (Int×List Snd)}{p:Int}{now:List Snd}(hm:l.mode=1\/l.mode=2\/l.mode=3)(h:Cy l ws r done)(hf:E7 l ws r=false)
  (hs:C6 l ws r=(some (p,now),r')) (hn:32<now.length):(E0 l ws 80 (Ca l ws)).2=true:=by
 obtain⟨a0,f,a1,h⟩:=h;have h1:=Tv hm a0 hf
 cases f with
 |zero=>omega
 |succ f=>
  rw[h]
  have:E0 l ws (f+1) r=([],true):=by rw[E0,if_neg (by rw[hf];decide),hs];dsimp only;rw[if_pos hn]
  rw[this]
theorem K6 (l:Bi)(ws:List Snd):∀(f:Nat) (r:RS),(E0 l ws f r).1.length<=f
 |0,_=>rr
 |f+1,r=>by
  rw[E0];split
  ·simp
  ·split
   ·exact Nat.le_trans (K6 l ws f _) (by omega)
   ·split
    ·simp
    ·have:=K6 l ws f (by assumption);simp;exact K6 l ws f _
end Go.Proofs.YtaglfmlgbcmakaaGreatDoor
namespace Go.Proofs.YtaglfmlgbcmakaaGreatDoor
open Go.RowKit Go.Shelf
attribute [local go_sem] Oper.semAt_some
theorem J8 {fn:Func}{p q r:Tmp}(h:fn.results= #[.cell p 36, .cell q 34, .cell r 30])(tmps:Array Value)(w:World)(b1 b2 b3:Nat)(A1 A2:Option Addr)(n1 c1 n2 c2:Nat)(x:Int)
  (hp:tmps.getD p undef= .pointer (some ⟨b1,0,none⟩)) (hq:tmps.getD q undef= .pointer (some ⟨b2,0,none⟩)) (hr:tmps.getD r undef= .pointer (some ⟨b3,0,none⟩))
  (h1:w.cell? ⟨b1,0,none⟩=some (.slice A1 n1 c1)) (h2:w.cell? ⟨b2,0,none⟩=some (.slice A2 n2 c2)) (h3:w.cell? ⟨b3,0,none⟩=some (.int .i64 x)):
  (results fn tmps).run Tryz.prog w= .ok (.tuple #[.slice A1 n1 c1, .slice A2 n2 c2, .int .i64 x]) w:=by
 have a0:tmps[p]?.getD undef= .pointer (some ⟨b1,0,none⟩):=by simpa using hp
 have a1:tmps[q]?.getD undef= .pointer (some ⟨b2,0,none⟩):=by simpa using hq
 have a2:tmps[r]?.getD undef= .pointer (some ⟨b3,0,none⟩):=by simpa using hr
 simp[results,h,a0,a1,a2,asAddr,loadVar,go_sem,h1,h2,h3]
theorem Bj {w w':World}{base:Nat}{e:TypeId}{sz n:Nat}{v:Value}{xs:List Value}(h:w.ownsRow base e sz v n xs)(hb:∀k,v.ownBlock=some k->w'.heap[k]? =w.heap[k]?):w'.ownsRow base e sz v n xs:=by
 refine⟨h.1, ?_⟩;rcases h.2 with hn|⟨g,cap,cur,rfl,h1,hg,rest⟩
 ·exact Or.inl hn
 ·exact Or.inr ⟨g,cap,cur,rfl,h1,(hb g rfl).trans hg,rest⟩
structure TR (B b8 b9:Nat)(V:World)(v8 v9 vp vw:Value)(np nw:Nat)(xs ys:List Value)(X:World):Prop where
 c8:X.heap[b8]? =some (.cells #[v8] 36 (0,0))
 c9:X.heap[b9]? =some (.cells #[v9] 34 (0,0))
 o8:X.ownsRow B 3 1 vp np xs
 o9:X.ownsRow B 28 1 vw nw ys
 ne:∀k,vp.ownBlock=some k->vw.ownBlock≠some k
 kp:Ba (fun k=>v8.ownBlock=some k\/v9.ownBlock=some k) V X
 n8:∀k,vp.ownBlock=some k->v8.ownBlock=some k\/V.heap.size<=k
 n9:∀k,vw.ownBlock=some k->v9.ownBlock=some k\/V.heap.size<=k
section tr
variable {B b8 b9:Nat}{V:World}{v8 v9 vp vw:Value}{np nw:Nat}{xs ys:List Value}{X:World}
theorem TR.alloc (h:TR B b8 b9 V v8 v9 vp vw np nw xs ys X)(o:Obj):TR B b8 b9 V v8 v9 vp vw np nw xs ys (X.alloc o):=
 ⟨(Bc (lt_of_block h.c8)).trans h.c8,(Bc (lt_of_block h.c9)).trans h.c9,h.o8.alloc _,h.o9.alloc _,h.ne,h.kp.alloc _,h.n8,h.n9⟩
theorem TR.drew (h:TR B b8 b9 V v8 v9 vp vw np nw xs ys X):TR B b8 b9 V v8 v9 vp vw np nw xs ys X.drew:=
 ⟨h.c8,h.c9,Bj h.o8 (fun _ _=>rfl),Bj h.o9 (fun _ _=>rfl),h.ne,h.kp.drew,h.n8,h.n9⟩
theorem TR.push8 (h:TR B b8 b9 V v8 v9 vp vw np nw xs ys X){X':World}{vp':Value}{n':Nat}{xs':List Value}(hb8:b8<B)(hb9:b9<B)(ho:X'.ownsRow B 3 1 vp' n' xs')(hg:X.grownBy X' vp.ownBlock)
  (a2:vp'.ownBlock=vp.ownBlock\/vp'.ownBlock=some X.heap.size):TR B b8 b9 V v8 v9 vp' vw n' nw xs' ys X':=by
 have a0:∀k,some k=vp.ownBlock->B<=k:=fun k hk=>(h.o8.lt k hk.symm).1
 refine⟨(hg.block _ (lt_of_block h.c8) (fun e=>by have:=a0 _ e;omega)).trans h.c8,(hg.block _ (lt_of_block h.c9) (fun e=>by have:=a0 _ e;omega)).trans h.c9,ho,
  Bj h.o9 (fun k hk=>hg.block k (h.o9.lt k hk).2 (fun e=>h.ne k e.symm hk)), ?_,h.kp.grown hg (fun k hk=> ?_), ?_,h.n9⟩
 ·intro k hk a1;rcases a2 with e|e
  ·exact h.ne k (e▸hk) a1
  ·rw[e]at hk;injection hk with hk
   have:=(h.o9.lt k a1).2
   omega
 ·rcases h.n8 k hk with e|e
  ·exact .inl (.inl e)
  ·exact .inr e
 ·intro k hk;rcases a2 with e|e
  ·exact h.n8 k (e▸hk)
  ·rw[e]at hk;injection hk with hk
   have:=h.kp.size
   exact .inr (by omega)
theorem TR.push9 (h:TR B b8 b9 V v8 v9 vp vw np nw xs ys X){X':World}{vw':Value}{n':Nat}{ys':List Value}(hb8:b8<B)(hb9:b9<B)(ho:X'.ownsRow B 28 1 vw' n' ys')(hg:X.grownBy X' vw.ownBlock)
  (a2:vw'.ownBlock=vw.ownBlock\/vw'.ownBlock=some X.heap.size):TR B b8 b9 V v8 v9 vp vw' np n' xs ys' X':=by
 have a0:∀k,some k=vw.ownBlock->B<=k:=fun k hk=>(h.o9.lt k hk.symm).1
 refine⟨(hg.block _ (lt_of_block h.c8) (fun e=>by have:=a0 _ e;omega)).trans h.c8,(hg.block _ (lt_of_block h.c9) (fun e=>by have:=a0 _ e;omega)).trans h.c9,
  Bj h.o8 (fun k hk=>hg.block k (h.o8.lt k hk).2 (fun e=>h.ne k hk e.symm)),ho, ?_,h.kp.grown hg (fun k hk=> ?_),h.n8, ?_⟩
 ·intro k hk a1;rcases a2 with e|e
  ·exact h.ne k hk (e▸a1)
  ·rw[e]at a1;injection a1 with a1
   have:=(h.o8.lt k hk).2
   omega
 ·rcases h.n9 k hk with e|e
  ·exact .inl (.inr e)
  ·exact .inr e
 ·intro k hk;rcases a2 with e|e
  ·exact h.n9 k (e▸hk)
  ·rw[e]at hk;injection hk with hk
   have:=h.kp.size
   exact .inr (by omega)
end tr
theorem Ls:(Tryz.prog.info? 28).map (fun i=>(i.zero,i.size,i.bytes))=some (some (.slice none 0 0),1,24):=by kernel_rfl
theorem Aaf {P:Program}{ops:Array Oper}{Q:Exit->Act->World->Prop}{md:Region.Mode}{S:World->Prop}{i j m:Nat}{oi oj:Oper}{fuel:Nat}{listed:Array Bool}{a:Act}{w:World}(hr:Region.ready md ops listed=[i,j])(hi:ops[i]? =some oi)(hj:ops[j]? =some oj)
  (h1:∀K':Act->World->Prop,(∀a w,(Ns m (listed.setIfInBounds i true)=true\/S w)/\((Ns m (listed.setIfInBounds i true)=true\/S w)->Mj P md ops Q S m fuel (listed.setIfInBounds i true) a w)->K' a w)→
   if Region.wanted oi (yielded ops a.tmps)=true then Oper.wp P oi a w K' Q else K' (a.put oi.dst undef) w)
  (h2:∀K':Act->World->Prop,(∀a w,(Ns m (listed.setIfInBounds j true)=true\/S w)/\((Ns m (listed.setIfInBounds j true)=true\/S w)->Mj P md ops Q S m fuel (listed.setIfInBounds j true) a w)->K' a w)→
   if Region.wanted oj (yielded ops a.tmps)=true then Oper.wp P oj a w K' Q else K' (a.put oj.dst undef) w):Mj P md ops Q S m (fuel+1) listed a w:=by
 refine⟨fun h0=>(by rw[hr]at h0;cases h0),fun k hk=> ?_⟩
 rw[hr]at hk;have hk:k=i\/k=j:=by simpa using hk
 rcases hk with rfl|rfl
 ·have h3:=h1 _ (fun a w h=>(⟨h.1,h.2 h.1⟩:(Ns m (listed.setIfInBounds k true)=true\/S w)/\Mj P md ops Q S m fuel (listed.setIfInBounds k true) a w))
  unfold wpOp;rw[hi];simp only;split
  ·rename_i hw;rw[if_pos hw]at h3;exact .inl h3
  ·rename_i hw;rw[if_neg hw]at h3;exact h3
 ·have h3:=h2 _ (fun a w h=>(⟨h.1,h.2 h.1⟩:(Ns m (listed.setIfInBounds k true)=true\/S w)/\Mj P md ops Q S m fuel (listed.setIfInBounds k true) a w))
  unfold wpOp;rw[hj];simp only;split
  ·rename_i hw;rw[if_pos hw]at h3;exact .inl h3
  ·rename_i hw;rw[if_neg hw]at h3;exact h3
def Bs (w:World)(A:Option Addr)(n c:Nat)(xss:List (List Snd)):Prop:=
 ∃ps:List Part,ps.map Part.word=xss/\Az w A n c 1 (ps.map Part.val)/\Hu w ps
def G9 (d:List (Int×List Snd)):List Value:=d.map fun x=> .int .i64 x.1
theorem Xq (d:List (Int×List Snd))(x:Int×List Snd):G9 (d++[x])=G9 d++[.int .i64 x.1]:=by simp[G9]
structure TS (B b4 b5 b6 b8 b9 lr:Nat)(rc:LoopState->Option Code->Loop)(W1:World)(vp vw:Value)(done:List (Int×List Snd))(ps:List Part)(T:TU)(st:LoopState)(W:World):Prop where
 tw:T.w=fun k=>k=b4\/k=b5\/k=b6\/k=b8\/k=b9\/k=lr\/vp.ownBlock=some k\/vw.ownBlock=some k
 tu:T.u=fun k=>∃p∈ps,0<p.2.1∧∃ad,p.1=some ad/\ad.block=k
 lt:b4<B/\b5<B/\b6<B/\b8<B/\b9<B/\lr<B
 ds:b4≠b5/\b4≠b6/\b5≠b6/\b8≠b9/\b4≠b8/\b4≠b9/\b5≠b8/\b5≠b9/\b6≠b8/\b6≠b9/\lr≠b4/\lr≠b5/\lr≠b6/\lr≠b8/\lr≠b9
 c4:W.heap[b4]? =some (.cells #[.slice none 0 0] 36 (0,0))
 c5:W.heap[b5]? =some (.cells #[.slice none 0 0] 34 (0,0))
 c6:W.heap[b6]? =some (.cells #[.int .i64 0] 30 (0,0))
 c8:W.heap[b8]? =some (.cells #[vp] 36 (0,0))
 c9:W.heap[b9]? =some (.cells #[vw] 34 (0,0))
 o8:W.ownsRow B 3 1 vp done.length (G9 done)
 o9:W.ownsRow B 28 1 vw done.length (ps.map Part.val)
 ne:∀k,vp.ownBlock=some k->vw.ownBlock≠some k
 pw:ps.map Part.word=done.map (·.2)
 pp:Hu W ps
 pd:∀p∈ps,∀ad,p.1=some ad->B<=ad.block/\(0<p.2.1→¬T.w ad.block)
 kp:Ba (fun k=>k=b4\/k=b5\/k=b6\/k=b8\/k=b9\/k=lr) W1 W
 bb:W1.heap.size=B
 lp:W.heap[lr]? =some (.loop (rc st none))
section ts
variable {B b4 b5 b6 b8 b9 lr:Nat}{rc:LoopState->Option Code->Loop}{W1:World}{vp vw:Value}{done:List (Int×List Snd)}{ps:List Part}{T:TU}{st:LoopState}{W W':World}
theorem TS.lts (h:TS B b4 b5 b6 b8 b9 lr rc W1 vp vw done ps T st W):∀k,T.all k->k<W.heap.size:=by
 intro k hk;rcases hk with hk|hk
 ·rw[h.tw]at hk;rcases hk with rfl|rfl|rfl|rfl|rfl|rfl|hk|hk
  ·exact lt_of_block h.c4
  ·exact lt_of_block h.c5
  ·exact lt_of_block h.c6
  ·exact lt_of_block h.c8
  ·exact lt_of_block h.c9
  ·exact lt_of_block h.lp
  ·exact(h.o8.lt k hk).2
  ·exact(h.o9.lt k hk).2
 ·rw[h.tu]at hk;obtain⟨p,hp,hn,ad,a1,rfl⟩:=hk;obtain⟨b,off,hb,a0,_⟩:=(h.pp p hp).2.2.2.2 hn;rw[a1]at hb;injection hb with hb
  rw[hb];exact a0
theorem V9 {w:World}{base:Nat}{e:TypeId}{sz n:Nat}{v:Value}{xs:List Value}(h:w.ownsRow base e sz v n xs){k:Nat}(hk:v.ownBlock=some k):∃cur:Array Value,w.heap[k]? =some (.cells cur e (0,0)):=by
 rcases h.2 with⟨rfl,_⟩|⟨g,cap,cur,rfl,_,hg,_⟩
 ·cases hk
 ·injection hk with hk;subst hk;exact⟨cur,hg⟩
theorem Ach {w:World}{A:Option Addr}{n c:Nat}{xs:List Snd}(h:Ak w A n c xs)(hn:0<n){ad:Addr}(had:A=some ad):∃v,w.cell? ⟨ad.block,ad.off,none⟩=some v:=by
 obtain⟨b,off,p,m,hA,_,_,hc,_⟩:=h.at_ hn;rw[had]at hA;injection hA with hA
 subst hA;simp only[Nat.zero_mul,Nat.add_zero]at hc;exact⟨_,hc⟩
theorem TS.nds (h:TS B b4 b5 b6 b8 b9 lr rc W1 vp vw done ps T st W):∀k,T.all k→∀x,W.heap[k]? ≠some (.deferred x):=by
 intro k hk x hx;rcases hk with hk|hk
 ·rw[h.tw]at hk;rcases hk with rfl|rfl|rfl|rfl|rfl|rfl|hk|hk
  ·rw[h.c4]at hx;cases hx
  ·rw[h.c5]at hx;cases hx
  ·rw[h.c6]at hx;cases hx
  ·rw[h.c8]at hx;cases hx
  ·rw[h.c9]at hx;cases hx
  ·rw[h.lp]at hx;cases hx
  ·obtain⟨cur,hc⟩:=V9 h.o8 hk;rw[hc]at hx;cases hx
  ·obtain⟨cur,hc⟩:=V9 h.o9 hk;rw[hc]at hx;cases hx
 ·rw[h.tu]at hk;obtain⟨p,hp,hn,ad,a0,rfl⟩:=hk;obtain⟨v,hv⟩:=Ach (h.pp p hp) hn a0;simp[World.cell?,hx]at hv
theorem TS.keep (h:TS B b4 b5 b6 b8 b9 lr rc W1 vp vw done ps T st W)(hk:Ba (fun k=>B<=k∧¬T.all k) W W'):TS B b4 b5 b6 b8 b9 lr rc W1 vp vw done ps T st W':=by
 obtain⟨l4,l5,l6,l8,l9,ll⟩:=h.lt;have a1:∀k,T.all k->W'.heap[k]? =W.heap[k]? :=fun k hT=>hk.block k (h.lts k hT) (fun hn=>hn.2 hT)
 have hw:∀k,T.w k->W'.heap[k]? =W.heap[k]? :=fun k hT=>a1 k (.inl hT)
 have a0:=h.tw;refine⟨h.tw,h.tu,h.lt,h.ds, ?_, ?_, ?_, ?_, ?_,Bj h.o8 fun k e=> ?_,Bj h.o9 fun k e=> ?_,h.ne,h.pw,fun p hp=>(h.pp p hp).keep (S:=fun k=>B<=k∧¬T.all k) hk fun hn ad had hS=>hS.2 (.inr ?_),h.pd, ?_,h.bb, ?_⟩
 ·exact(hw _ (by rw[a0];simp)).trans h.c4
 ·exact(hw _ (by rw[a0];simp)).trans h.c5
 ·exact(hw _ (by rw[a0];simp)).trans h.c6
 ·exact(hw _ (by rw[a0];simp)).trans h.c8
 ·exact(hw _ (by rw[a0];simp)).trans h.c9
 ·exact hw _ (by rw[a0];simp[e])
 ·exact hw _ (by rw[a0];simp[e])
 ·rw[h.tu];exact⟨p,hp,hn,ad,had,rfl⟩
 ·exact((h.kp.mono (S':=fun k=>(k=b4\/k=b5\/k=b6\/k=b8\/k=b9\/k=lr)\/(B<=k∧¬T.all k)) (fun _ e=> .inl e)).trans (hk.mono fun _ e=> .inr e)).old fun k hlt e=>e.resolve_right fun e=>by have:=h.bb;omega
 ·exact(hw _ (by rw[a0];simp)).trans h.lp
theorem TS.put (h:TS B b4 b5 b6 b8 b9 lr rc W1 vp vw done ps T st W)(st':LoopState):TS B b4 b5 b6 b8 b9 lr rc W1 vp vw done ps T st' (W.putObj lr (.loop (rc st' none))):=by
 obtain⟨l4,l5,l6,l8,l9,ll⟩:=h.lt;obtain⟨_,_,_,_,_,_,_,_,_,_,d4,d5,d6,d8,d9⟩:=h.ds;have ho:∀k,k≠lr->(W.putObj lr (.loop (rc st' none))).heap[k]? =W.heap[k]? :=fun k hk=>World.putObj_heap_other hk
 refine⟨h.tw,h.tu,h.lt,h.ds,(ho _ d4.symm).trans h.c4,(ho _ d5.symm).trans h.c5,(ho _ d6.symm).trans h.c6,(ho _ d8.symm).trans h.c8,(ho _ d9.symm).trans h.c9,Bj h.o8 fun k e=>ho _ ?_,Bj h.o9 fun k e=>ho _ ?_,h.ne,h.pw,
  fun p hp=>(h.pp p hp).keep (S:=fun k=>k=lr) ((Ba.refl (fun k=>k=lr) W).putObj rfl _) fun hn ad had e=>(h.pd p hp ad had).2 hn (by rw[h.tw];simp[e]),h.pd,h.kp.putObj (by simp) _,h.bb,World.putObj_heap_same (lt_of_block h.lp)⟩
 ·have:=(h.o8.lt k e).1;omega
 ·have:=(h.o9.lt k e).1;omega
theorem TS.tr (h:TS B b4 b5 b6 b8 b9 lr rc W1 vp vw done ps T st W):TR B b8 b9 W vp vw vp vw done.length done.length (G9 done) (ps.map Part.val) W:=
 ⟨h.c8,h.c9,h.o8,h.o9,h.ne,Ba.refl _ _,fun _ h=> .inl h,fun _ h=> .inl h⟩
theorem TS.push (h:TS B b4 b5 b6 b8 b9 lr rc W1 vp vw done ps T st W){p:Int}{now:List Snd}{A':Option Addr}{n' c':Nat}{vp' vw':Value}{X:World}(hwd:Ak W A' n' c' now)(hfr:∀ad,A'=some ad->B<=ad.block∧¬T.all ad.block)
  (ht:TR B b8 b9 W vp vw vp' vw' (done.length+1) (done.length+1) (G9 done++[.int .i64 p]) (ps.map Part.val++[.slice A' n' c']) X):
  ∃T',TS B b4 b5 b6 b8 b9 lr rc W1 vp' vw' (done++[(p,now)]) (ps++[(A',n',c',now)]) T' st ((X.setCell ⟨b8,0,none⟩ vp').setCell ⟨b9,0,none⟩ vw')/\Ba T.w W ((X.setCell ⟨b8,0,none⟩ vp').setCell ⟨b9,0,none⟩ vw')∧
   (∀k,T'.w k->T.w k\/W.heap.size<=k)∧∀k,T'.all k->T.all k\/W.heap.size<=k\/(0<n'∧∃ad,A'=some ad/\ad.block=k):=by
 obtain⟨l4,l5,l6,l8,l9,ll⟩:=h.lt;obtain⟨d0,d3,d1,a7,b1,b0,a8,a9,b3,b2,d4,d5,d6,d8,d9⟩:=h.ds;have b7:=h.kp.size;have d2:=h.bb;have a2:=h.tw
 -- what is not written
 have hK:Ba T.w W ((X.setCell ⟨b8,0,none⟩ vp').setCell ⟨b9,0,none⟩ vw'):=((ht.kp.mono (S':=T.w) (fun k e=>by rw[a2];rcases e with e|e<;>simp[e])).setCell (p:=⟨b8,0,none⟩) (by rw[a2];simp) _).setCell (p:=⟨b9,0,none⟩) (by rw[a2];simp) _;have d7:Ba (fun k=>k=b8\/k=b9) X ((X.setCell ⟨b8,0,none⟩ vp').setCell ⟨b9,0,none⟩ vw'):=((Ba.refl (fun k=>k=b8\/k=b9) X).setCell (p:=⟨b8,0,none⟩) (.inl rfl) _).setCell (p:=⟨b9,0,none⟩) (.inr rfl) _
 have hX:∀k,k≠b8->k≠b9->((X.setCell ⟨b8,0,none⟩ vp').setCell ⟨b9,0,none⟩ vw').heap[k]? =X.heap[k]? :=fun k h1 h2=>
  (Below.heap_setCell _ _ _ _ (by simpa using h2)).trans (Below.heap_setCell _ _ _ _ (by simpa using h1))
 have a1:∀k,k<B->k≠b8->k≠b9->((X.setCell ⟨b8,0,none⟩ vp').setCell ⟨b9,0,none⟩ vw').heap[k]? =W.heap[k]? :=fun k hk h1 h2=>
  (hX k h1 h2).trans (ht.kp.block k (by omega) (fun e=>by rcases e with e|e;have:=(h.o8.lt k e).1;omega;have:=(h.o9.lt k e).1;omega))
 have a5:∀k,(k=b4\/k=b5\/k=b6\/k=b8\/k=b9\/k=lr\/vp'.ownBlock=some k\/vw'.ownBlock=some k)->T.w k\/W.heap.size<=k:=by
  intro k hk;rw[a2];rcases hk with e|e|e|e|e|e|e|e
  ·exact .inl (.inl e)
  ·exact .inl (.inr (.inl e))
  ·exact .inl (.inr (.inr (.inl e)))
  ·exact .inl (.inr (.inr (.inr (.inl e))))
  ·exact .inl (.inr (.inr (.inr (.inr (.inl e)))))
  ·exact .inl (.inr (.inr (.inr (.inr (.inr (.inl e))))))
  ·rcases ht.n8 k e with e|e
   ·exact .inl (.inr (.inr (.inr (.inr (.inr (.inr (.inl e)))))))
   ·exact .inr e
  ·rcases ht.n9 k e with e|e
   ·exact .inl (.inr (.inr (.inr (.inr (.inr (.inr (.inr e)))))))
   ·exact .inr e
 have a3:∀p∈ps++[(A',n',c',now)],0<p.2.1→∀ad,p.1=some ad->ad.block<W.heap.size∧¬T.w ad.block:=by
  intro p hp hn ad a0
  have a4:Ak W p.1 p.2.1 p.2.2.1 p.2.2.2∧¬T.w ad.block:=by
   rcases List.mem_append.1 hp with hp|hp
   ·exact⟨h.pp p hp,(h.pd p hp ad a0).2 hn⟩
   ·obtain rfl:p=(A',n',c',now):=by simpa using hp
    exact⟨hwd,fun e=>(hfr ad a0).2 (.inl e)⟩
  obtain⟨b,off,hb,a6,_⟩:=a4.1.2.2.2.2 hn;rw[a0]at hb;injection hb with hb
  subst hb;exact⟨a6,a4.2⟩
 refine⟨⟨fun k=>k=b4\/k=b5\/k=b6\/k=b8\/k=b9\/k=lr\/vp'.ownBlock=some k\/vw'.ownBlock=some k,fun k=>∃p∈ps++[(A',n',c',now)],0<p.2.1∧∃ad,p.1=some ad/\ad.block=k⟩,⟨rfl,rfl,h.lt,h.ds,(a1 _ l4 b1 b0).trans h.c4,(a1 _ l5 a8 a9).trans h.c5,(a1 _ l6 b3 b2).trans h.c6, ?_, ?_,Bj (w:=X) ?_ fun k e=>hX k ?_ ?_,Bj (w:=X) ?_ fun k e=>hX k ?_ ?_,ht.ne, ?_, ?_, ?_, ?_,h.bb,(a1 _ ll d8 d9).trans h.lp⟩,hK,a5, ?_⟩
 ·exact(Below.heap_setCell _ _ _ _ (by simpa using a7)).trans (one_setCell ht.c8)
 ·exact one_setCell ((Below.heap_setCell _ _ _ _ (by simpa using a7.symm)).trans ht.c9)
 ·have:=ht.o8;rw[List.length_append,List.length_singleton,Xq];exact this
 ·have:=(ht.o8.lt k e).1;omega
 ·have:=(ht.o8.lt k e).1;omega
 ·have:=ht.o9;rw[List.length_append,List.length_singleton,List.map_append,List.map_singleton];exact this
 ·have:=(ht.o9.lt k e).1;omega
 ·have:=(ht.o9.lt k e).1;omega
 ·rw[List.map_append,List.map_append,h.pw];rfl
 ·intro p hp
  have a4:Ak W p.1 p.2.1 p.2.2.1 p.2.2.2:=by
   rcases List.mem_append.1 hp with hp|hp
   ·exact h.pp p hp
   ·obtain rfl:p=(A',n',c',now):=by simpa using hp
    exact hwd
  exact a4.keep hK fun hn ad a0=>(a3 p hp hn ad a0).2
 ·intro p hp ad a0;refine⟨?_,fun hn hT=> ?_⟩
  ·rcases List.mem_append.1 hp with hp|hp
   ·exact(h.pd p hp ad a0).1
   ·obtain rfl:p=(A',n',c',now):=by simpa using hp
    exact(hfr ad a0).1
  ·obtain⟨h1,h2⟩:=a3 p hp hn ad a0;rcases a5 _ hT with h3|h3
   ·exact h2 h3
   ·omega
 ·refine((h.kp.mono (S':=fun k=>(k=b4\/k=b5\/k=b6\/k=b8\/k=b9\/k=lr)\/B<=k) (fun _ e=> .inl e)).trans (hK.mono (S':=fun k=>(k=b4\/k=b5\/k=b6\/k=b8\/k=b9\/k=lr)\/B<=k) (fun k e=>by
   rw[a2]at e;rcases e with e|e|e|e|e|e|e|e
   ·exact .inl (.inl e)
   ·exact .inl (.inr (.inl e))
   ·exact .inl (.inr (.inr (.inl e)))
   ·exact .inl (.inr (.inr (.inr (.inl e))))
   ·exact .inl (.inr (.inr (.inr (.inr (.inl e)))))
   ·exact .inl (.inr (.inr (.inr (.inr (.inr e)))))
   ·exact .inr (h.o8.lt k e).1
   ·exact .inr (h.o9.lt k e).1))).old fun k a6 e=>e.resolve_right (by omega)
 ·intro k hk;rcases hk with hk|⟨p,hp,hn,ad,a0,rfl⟩
  ·rcases a5 k hk with e|e
   ·exact .inl (.inl e)
   ·exact .inr (.inl e)
  ·rcases List.mem_append.1 hp with hp|hp
   ·exact .inl (.inr (by rw[h.tu];exact⟨p,hp,hn,ad,a0,rfl⟩))
   ·obtain rfl:p=(A',n',c',now):=by simpa using hp
    exact .inr (.inr ⟨hn,ad,a0,rfl⟩)
end ts
end Go.Proofs.YtaglfmlgbcmakaaGreatDoor
