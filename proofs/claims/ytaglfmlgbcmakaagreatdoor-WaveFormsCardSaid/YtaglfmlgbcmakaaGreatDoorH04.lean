/-
  The iterator of wave.arrived.
  wave.arrived, wave.line.
  wave.line.
  wave.Line.
  slices.Clone of a word: what is returned may be written.
  What wave.Forms keeps: the forms that have been derived, by the indexes of the laws, and those of the points so far.
-/
import Derived.Maps.OwnSet
import Derived.Maps.Views
import Derived.Laws.IdiomStrings
import Derived.Maps.OwnOps
import Derived.Test.YtaglfmlgbcmakaaGreatDoorH03
set_option linter.all false
set_option maxRecDepth 100000
set_option maxHeartbeats 4000000
namespace Go.Proofs.YtaglfmlgbcmakaaGreatDoor
open Go.RowKit Go.Shelf
attribute [local go_sem] Oper.semAt_some
def Ack (w:World)(g B j:Nat)(tt:Nat->Option Nat):Prop:=∃v,w.heap[g]? =some (.cells #[v] 192 (0,0))/\w.ownsRow B 123 1 v j ((List.range j).map fun i=>Value.int .i64 (Bn (tt i)))
theorem Ack.below {w w':World}{g B j:Nat}{tt:Nat->Option Nat}(h:Ack w g B j tt)(hb:Below w.heap.size w w'):Ack w' g B j tt:=by
 obtain⟨v,h1,h2⟩:=h;exact⟨v,(hb.block g (lt_of_block h1)).trans h1,Bj h2 fun k e=>hb.block k (h2.lt k e).2⟩
theorem Cl {w w':World}{b:Nat}(h:w'.heap[b]? =w.heap[b]?)(o:Nat):w'.cell? ⟨b,o,none⟩=w.cell? ⟨b,o,none⟩:=by simp[World.cell?,h]
theorem Rb {w:World}{B B':Nat}{t t':TypeId}{v v':Value}{n n':Nat}{xs xs':List Value}(h:w.ownsRow B t 1 v n xs)(h':w.ownsRow B' t' 1 v' n' xs')(hn:t≠t'):∀k,v.ownBlock=some k->v'.ownBlock≠some k:=by
 intro k hk a0;rcases h.2 with⟨rfl,_⟩|⟨g,cap,cur,rfl,_,hg,_⟩
 ·cases hk
 ·rcases h'.2 with⟨rfl,_⟩|⟨g',cap',cur',rfl,_,a1,_⟩
  ·cases a0
  ·obtain rfl:g=k:=Option.some.inj hk;obtain rfl:g'=g:=Option.some.inj a0;rw[hg]at a1;injection a1 with e
   injection e with _ e _
   exact hn e
theorem D9.block {w w':World}{B:Nat}{v:Value}{l:List Int}(h:D9 w B v l)(hs:w.heap.size<=w'.heap.size)(hb:∀k,v.ownBlock=some k->w'.heap[k]? =w.heap[k]?):D9 w' B v l:=⟨Bj h.1 hb,Nat.le_trans h.2 hs⟩
theorem Tz {w:World}{B:Nat}{t:TypeId}{v:Value}{n j:Nat}{xs:List Value}{x:Value}(h:w.ownsRow B t 1 v n xs)(hx:xs[j]? =some x):∃tb cap,v= .slice (some ⟨tb,0,none⟩) n cap/\w.cell? ⟨tb,j,none⟩=some x/\B<=tb/\tb<w.heap.size∧∃cur,w.heap[tb]? =some (.cells cur t (0,0))/\n<=cap/\cap<=maxLen/\cur.size=cap/\cur.toList.take n=xs:=by
 rcases h.2 with⟨rfl,rfl⟩|⟨g,cap,cur,rfl,hb,hg,h1,h2,h3,h4⟩
 ·have:=h.1;rw[Nat.zero_mul]at this
  rw[List.length_eq_zero_iff.1 this]at hx;cases hx
 ·refine⟨g,cap,rfl, ?_,hb,lt_of_block hg,cur,hg,h1,h2,by omega,by rw[Nat.mul_one]at h4;exact h4⟩;refine Ad hg ?_;rw[←h4,List.getElem?_take]at hx;split at hx
  ·simpa using hx
  ·cases hx
theorem Xu:(Tryz.prog.info? 123).map (fun i=>(i.zero,i.size,i.bytes))=some (some (.int .i64 0),1,8):=by kernel_rfl
theorem Ae7 (mm lr b1 b2 b3 b4 bn:Nat)(hmm:1<=mm)(mb n:Nat)(rs:List Bk)(A:Option Addr)(m c:Nat)(ys:List Cs)(a:Nat)(now:Int)(J:Nat->(Nat->Prop)->World->Prop)(T0:Nat->Prop)(W:World)
  (hlt:∀s T W',J s T W'→∀k,T k->k<W'.heap.size)
  (hst:∀s T W' W'',J s T W'->Ba (fun k=>W.heap.size<=k∧¬T k) W' W''->J s T W'')
  (hy:∀i T W' k,(Lx n rs (Aj ys) a now)[i]? =some k->J i T W'->YieldAt Fence.wide (mm-1) Tryz.prog lr #[.int .i64 (k:Int)] W' (fun e W''=>
   e= .returned (.bool true)∧∃T',J (i+1) T' W''/\Ba T W' W''∧∀k,T' k->T k\/W'.heap.size<=k))
  (h0:J 0 T0 W) (c1:W.cell? ⟨b1,0,none⟩=some (.slice A m c)) (c2:W.cell? ⟨b2,0,none⟩=some (.pointer (some ⟨mb,0,none⟩))) (c3:W.cell? ⟨b3,0,none⟩=some (.int .i64 (a:Int)))
  (c4:W.cell? ⟨b4,0,none⟩=some (.func (.func 103) #[] #[.pointer (some ⟨bn,0,none⟩)])) (c5:W.heap[bn]? =some (.cells #[.int .i64 now] 2 (0,0)))
  (hb1:b1<W.heap.size) (hb2:b2<W.heap.size) (hb3:b3<W.heap.size) (hb4:b4<W.heap.size)
  (hmap:Dr W mb n rs) (hys:Cm W A m c ys) (hone:∀y∈ys,Em n y.d=0) (han:a<n) (hm19:m<=19):
  CallsIn Fence.wide mm Tryz.prog 140 #[.func (.yield lr) #[] #[], .pointer (some ⟨b1,0,none⟩), .pointer (some ⟨b2,0,none⟩), .pointer (some ⟨b3,0,none⟩), .pointer (some ⟨b4,0,none⟩)] W fun e W'=>
   (∃v,e= .returned v)∧∃T,J (Lx n rs (Aj ys) a now).length T W':=by
 have j2:=hlt _ _ _ h0;have s9:=hys.max;have s6:=hI hlt;have o3:=hI hst;have HY:=hI hy;have H0:=hI h0;have HM:=hI hmap;have g4:=hI hys;have g8:=hI hone;have p7:=hI j2;have C1:=hI c1;have C2:=hI c2;have C3:=hI c3;have C4:=hI c4;have C5:=hI c5;have g1:Hid ((Aj ys).length=m):=by show _=_;rw[Aj,List.length_map];exact hys.len
 obtain⟨tt,j1⟩:∃tt,tt=tAt n rs (Aj ys) a:=⟨_,rfl⟩;obtain⟨P,hP⟩:∃P:Nat->Bool,P=fun i=>Gt now (tt i):=⟨_,rfl⟩
 have f3:=hI j1;have HP:=hI hP;clear hlt hst hy h0 hmap hys hone j2 c1 c2 c3 c4 c5 j1 hP;refine callsIn_of_wp Tryz.func140 rfl trivial ?_;simp only[Tryz.ntmps140,List.size_toArray,List.length_cons,List.length_nil,Nat.reduceAdd,Nat.reduceSub,Array.replicate_succ,Array.replicate_zero,List.push_toArray,List.append_toArray,List.nil_append,List.cons_append];have k1:(W.alloc (.cells #[.slice none 0 0] 192)).cell? ⟨b1,0,none⟩=some (.slice A m c):=by first|exact(cell_old_at hb1).trans C1.out|exact(Below.alloc (Below.refl _ W) rr _).cell (p:=⟨b1,0,none⟩) hb1 |>.trans C1.out
 gi_wp2_with fail
 clear k1;have f9:(W.alloc (.cells #[.slice none 0 0] 192)).heap[W.heap.size]? =some (.cells #[.slice none 0 0] 192 (0,0)):=Am rfl;have m5:Below W.heap.size W (W.alloc (.cells #[.slice none 0 0] 192)):=(Below.refl _ W).alloc rr _;have p5:(W.alloc (.cells #[.slice none 0 0] 192)).heap.size=W.heap.size+1:=by simp
 obtain⟨g,hg⟩:∃g,g=W.heap.size:=⟨_,rfl⟩;rw[←hg]at f9 ⊢;obtain⟨B,hB⟩:∃B,B=(W.alloc (.cells #[.slice none 0 0] 192)).heap.size:=⟨_,rfl⟩;have r9:g<B:=by omega
 have s5:W.heap.size<=g:=by omega
 have i4:Hid (D9 (W.alloc (.cells #[.slice none 0 0] 192)) B (.slice none 0 0) []):=D9.nil (by omega);have o1:Hid (Ack (W.alloc (.cells #[.slice none 0 0] 192)) g B 0 tt):=⟨_,f9,World.ownsRow_nil _ _ _ _⟩;have m1:=hI m5;generalize(W.alloc (.cells #[.slice none 0 0] 192))=W0 at*;have q2:g<=W.heap.size:=by omega
 clear f9 m5 p5 hg hB
 gi_loopw [7,14] (fun s7 i wr=>∃j:Nat,j<=m/\i= .int .i64 (j:Int)/\Hid (D9 wr B s7 (((List.range j).filter P).map fun(a:Nat)=>(a:Int)))/\Hid (Ack wr g B j tt)/\Hid (Below W.heap.size W wr)/\Hid ((List.range j).filter P=[]->s7= .slice none 0 0)) (fun _ i _=>m-(intOf i).toNat)
 case atStart=>exact⟨0,Nat.zero_le _,rfl,i4.out,o1.out,m1.out,fun _=>rfl⟩
 case round=>
  obtain⟨j,hj,rfl,HN,HI,HB,HE⟩:=hrel;clear i4 o1 m1;by_cases hlt:j<m
  ·have s4:(j:Int)<(m:Int):=by omega
   obtain⟨x,hx⟩:=(g4.out.below HB.out).get hlt;obtain⟨yb,yo,hA,s1,f8,k0,k1,k2,k3,k4⟩:=(g4.out.below HB.out).at_ hx;subst hA;have i1:(Aj ys)[j]? =some x.d:=by rw[Aj,List.getElem?_map,hx];rfl
   have j0:Hid (tt j=Gd n rs x.d a):=by show _=_;rw[f3.out];unfold tAt;rw[i1];rfl
   have H1:Hid (Em n x.d=0):=g8.out x (List.mem_of_getElem? hx);have j7:=hI f8;clear hx i1 f8;obtain⟨⟨law,ps,T,S,fin⟩,Aw,nw,cw⟩:=x;simp only at k0 k1 k2 k3 k4
   gi_wp2_with fail
   clear k0 k1 k2 k3 k4;have kx:(wr.alloc (.cells #[.int .i64 law, .slice Aw nw cw, .int .i64 T, .int .i64 S, .int .i64 fin] 38)).heap[wr.heap.size]? =some (.cells #[.int .i64 law, .slice Aw nw cw, .int .i64 T, .int .i64 S, .int .i64 fin] 38 (0,0)):=Am rfl;have kb:Below wr.heap.size wr (wr.alloc (.cells #[.int .i64 law, .slice Aw nw cw, .int .i64 T, .int .i64 S, .int .i64 fin] 38)):=(Below.refl _ wr).alloc rr _;obtain⟨X,hX⟩:∃X,X=wr.heap.size:=⟨_,rfl⟩;have o8:wr.heap.size<=X:=by omega
   rw[←hX]at kx ⊢;clear hX;generalize wr.alloc (.cells #[.int .i64 law, .slice Aw nw cw, .int .i64 T, .int .i64 S, .int .i64 fin] 38)=V at*;have d0:Below W.heap.size W V:=HB.out.trans (kb.mono HB.out.size);have t0:=HN.out.2;obtain⟨vt,a3,a2⟩:=HI.out;have f6:=hI (Rb HN.out.1 a2 (by decide));have f0:=hI a2.lt;have a7:=(kb.block g (lt_of_block a3)).trans a3;have b9:=Bj a2 fun k e=>kb.block k (a2.lt k e).2
   have r0:=lt_of_block a3;clear a3 a2;have k0:=cell_of_one a7;have k1:=Ad (j:=0) kx rfl;have k2:=Ad (j:=1) kx rfl;have k3:=Ad (j:=2) kx rfl;have k4:=Ad (j:=3) kx rfl;have k5:=Ad (j:=4) kx rfl;have k6:=(d0.cell (p:=⟨b2,0,none⟩) hb2).trans C2.out;have k7:=(d0.cell (p:=⟨b3,0,none⟩) hb3).trans C3.out
   have a8:Hid (∀W':World,(∀k,k<V.heap.size->vt.ownBlock≠some k->W'.heap[k]? =V.heap[k]?)->W'.cell? ⟨g,0,none⟩=some vt/\W'.cell? ⟨X,0,none⟩=some (.int .i64 law)/\W'.cell? ⟨X,1,none⟩=some (.slice Aw nw cw)/\W'.cell? ⟨X,2,none⟩=some (.int .i64 T)/\W'.cell? ⟨X,3,none⟩=some (.int .i64 S)/\W'.cell? ⟨X,4,none⟩=some (.int .i64 fin)/\W'.cell? ⟨b2,0,none⟩=some (.pointer (some ⟨mb,0,none⟩))/\W'.cell? ⟨b3,0,none⟩=some (.int .i64 (a:Int))):=by
    intro W' hk;have a9:∀k,k<B\/wr.heap.size<=k->vt.ownBlock≠some k:=fun k h e=>by have:=f0.out k e;omega
    have d5:=(hk X (lt_of_block kx) (a9 X (.inr o8))).trans kx
    exact⟨cell_of_one ((hk g (lt_of_block a7) (a9 g (.inl r9))).trans a7),Ad (j:=0) d5 rfl,Ad (j:=1) d5 rfl,Ad (j:=2) d5 rfl,Ad (j:=3) d5 rfl,Ad (j:=4) d5 rfl,
     (Cl (hk b2 (by have:=d0.size;omega) (a9 b2 (.inl (by omega)))) 0).trans k6,(Cl (hk b3 (by have:=d0.size;omega) (a9 b3 (.inl (by omega)))) 0).trans k7⟩
   have b0:=hI a7;have g2:=hI b9;have KX:=hI kx;have KB:=hI kb;have d1:=hI d0;have s3:=kb.size;clear a7 b9 kx kb d0;refine Ki (fun W'=>W'.cell? ⟨g,0,none⟩=some vt/\W'.cell? ⟨X,0,none⟩=some (.int .i64 law)/\W'.cell? ⟨X,1,none⟩=some (.slice Aw nw cw)/\W'.cell? ⟨X,2,none⟩=some (.int .i64 T)/\W'.cell? ⟨X,3,none⟩=some (.int .i64 S)/\W'.cell? ⟨X,4,none⟩=some (.int .i64 fin)/\W'.cell? ⟨b2,0,none⟩=some (.pointer (some ⟨mb,0,none⟩))/\W'.cell? ⟨b3,0,none⟩=some (.int .i64 (a:Int))) (by kernel_rfl) ⟨k0,k1,k2,k3,k4,k5,k6,k7⟩ (fun hHeld=> ?_);clear k0 k1 k2 k3 k4 k5 k6 k7
   (refine' Ae 0 rfl ?_;(try simp only[Act.put,nY,nX]));(refine' Ae 1 rfl ?_;(try simp only[Act.put,nY,nX]));(refine' Ae 2 rfl ?_;(try simp only[Act.put,nY,nX]));(refine' Ae 3 rfl ?_;(try simp only[Act.put,nY,nX]))
   clear hHeld
   (refine Anv 4 rfl (fun K' hK'=> ?_);simp only[nY];go_simp)
   have a4:Below V.heap.size V V.drew:=(Below.refl _ _).drew;have m7:=d1.out.trans (a4.mono d1.out.size);refine(Ak9 mb n rs ⟨⟨law,ps,T,S,fin⟩,Aw,nw,cw⟩ a V.drew (HM.out.below m7) ((j7.out.below KB.out).below a4) H1.out han).mono ?_;obtain⟨t,ht⟩:∃t,t=Bn (Gd n rs ⟨law,ps,T,S,fin⟩ a):=⟨_,rfl⟩;have p6:Hid (Bn (tt j)=t):=by show _=_;rw[j0.out,ht]
   rw[←ht];rintro e w1 ⟨rfl,d4⟩;have a6:=hI (a4.trans d4);refine hK' _ _ ⟨.inr (a8.out w1 fun k h _=>a6.out.block k h),fun _=> ?_⟩
   clear hK' K' d4 a4 m7 ht j0 H1 j7
   (try simp only[Act.put,nY,nX])
   (refine Anv 5 rfl (fun K' hK'=> ?_);simp only[nY];go_simp)
   have z1:(w1.alloc (.cells #[.int .i64 t] 123)).heap[w1.heap.size]? =some (.cells #[.int .i64 t] 123 (0,0)):=Am rfl;have a1:Below V.heap.size V (w1.alloc (.cells #[.int .i64 t] 123)):=a6.out.alloc a6.out.size _;have o7:(w1.alloc (.cells #[.int .i64 t] 123)).ownsRow B 123 1 vt j _:=Bj g2.out fun k e=>a1.block k (g2.out.lt k e).2
   have o5:=a6.out.size;refine hK' _ _ ⟨.inr (a8.out _ fun k h _=>a1.block k h),fun _=> ?_⟩
   clear hK' K'
   (try simp only[Act.put,nY,nX])
   refine Anv 6 rfl (fun K' hK'=> ?_);rw[if_pos (by rfl)];refine Ce (.tmp 19) (.tmp 24) 192 rfl B 123 (.int .i64 0) 1 8 Tryz.underlying192 Xu rfl (by decide) vt j ((List.range j).map fun i=>Value.int .i64 (Bn (tt i))) (by rfl) o7 ⟨w1.heap.size,0,none⟩ 1 1 [.int .i64 t] (by rfl) rfl (Gq z1) (by intro u hu;simp at hu;subst hu;rfl) (by unfold maxLen;omega) (by omega) (by simp;omega) ?_;intro vt' X2 a0 b6 _ f8;have m9:=a8.out X2 fun k h1 h2=>(b6.block k (by have:=a1.size;omega) (fun e=>h2 e.symm)).trans (a1.block k h1)
   have f7:X2.frozen? ⟨g,0,none⟩=false:=free_of_one (((b6.block g (by have:=a1.size;have:=lt_of_block b0.out;omega) (fun e=>by have:=f0.out g e.symm;omega)).trans (a1.block g (lt_of_block b0.out))).trans b0.out);have x7:=((b6.block g (by have:=a1.size;have:=lt_of_block b0.out;omega) (fun e=>by have:=f0.out g e.symm;omega)).trans (a1.block g (lt_of_block b0.out))).trans b0.out;obtain⟨At,kt,rfl⟩:=Bh a0;have c7:=cell_of_one x7;refine hK' _ _ ⟨.inr m9,fun _=> ?_⟩
   clear hK' K'
   have i0:Hid (Ack (X2.setCell ⟨g,0,none⟩ (.slice At (j+1) kt)) g B (j+1) tt):=by
    refine⟨_,one_setCell x7, ?_⟩;rw[List.range_succ,List.map_append];show World.ownsRow _ _ _ _ _ _ (List.map (fun i=>Value.int .i64 (Bn (tt i))) (List.range j)++[.int .i64 (Bn (tt j))]);rw[p6.out];exact ownsRow_setCell_other a0 (fun e=>by have:=(a0.lt _ e).1;simp at this;omega) _
   have j4:Hid (D9 (X2.setCell ⟨g,0,none⟩ (.slice At (j+1) kt)) B u7 (((List.range j).filter P).map fun(a:Nat)=>(a:Int))):=by
    refine D9.block HN.out (by have:=b6.size;have:=a1.size;simp at*;omega) fun k e=> ?_
    have o4:=(HN.out.1.lt k e);have q6:k<V.heap.size:=by omega
    exact(Below.heap_setCell _ _ _ _ (by show k≠g;omega)).trans (((b6.block k (by have:=a1.size;omega) (fun e'=>f6.out k e e'.symm)).trans (a1.block k q6)).trans (KB.out.block k o4.2))
   have d8:Hid (Below W.heap.size W (X2.setCell ⟨g,0,none⟩ (.slice At (j+1) kt))):=
    ((d1.out.trans (a1.mono d1.out.size)).grown b6 (by have:=a1.size;have:=d1.out.size;omega) fun k e=>by have:=(f0.out k e).1;omega).setCell (p:=⟨g,0,none⟩) (by show W.heap.size<=g;omega) _
   clear a0 b6 f8 m9 x7 o7 z1 a1 a8 HN HI HB f6 f0 d1 b0 g2 KX KB a6
   (try simp only[Act.put,nY,nX])
   (refine Anv 7 rfl (fun K' hK'=> ?_);simp only[nY];go_simp)
   refine hK' _ _ ⟨.inl (by kernel_rfl),fun _=>Bf (by kernel_rfl) ?_ _⟩
   clear hK' K' f7 c7;generalize X2.setCell ⟨g,0,none⟩ (.slice At (j+1) kt)=Y at*;gi_wp2;obtain⟨v5,m0,i6⟩:=i0.out;obtain⟨tb,ct,rfl,ct5,p1,q0,cur5,d6,p4, -⟩:=Tz i6 (j:=j) (x:= .int .i64 (Bn (tt j))) (by rw[List.getElem?_map,List.getElem?_range (by omega)];rfl);have kg:=cell_of_one m0;have k4:=(d8.out.cell (p:=⟨b4,0,none⟩) hb4).trans C4.out;have KN:=hI ((d8.out.block bn (lt_of_block C5.out)).trans C5.out);have s8:(j:Int)<((j:Int)+1):=by omega
   clear m0 i6 d6;obtain⟨o,ho⟩:∃o,o=tt j:=⟨_,rfl⟩;rw[←ho]at ct5;have o2:=hI ho;clear ho;have f4:=hI fun w=>Alc o now bn w
   have d2:Hid (P j=Gt now o):=by show _=_;rw[HP.out,o2.out]
   obtain⟨ar,i2⟩:∃ar,ar=Bn o:=⟨_,rfl⟩;rw[←i2]at ct5 f4;obtain⟨pj,m3⟩:∃pj,pj=Gt now o:=⟨_,rfl⟩;rw[←m3]at f4 d2;clear i2 m3;refine Ki (fun W'=>W'.cell? ⟨b4,0,none⟩=some (.func (.func 103) #[] #[.pointer (some ⟨bn,0,none⟩)])/\W'.cell? ⟨g,0,none⟩=some (.slice (some ⟨tb,0,none⟩) (j+1) ct)/\W'.cell? ⟨tb,j,none⟩=some (.int .i64 ar)) (by kernel_rfl) ⟨k4,kg,ct5⟩ (fun hHeld=> ?_);clear k4 kg ct5
   (refine' Ae 0 rfl ?_;(try simp only[Act.put,nY,nX]));(refine' Ae 1 rfl ?_;(try simp only[Act.put,nY,nX]));(refine' Ae 2 rfl ?_;(try simp only[Act.put,nY,nX]));(refine' Ae 3 rfl ?_;(try simp only[Act.put,nY,nX]));(refine' Ae 4 rfl ?_;(try simp only[Act.put,nY,nX]))
   (refine Anv 5 rfl (fun K' hK'=> ?_);simp only[nY];go_simp)
   refine(f4.out Y.drew KN.out).mono ?_;rintro e w5 ⟨rfl,rfl⟩;refine hK' _ _ ⟨.inl (by kernel_rfl),fun _=>Bf (by kernel_rfl) ?_ _⟩
   clear hK' K' hHeld;have a4:Below Y.heap.size Y Y.drew:=(Below.refl _ _).drew;have f2:=hI (j4.out.below a4);have k8:=hI (i0.out.below a4);have g3:=hI (d8.out.trans (a4.mono d8.out.size))
   have f5:Hid ((List.range (j+1)).filter P=(List.range j).filter P++(if P j=true then [j]else [])):=by
    show _=_;rw[List.range_succ,List.filter_append];congr 1;by_cases h:P j=true
    ·rw[if_pos h,List.filter_cons_of_pos h];rfl
    ·rw[if_neg h,List.filter_cons_of_neg h];rfl
   clear a4 j4 i0 d8 KN f4 o2 q0;generalize Y.drew=Z at*
   cases pj with
   |false=>
    gi_wp2
    go_roundw
    case rel=>exact⟨j+1,by omega,by simp,by show D9 _ _ _ _;rw[f5.out,d2.out];simpa using f2.out,k8.out,g3.out,fun h=>HE.out (by rw[f5.out,d2.out]at h;simpa using h)⟩
    case measure=>simp[intOf];omega
   |true=>
    obtain⟨A8,c8,r1⟩:=f2.out.form;subst r1;obtain⟨L,hL⟩:∃L,L=((List.range j).filter P).map fun(a:Nat)=>(a:Int):=⟨_,rfl⟩
    have t1:L.length<=j:=by rw[hL,List.length_map];exact Nat.le_trans (List.length_filter_le _ _) (by simp)
    rw[←hL]at f2 ⊢;have HL:=hI hL;clear hL;have f1:Below Z.heap.size Z (Z.alloc (.cells #[.int .i64 (j:Int)] 3)):=(Below.refl _ Z).alloc rr _;have b7:=hI (f2.out.below f1);have p2:=hI (k8.out.below f1);have q8:=b7.out.2;have r4:Hid (Below W.heap.size W (Z.alloc (.cells #[.int .i64 (j:Int)] 3))):=g3.out.trans (f1.mono g3.out.size);have f6:=hI (fun k (hk:(Value.slice A8 L.length c8).ownBlock=some k)=>(b7.out.1.lt k hk));obtain⟨vz,m6,g0⟩:=p2.out;have o6:=hI (Rb g0 b7.out.1 (by decide));have i8:=hI m6;have k9:=hI g0;clear f1 m6 g0
    gi_wp2_with (gi_at_builtin;refine Jy rfl (.tmp 32) (.tmp 34) 36 rfl B 3 (.int .i64 0) 1 8 Tryz.underlying36 Hv rfl (by decide) (.slice A8 L.length c8) L.length (L.map (Value.int .i64)) rfl b7.out.1 ⟨Z.heap.size,0,none⟩ 1 1 [.int .i64 (j:Int)] rfl rfl (cell_one_new _ _ _) (by simp[Value.oneCell']) (by unfold maxLen;omega) (by omega) q8 ?hc)
    case hc=>
     intro v' w4 a0 hg _;have q5:=hI (b7.out.push a0 hg);have r3:Hid (Below W.heap.size W w4):=b7.out.grow r4.out (by omega) hg;have p3:Hid (Ack w4 g B (j+1) tt):=⟨vz,(hg.block g (lt_of_block i8.out) (fun e=>by have:=(f6.out g e.symm).1;omega)).trans i8.out,Bj k9.out fun k e=>hg.block k (k9.out.lt k e).2 (fun e'=>o6.out k e e'.symm)⟩
     clear a0 hg;gi_wp2
     go_roundw
     case rel=>exact⟨j+1,by omega,by simp,by show D9 _ _ _ _;rw[f5.out,d2.out,if_pos rfl,List.map_append,←HL.out];exact q5.out,p3.out,r3.out,fun h=>by rw[f5.out,d2.out]at h;simp at h⟩
     case measure=>simp[intOf];omega
  ·obtain rfl:j=m:=by omega
   obtain⟨op,b8⟩:∃op,op=(List.range j).filter P:=⟨_,rfl⟩;obtain⟨LL,d7⟩:∃LL,LL=Lx n rs (Aj ys) a now:=⟨_,rfl⟩;have a5:LL=Fr (C0 tt) P j:=by rw[d7,f3.out,HP.out,f3.out,←g1.out];rfl
   have g9:Hid (LL.length=op.length):=by show _=_;rw[a5,K8 (Cr tt),b8]
   have b5:∀i x,tt i=some x->x<9223372036854775807:=fun i x hx=>by
    rw[f3.out]at hx;obtain⟨y,hy,hz⟩:=Aah hx;obtain⟨y',r8,rfl⟩:=List.mem_map.1 (List.mem_of_getElem? hy);have h1:=(Wc hz).2.1;have h2:=(g4.out.2 y' r8).u.fin.2;omega
   rw[←b8]at HN HE;rw[←d7]at HY;have g7:=hI d7;by_cases he:op=[]
   ·have hu:=HE.out he;subst hu;have o9:Hid (LL.length=0):=by show _=_;rw[g9.out,he];rfl
    have p0:=hI (Afe g _ rfl);clear HE HN HI d7 a5 g9 he b8 b5;gi_wp2;refine⟨trivial, ?_⟩;refine(callsIn_wide.2 (p0.out wr)).mono ?_;rintro e w1 ⟨rfl,rfl⟩;gi_wp2
    gi_loopw [42] (fun i wq=>i= .int .i64 0/\wq=w1) (fun _ _=>0)
    case atStart=>exact⟨rfl,rfl⟩
    case round=>
     obtain⟨rfl,rfl⟩:=hrel;gi_wp2
     go_end0
     exact⟨⟨_,rfl⟩,T0,by rw[←g7.out,o9.out];exact o3.out _ _ _ _ H0.out (Br HB.out)⟩
   ·have j9:0<j:=by
     rcases Nat.eq_zero_or_pos j with e|e
     ·subst e;exact absurd b8 (by simpa using he)
     ·exact e
    obtain⟨v0,o0⟩:∃v0:Value,v0= .int .i64 ((op[0]'(List.length_pos_iff.2 he):Nat):Int):=⟨_,rfl⟩;obtain⟨gf,cf,hu, -,s0,p8, -⟩:=Tz HN.out.1 (j:=0) (x:=v0) (by rw[List.getElem?_map,List.getElem?_map,List.getElem?_eq_getElem (List.length_pos_iff.2 he),o0];rfl);subst hu;have g5:(op.map fun(a:Nat)=>(a:Int)).length=op.length:=List.length_map _;have i7:Fi wr B gf cf op:=by have:=HN.out.1;rw[List.map_map,g5]at this;exact this
    rw[g5]at HN ⊢;obtain⟨vt,a7,b9⟩:=HI.out;obtain⟨tb,ct,rfl, -,p1,r5,cur,d9,q3,q7,g6,j5⟩:=Tz b9 (j:=0) (x:= .int .i64 (Bn (tt 0))) (by rw[List.getElem?_map,List.getElem?_range j9];rfl)
    have i5:Lt wr g tb j tt:=⟨ct,a7,cur,d9,fun k hk=>by
     have h1:=congrArg (fun l:List Value=>l[k]?) j5;simp only[List.getElem?_take,if_pos hk,List.getElem?_map,List.getElem?_range hk,Option.map_some]at h1;simpa using h1⟩
    have a9:tb≠gf:=fun e=>by
     have:=Rb HN.out.1 b9 (by decide) gf rfl
     exact this (by rw[e];rfl)
    have a8:=hI (Aji op B gf cf j g tb tt P b8 b5 j9 hm19 wr i7 i5 (by omega) a9);rw[←a5]at a8;have q1:=HB.out.size;clear o0 g5 i7 a7 b9 d9 q3 q7 g6 j5 i5 a9 a5 b8 b5 HE HN HI he r5;gi_wp2;refine⟨trivial, ?_⟩;refine(callsIn_wide.2 a8.out).mono ?_;rintro e w1 ⟨rfl,h1,h2,h3⟩;have d3:LL.length=op.length:=h2;rw[←d3];have a6:Hid (Below W.heap.size W w1):=HB.out.trans (h3.to_below (fun k hk=>by omega) q1);have m8:Hid (J 0 T0 w1):=o3.out _ _ _ _ H0.out (Br a6.out);have i9:=hI h1;have r2:gf<w1.heap.size:=Nat.lt_of_lt_of_le p8 h3.size;have j3:Hid (¬T0 gf):=fun h=>by have:=p7.out _ h;omega
    have i3:LL.length<=19:=by
     have h1:=K8 (Cr (tAt n rs (Aj ys) a)) (fun i=>Gt now (tAt n rs (Aj ys) a i)) (Aj ys).length;have h2:=List.length_filter_le (fun i=>Gt now (tAt n rs (Aj ys) a i)) (List.range (Aj ys).length);rw[List.length_range,g1.out]at h2;rw[g7.out];unfold Lx;rw[h1,g1.out];omega
    clear h1 h2 h3 HB g9 d3 a8 d7;gi_wp2
    gi_loopw [11,42] (fun _ i wr=>∃(k:Nat) (T:Nat->Prop),i= .int .i64 (k:Int)/\k<=LL.length/\Hid (J k T wr)/\Hid (Fi wr B gf cf LL)/\Hid (¬T gf)) (fun _ i _=>LL.length-(intOf i).toNat)
    case atStart=>exact⟨0,T0,rfl,Nat.zero_le _,m8.out,i9.out,j3.out⟩
    case round=>
     obtain⟨k,T,rfl,hk,HJ,HO,HT⟩:=hrel;clear a6 m8 i9 j3;by_cases hkl:k<LL.length
     ·have q9:(k:Int)<(LL.length:Int):=by omega
      obtain⟨_,_,_,cur,hg,g6,ht⟩:=HO.out.block;have hx:LL[k]? =some (LL[k]'hkl):=List.getElem?_eq_getElem hkl;obtain⟨x,j6⟩:∃x,x=LL[k]'hkl:=⟨_,rfl⟩;rw[←j6]at hx;have cx:wr.cell? ⟨gf,k,none⟩=some (.int .i64 (x:Int)):=Ad hg (Pk ht k x hx);have q4:=lt_of_block hg;obtain⟨fn,tmps,assign,body,s2,hR⟩:=HY.out k T wr x hx HJ.out;have HR:=hI hR;clear hR j6 hx hg g6 ht;gi_wp2;refine HR.out.mono ?_;rintro e W3 ⟨rfl,T',m2,j8,m4⟩;have r6:=hI m2;have r7:=hI (HO.out.heap (j8.block gf q4 HT.out));have p9:Hid (¬T' gf):=fun h=>(m4 _ h).elim HT.out (by omega)
      clear m2 j8 m4;gi_wp2
      go_roundw
      case rel=>exact⟨k+1,T',by go_num,by omega,r6.out,r7.out,p9.out⟩
      case measure=>simp[intOf];omega
     ·obtain rfl:k=LL.length:=by omega
      gi_wp2
      go_end0
      exact⟨⟨_,rfl⟩,T,by rw[←g7.out];exact HJ.out⟩
end Go.Proofs.YtaglfmlgbcmakaaGreatDoor
namespace Go.Proofs.YtaglfmlgbcmakaaGreatDoor
open Go.RowKit Go.Shelf
attribute [local go_sem] Oper.semAt_some
structure Ala (W:World)(b1 b2 b3 b4:Nat)(A:Option Addr)(m c mb:Nat)(a:Int)(fv:Value):Prop where
 c1:W.heap[b1]? =some (.cells #[.slice A m c] 27 (0,0))
 c2:W.heap[b2]? =some (.cells #[.pointer (some ⟨mb,0,none⟩)] 29 (0,0))
 c3:W.heap[b3]? =some (.cells #[.int .i64 a] 3 (0,0))
 c4:W.heap[b4]? =some (.cells #[fv] 161 (0,0))
theorem Ala.keep {W W':World}{b1 b2 b3 b4:Nat}{A:Option Addr}{m c mb:Nat}{a:Int}{fv:Value}(h:Ala W b1 b2 b3 b4 A m c mb a fv)(hk:Ba (fun _=>False) W W'):Ala W' b1 b2 b3 b4 A m c mb a fv:=
 ⟨(hk.block _ (lt_of_block h.c1) (fun h=>h)).trans h.c1,(hk.block _ (lt_of_block h.c2) (fun h=>h)).trans h.c2,(hk.block _ (lt_of_block h.c3) (fun h=>h)).trans h.c3,(hk.block _ (lt_of_block h.c4) (fun h=>h)).trans h.c4⟩
theorem Ae8 (mb:Nat)(A:Option Addr)(m c:Nat)(a:Int)(bn:Nat)(w:World):
  Calls Tryz.prog 102 #[.pointer (some ⟨mb,0,none⟩), .slice A m c, .int .i64 a, .func (.func 103) #[] #[.pointer (some ⟨bn,0,none⟩)]] w fun e w'=>
   ∃b1 b2 b3 b4,e= .returned (.func (.func 140) #[] #[.pointer (some ⟨b1,0,none⟩), .pointer (some ⟨b2,0,none⟩), .pointer (some ⟨b3,0,none⟩), .pointer (some ⟨b4,0,none⟩)])/\Ala w' b1 b2 b3 b4 A m c mb a (.func (.func 103) #[] #[.pointer (some ⟨bn,0,none⟩)])/\Below w.heap.size w w':=by
 go_enter Tryz.func102,Tryz.ntmps102;go_wp2_with fail;go_ret;refine⟨_,_,_,_,rfl,⟨hpt,hpt,hpt,hpt⟩,bel⟩
structure Uu (bo lr:Nat)(rc:LoopState->Option Code->Loop)(W1:World)(st:LoopState)(l:List Int)(T:Nat->Prop)(v:Value)(W:World):Prop where
 tw:∀b,T b↔b=bo\/b=lr\/v.ownBlock=some b
 lt:bo<W1.heap.size/\lr<W1.heap.size/\bo≠lr
 out:W.heap[bo]? =some (.cells #[v] 36 (0,0))
 own:D9 W W1.heap.size v l
 kp:Ba (fun b=>b=bo\/b=lr) W1 W
 lp:W.heap[lr]? =some (.loop (rc st none))
section
variable {bo lr:Nat}{rc:LoopState->Option Code->Loop}{W1:World}{st:LoopState}{l:List Int}{T:Nat->Prop}{v:Value}{W W':World}
theorem Uu.keep (h:Uu bo lr rc W1 st l T v W)(hk:Ba (fun b=>W1.heap.size<=b∧¬T b) W W'):Uu bo lr rc W1 st l T v W':=by
 obtain⟨h1,h2,h3,h4,h5,h6⟩:=h;have ho:∀b,b<W1.heap.size->W'.heap[b]? =W.heap[b]? :=fun b hb=>hk.block b (by have:=h5.size;omega) (fun h=>by omega)
 exact⟨h1,h2,(ho _ h2.1).trans h3,h4.block hk.size fun k e=>hk.block k (h4.1.lt k e).2 (fun h=>h.2 ((h1 k).2 (.inr (.inr e)))),((h5.mono (S':=fun b=>(b=bo\/b=lr)\/W1.heap.size<=b) fun _ e=> .inl e).trans (hk.mono fun _ e=> .inr e.1)).old fun b hb e=>e.resolve_right (by omega),(ho _ h2.2.1).trans h6⟩
theorem Uu.lts (h:Uu bo lr rc W1 st l T v W):∀b,T b->b<W.heap.size:=by
 intro b hb;rcases(h.tw b).1 hb with rfl|rfl|e
 ·exact lt_of_block h.out
 ·exact lt_of_block h.lp
 ·exact(h.own.1.lt b e).2
theorem Uu.put (h:Uu bo lr rc W1 st l T v W)(st':LoopState):Uu bo lr rc W1 st' l T v (W.putObj lr (.loop (rc st' none))):=by
 obtain⟨h1,h2,h3,h4,h5,h6⟩:=h;exact⟨h1,h2,(World.putObj_heap_other h2.2.2).trans h3,h4.block (by simp) fun k e=>World.putObj_heap_other (by have:=(h4.1.lt k e).1;omega),h5.putObj (by simp) _,World.putObj_heap_same (lt_of_block h6)⟩
end
end Go.Proofs.YtaglfmlgbcmakaaGreatDoor
namespace Go.Proofs.YtaglfmlgbcmakaaGreatDoor
open Go.RowKit Go.Shelf
attribute [local go_sem] Oper.semAt_some
theorem Ajc (mb n:Nat)(rs:List Bk)(A:Option Addr)(m c:Nat)(ys:List Cs)(a:Nat)(now:Int)(w:World)(hmap:Dr w mb n rs)(hys:Cm w A m c ys)(hone:∀y∈ys,Em n y.d=0)(han:a<n)(hm19:m<=19):
  Calls Tryz.prog 59 #[.pointer (some ⟨mb,0,none⟩), .slice A m c, .int .i64 (a:Int), .int .i64 now] w fun e w'=>
   ∃A' c',e= .returned (.slice A' (Jd n rs (Aj ys) a now).length c')/\Ci w' A' (Jd n rs (Aj ys) a now).length c' (Jd n rs (Aj ys) a now)/\Below w.heap.size w w':=by
 have HM:=hI hmap;have b6:=hI hys;have d5:=hI hone;have j5:=hys.max;clear hmap hys hone;refine(callsIn_wide (n:=9)).1 (callsIn_of_wp_marks Tryz.func59 rfl trivial ?_ rfl);simp only[Tryz.ntmps59,List.size_toArray,List.length_cons,List.length_nil,Nat.reduceAdd,Nat.reduceSub,Array.replicate_succ,Array.replicate_zero,List.push_toArray,List.append_toArray,List.nil_append,List.cons_append];gi_wp2;refine⟨trivial, ?_⟩;have k5:(((w.alloc (.cells #[.slice A m c] 27)).alloc (.cells #[.int .i64 now] 2)).alloc (.cells #[.slice none 0 0] 36)).heap[w.heap.size]? =some (.cells #[.slice A m c] 27 (0,0)):=hpt;have k7:(((w.alloc (.cells #[.slice A m c] 27)).alloc (.cells #[.int .i64 now] 2)).alloc (.cells #[.slice none 0 0] 36)).heap[w.heap.size+1]? =some (.cells #[.int .i64 now] 2 (0,0)):=hpt;have k9:(((w.alloc (.cells #[.slice A m c] 27)).alloc (.cells #[.int .i64 now] 2)).alloc (.cells #[.slice none 0 0] 36)).heap[w.heap.size+1+1]? =some (.cells #[.slice none 0 0] 36 (0,0)):=hpt;have kB:Below w.heap.size w (((w.alloc (.cells #[.slice A m c] 27)).alloc (.cells #[.int .i64 now] 2)).alloc (.cells #[.slice none 0 0] 36)):=bel;generalize(((w.alloc (.cells #[.slice A m c] 27)).alloc (.cells #[.int .i64 now] 2)).alloc (.cells #[.slice none 0 0] 36))=V0 at*;obtain⟨bl,d4⟩:∃x,x=w.heap.size:=⟨_,rfl⟩;obtain⟨bo,d2⟩:∃x,x=w.heap.size+1+1:=⟨_,rfl⟩;obtain⟨bn,d8⟩:∃x,x=w.heap.size+1:=⟨_,rfl⟩;rw[←d4]at k5;rw[←d8]at k7;rw[←d2]at k9;rw[←d2,←d8,←d4];have j3:w.heap.size<=bl/\bl<bn/\bn<bo:=by omega
 have K5:=hI k5;have K7:=hI k7;have K9:=hI k9;have KB:=hI kB;clear d4 d2 d8 k5 k7 k9 kB;refine(callsIn_wide.2 (Ae8 mb A m c a bn V0)).mono ?_;rintro e w2 ⟨b1,b2,b3,b4,rfl,hc,f7⟩;have HC:=hI hc;have a5:=hI f7;clear hc f7;gi_wp2;refine Fl (gf:=140) (lb:= #[.pointer (some ⟨b1,0,none⟩), .pointer (some ⟨b2,0,none⟩), .pointer (some ⟨b3,0,none⟩), .pointer (some ⟨b4,0,none⟩)]) rfl (enters_of Tryz.func140 (by kernel_rfl) rfl) fun fn D l rc W1 hrc hD hl hK2 hD1 hl1 hs2=> ?_
 have i3:=hI hrc;clear hrc;have j9:w2.heap.size<=D:=by omega
 have j2:D<l:=by omega
 clear hs2 hD hl;have a4:=hI hK2;have i6:=hI hD1;have f6:=hI hl1;clear hK2 hD1 hl1;have j1:=KB.out.size;have j4:=a5.out.size;have i0:=lt_of_block K9.out;have j0:=lt_of_block K7.out;have i5:=lt_of_block K5.out;have j8:=a4.out.size;have i2:=lt_of_block f6.out;have d7:Hid (Below w.heap.size w w2):=KB.out.trans (a5.out.mono KB.out.size);have a6:Hid (Below w.heap.size w W1):=d7.out.trans (a4.out.to_below (B:=w.heap.size) (fun b hb=>hb.elim) (by omega));have a1:=hI (HC.out.keep a4.out);have Q5:Hid (W1.heap[bl]? =some (.cells #[.slice A m c] 27 (0,0))):=(a4.out.block _ (by omega) (fun h=>h)).trans ((a5.out.block _ i5).trans K5.out);have Q7:Hid (W1.heap[bn]? =some (.cells #[.int .i64 now] 2 (0,0))):=(a4.out.block _ (by omega) (fun h=>h)).trans ((a5.out.block _ j0).trans K7.out);have Q9:Hid (W1.heap[bo]? =some (.cells #[.slice none 0 0] 36 (0,0))):=(a4.out.block _ (by omega) (fun h=>h)).trans ((a5.out.block _ i0).trans K9.out);clear HC K5 K7 K9 a5 KB;obtain⟨LN,a0⟩:∃LN,LN=Lx n rs (Aj ys) a now:=⟨_,rfl⟩;obtain⟨LL,b7⟩:∃LL,LL=Jd n rs (Aj ys) a now:=⟨_,rfl⟩;have g4:Hid (LL=LN.map (Rw (Aj ys))):=by show _=_;rw[b7,a0];rfl
 have d1:(Aj ys).length=m:=by rw[Aj,List.length_map];exact b6.out.len
 have i9:Hid (∀k∈LN,k<m):=fun k hk=>by
  rw[a0]at hk;unfold Lx at hk
  have:=((Fs (Cr _) _ _ _).1 hk).1
  omega
 have g2:LN.length<=19:=by
  have h1:=K8 (Cr (tAt n rs (Aj ys) a)) (fun i=>Gt now (tAt n rs (Aj ys) a i)) (Aj ys).length;have h2:=List.length_filter_le (fun i=>Gt now (tAt n rs (Aj ys) a i)) (List.range (Aj ys).length);rw[List.length_range,d1]at h2;rw[a0];unfold Lx;rw[h1,d1];omega
 have g5:=hI b7;have j6:=hI a0;clear d1;obtain⟨J,hJ⟩:∃J:Nat->(Nat->Prop)->World->Prop,J=fun i T X=>∃v,Uu bo l rc W1 .ready (LL.take i) T v X:=⟨_,rfl⟩
 have HJ:=hI hJ;clear hJ
 refine(Ae7 (9-1) l b1 b2 b3 b4 bn (by omega) mb n rs A m c ys a now J (fun b=>b=bo\/b=l\/(Value.slice none 0 0).ownBlock=some b) W1 ?hlt ?hst ?hy ?h0 (cell_of_one a1.out.c1) (cell_of_one a1.out.c2) (cell_of_one a1.out.c3) (cell_of_one a1.out.c4) Q7.out
  (lt_of_block a1.out.c1) (lt_of_block a1.out.c2) (lt_of_block a1.out.c3) (lt_of_block a1.out.c4) (HM.out.below a6.out) (b6.out.below a6.out) d5.out han hm19).mono ?_
 case hlt=>
  intro s T X hx;rw[HJ.out]at hx;obtain⟨v,hx⟩:=hx;exact hx.lts
 case hst=>
  intro s T X X' hx hk;rw[HJ.out]at hx ⊢;obtain⟨v,hx⟩:=hx;exact⟨v,hx.keep hk⟩
 case h0=>
  rw[HJ.out];exact⟨_,fun b=>Iff.rfl,⟨by omega,i2,by omega⟩,Q9.out,D9.nil rr,Ba.refl _ _,f6.out⟩
 case hy=>
  intro i T X k b5 hx;rw[HJ.out]at hx;obtain⟨v,hx⟩:=hx;refine Fm i3.out hx.lp rfl ?_;have g9:k<m:=i9.out k (List.mem_of_getElem? (by rw[a0];exact b5));have i1:i<LN.length:=by rw[a0];exact(List.getElem?_eq_some_iff.1 b5).1
  have f0:Below w.heap.size w X:=a6.out.trans (hx.kp.to_below (fun b hb=>by omega) a6.out.size);obtain⟨y,d9⟩:=b6.out.get g9;obtain⟨yb,yo,hA,g7, -,k0, -, -, -, -⟩:=b6.out.at_ d9
  have f3:LL[i]? =some y.d.law:=by
   rw[g4.out,a0,List.getElem?_map,b5];show some (Rw (Aj ys) k)=_;unfold Rw;rw[Aj,List.getElem?_map,d9];rfl
  have g0:=hI f3;subst hA;obtain⟨law,a9⟩:∃law,law=y.d.law:=⟨_,rfl⟩;rw[←a9]at k0 g0;have HX:=hI hx;have k0X:=(f0.cell (p:=⟨yb,yo+k*5,none⟩) g7).trans k0;have q5X:=(hx.kp.block bl (by omega) (by omega)).trans Q5.out;clear f0 d9 f3 a9 b5 hx k0 a0 b7;gi_wp2;refine⟨HX.out.lp, ?_⟩;have hV:=HX.out.put .busy;have f8:Ba T X (X.putObj l (.loop (rc .busy none))):=(Ba.refl T X).putObj ((HX.out.tw l).2 (.inr (.inl rfl))) _;have k2:(X.putObj l (.loop (rc .busy none))).cell? ⟨yb,yo+k*5,none⟩=some (.int .i64 law):=(Cl (World.putObj_heap_other (by omega)) _).trans k0X;have k1:(X.putObj l (.loop (rc .busy none))).cell? ⟨bl,0,none⟩=some (.slice (some ⟨yb,yo,none⟩) m c):=cell_of_one ((World.putObj_heap_other (by omega)).trans q5X);have f2:(X.putObj l (.loop (rc .busy none))).heap.size=X.heap.size:=by simp
  generalize X.putObj l (.loop (rc .busy none))=V at*;have k9:=cell_of_one hV.out;have g8:(k:Int)<(m:Int):=by omega
  have HV:=hI hV;have f5:=hI f8;have g1:=hI f2
  have d6:Hid (∀W':World,(∀b,b<V.heap.size->v.ownBlock≠some b->W'.heap[b]? =V.heap[b]?)->W'.cell? ⟨bo,0,none⟩=some v/\W'.cell? ⟨bl,0,none⟩=some (.slice (some ⟨yb,yo,none⟩) m c)/\W'.cell? ⟨yb,yo+k*5,none⟩=some (.int .i64 law)):=by
   intro W' h;have j7:=hV.kp.size;have b9:∀b,b<W1.heap.size->v.ownBlock≠some b:=fun b hb e=>by have:=(hV.own.1.lt b e).1;omega
   exact⟨(Cl (h bo (by omega) (b9 bo (by omega))) 0).trans k9,(Cl (h bl (by omega) (b9 bl (by omega))) 0).trans k1,(Cl (h yb (by omega) (b9 yb (by omega))) _).trans k2⟩
  clear hV f8 f2 k0X q5X;gi_wp2;refine Jh (fun W'=>W'.cell? ⟨bo,0,none⟩=some v/\W'.cell? ⟨bl,0,none⟩=some (.slice (some ⟨yb,yo,none⟩) m c)/\W'.cell? ⟨yb,yo+k*5,none⟩=some (.int .i64 law)) (by kernel_rfl) (by kernel_rfl) (fun _ _ h=>by exact h) ⟨k9,k1,k2⟩ (fun hHeld=> ?_);clear k9 k1 k2
  (refine' Ae 0 rfl ?_;(try simp only[Act.put,nY,nX]));(refine' Ae 1 rfl ?_;(try simp only[Act.put,nY,nX]));(refine' Ae 2 rfl ?_;(try simp only[Act.put,nY,nX]));(refine' Ae 3 rfl ?_;(try simp only[Act.put,nY,nX]));(refine' Ae 4 rfl ?_;(try simp only[Act.put,nY,nX]));(refine' Ae 5 rfl ?_;(try simp only[Act.put,nY,nX]))
  clear hHeld
  (refine Anv 6 rfl (fun K' hK'=> ?_);simp only[nY];go_simp)
  have d0:Below V.heap.size V V.drew:=(Below.refl _ _).drew;have z1:(V.drew.alloc (.cells #[.int .i64 law] 3)).heap[V.drew.heap.size]? =some (.cells #[.int .i64 law] 3 (0,0)):=Am rfl;have a2:Below V.heap.size V (V.drew.alloc (.cells #[.int .i64 law] 3)):=d0.alloc d0.size _;have o7:=HV.out.own.below a2;refine hK' _ _ ⟨.inr (d6.out _ fun b h _=>a2.block b h),fun _=> ?_⟩
  clear hK' K'
  (try simp only[Act.put,nY,nX])
  obtain⟨q,hq⟩:∃q,q=(LL.take i).length:=⟨_,rfl⟩;have i4:q<=i:=by rw[hq,List.length_take];omega
  have HQ:=hI hq;have o7':=o7.1;rw[←hq]at o7';clear hq;refine Anv 7 rfl (fun K' hK'=> ?_);rw[if_pos (by rfl)];refine Ce (.tmp 17) (.tmp 23) 36 rfl W1.heap.size 3 (.int .i64 0) 1 8 Tryz.underlying36 Hv rfl (by decide) v q ((LL.take i).map (Value.int .i64)) (by rfl) o7' ⟨V.drew.heap.size,0,none⟩ 1 1 [.int .i64 law] (by rfl) rfl (Gq z1) (by intro u hu;simp at hu;subst hu;rfl) (by unfold maxLen;omega) (by omega) o7.2 ?_;intro v' X2 a3 b0 _ g3;obtain⟨A9,c9,rfl⟩:=Bh a3;have b8:∀b,b<V.heap.size->v.ownBlock≠some b->X2.heap[b]? =V.heap[b]? :=fun b hb hn=>(b0.block b (Nat.lt_of_lt_of_le hb a2.size) (fun e=>hn e.symm)).trans (a2.block b hb)
  have f1:=d6.out X2 b8;have a7:v.ownBlock≠some bo:=fun e=>by have:=(HV.out.own.1.lt bo e).1;omega
  have g6:v.ownBlock≠some l:=fun e=>by have:=(HV.out.own.1.lt l e).1;omega
  have d3:=HV.out.kp.size;have x9:=(b8 bo (by omega) a7).trans HV.out.out;have f9:=free_of_one x9;have c9':=cell_of_one x9;refine hK' _ _ ⟨.inr f1,fun _=> ?_⟩
  clear hK' K'
  have f4:Hid (Uu bo l rc W1 .busy (LL.take (i+1)) (fun b=>b=bo\/b=l\/(Value.slice A9 (q+1) c9).ownBlock=some b) (.slice A9 (q+1) c9) (X2.setCell ⟨bo,0,none⟩ (.slice A9 (q+1) c9))):=by
   refine⟨fun b=>Iff.rfl,HV.out.lt,one_setCell x9, ?_, ?_,(Below.heap_setCell _ _ _ _ (by show l≠bo;omega)).trans ((b8 l (by omega) g6).trans HV.out.lp)⟩
   ·have hn:=(D9.push o7 (by rw[←HQ.out];exact a3) b0);have he:LL.take (i+1)=LL.take i++[law]:=by rw[List.take_add_one,g0.out];rfl
    rw[he];exact hn.block (by simp) fun b e=>Below.heap_setCell _ _ _ _ (by have:=(hn.1.lt b e).1;show b≠bo;omega)
   ·exact((HV.out.kp.below a2 rr).grown b0 fun b e=> .inr (HV.out.own.1.lt b e).1).setCell (p:=⟨bo,0,none⟩) (.inl rfl) _
  have i8:Hid (Ba T X (X2.setCell ⟨bo,0,none⟩ (.slice A9 (q+1) c9))):=
   ((f5.out.below a2 rr).grown b0 fun b e=> .inl ((HV.out.tw b).2 (.inr (.inr e)))).setCell (p:=⟨bo,0,none⟩) ((HV.out.tw bo).2 (.inl rfl)) _
  have i7:Hid (∀b,(b=bo\/b=l\/(Value.slice A9 (q+1) c9).ownBlock=some b)->T b\/X.heap.size<=b):=by
   rintro b (e|e|e)
   ·exact .inl ((HV.out.tw b).2 (.inl e))
   ·exact .inl ((HV.out.tw b).2 (.inr (.inl e)))
   ·rcases g3 with h|h
    ·exact .inl ((HV.out.tw b).2 (.inr (.inr (h▸e))))
    ·rw[h]at e;injection e with e
     right;rw[←g1.out,←e];exact a2.size
  clear o7' a3 b0 g3 b8 f1 a7 g6 x9 o7 z1 a2 d0 d6 f5 g1 HV d3
  (try simp only[Act.put,nY,nX])
  (refine Anv 8 rfl (fun K' hK'=> ?_);simp only[nY];go_simp)
  refine hK' _ _ ⟨.inl (by kernel_rfl),fun _=>Bf (by kernel_rfl) ?_ _⟩
  clear hK' K' f9 c9';generalize X2.setCell ⟨bo,0,none⟩ (.slice A9 (q+1) c9)=Y at*;gi_wp2;refine⟨f4.out.lp,rfl, ?_⟩;rw[HJ.out];exact⟨_,⟨_,f4.out.put .ready⟩,i8.out.putObj ((HX.out.tw l).2 (.inr (.inl rfl))) _,i7.out⟩
 rintro e W' ⟨⟨v,rfl⟩,T,hj⟩;rw[HJ.out]at hj;obtain⟨v9,hj⟩:=hj;refine .inl ⟨hj.lp, ?_⟩;have xC:=hj.put .exhausted;generalize W'.putObj l (.loop (rc .exhausted none))=X at*;have a8:LL.take (Lx n rs (Aj ys) a now).length=LL:=by rw[←a0,g4.out,List.take_of_length_le (by simp)]
 rw[a8]at xC;obtain⟨A9,k9,rfl⟩:=xC.own.form;have c1:=cell_of_one xC.out;have XC:=hI xC;clear hj xC a8 b7 a0;gi_wp2;have hM:D4 w.heap.size X [Le D]:=⟨D,rfl,by omega,(XC.out.kp.block D (by omega) (by omega)).trans i6.out,by simp,trivial⟩;have hX:Below w.heap.size w X:=a6.out.trans (XC.out.kp.to_below (fun b hb=>by omega) a6.out.size);refine Mi (B:=w.heap.size) Tryz.results59 (.slice A9 LL.length k9) rfl hM fun w' hw'=>⟨A9,k9,by rw[g5.out], ?_,hX.trans hw'.below⟩
 rw[←g5.out];exact Az.of_own (Pl XC.out.own.1 hw') (by decide)
end Go.Proofs.YtaglfmlgbcmakaaGreatDoor
namespace Go.Proofs.YtaglfmlgbcmakaaGreatDoor
open Go.RowKit Go.Shelf
theorem Alb (b n:Nat)(rs:List Bk)(Ax:Option Addr)(nx cx:Nat)(xs:List Cb)(A:Option Addr)(m c:Nat)(ys:List Cs)(aa now:Int)(w:World)(hm:Dr w b n rs)(hx:Cf w Ax nx cx xs)(hy:Cm w A m c ys)(hT:Cw w)(h19:m<=19\/64<m):
  Calls Tryz.prog 29 #[.pointer (some ⟨b,0,none⟩), .slice Ax nx cx, .slice A m c, .int .i64 aa, .int .i64 now] w (Jk w (Qa n rs (Au xs) (Aj ys) aa now)):=by
 obtain⟨An,cn,mb,Ar,cr,Aq,cq,c0,c1,c2,c3⟩:=hm.cells;have b4:=hm.lt;have HM:=hI hm;have HX:=hI hx;have HY:=hI hy;have HT:=hI hT;have HC:=hI c0;have a9:(Aj ys).length=m:=by rw[Aj,List.length_map];exact hy.len
 have d0:=hI a9;have b7:=hI h19;clear hm hx hy hT c0 c1 c2 c3 a9 h19;go_enter Tryz.func29,Tryz.ntmps29;go_wp2_with fail;refine(N0 b n rs Ax nx cx xs A m c ys w HM.out HX.out HY.out HT.out).mono ?_;obtain⟨er,a4⟩:∃er,er=Dy n (Au xs) (Aj ys):=⟨_,rfl⟩;rw[←a4];rintro e w1 ⟨rfl,b1⟩;have a1:=hI b1;have a3:=hI a4;clear b1 a4;by_cases he0:er=0
 ·have b9:(er !=0)=false:=by simp[he0]
  have a5:Hid (Dy n (Au xs) (Aj ys)=0):=by show _=_;rw[←a3.out,he0]
  have HV:Hid (Qa n rs (Au xs) (Aj ys) aa now=if aa<0\/(n:Int)<=aa then(3,[])else(0,Jd n rs (Aj ys) aa.toNat now)):=by
   show _=_;unfold Qa;rw[if_neg (by rw[a5.out];simp)]
  have a8:m<=19:=by have:=(F1 a5.out).2.2.1;rw[d0.out]at this;have:=b7.out;omega
  have a6:Hid (∀y∈ys,Em n y.d=0):=fun y hy=>((F1 a5.out).2.2.2 y.d (List.mem_map.2 ⟨y,hy,rfl⟩)).2.2
  clear a3 he0;by_cases hk0:aa<0
  ·have a0:Hid (Qa n rs (Au xs) (Aj ys) aa now=(3,[])):=by show _=_;rw[HV.out,if_pos (.inl hk0)]
   go_wp2
   go_ret2
   exact Jk.bad a0.out a1.out
  ·go_wp2_with fail;refine(Lm b An n cn w1 ((a1.out.cell (p:=⟨b,0,none⟩) b4).trans HC.out)).mono ?_;rintro e w2 ⟨rfl,b0⟩;have a2:=hI (a1.out.trans (b0.mono a1.out.size));clear b0 a1;by_cases hkm:(n:Int)<=aa
   ·have a0:Hid (Qa n rs (Au xs) (Aj ys) aa now=(3,[])):=by show _=_;rw[HV.out,if_pos (.inr hkm)]
    go_wp2
    go_ret2
    exact Jk.bad a0.out a2.out
   ·obtain⟨k,rfl⟩:∃k:Nat,aa=k:=⟨aa.toNat,by omega⟩;have b3:k<n:=by omega
    have b5:¬(n:Int)<=(k:Int):=by omega
    have a0:Hid (Qa n rs (Au xs) (Aj ys) k now=(0,Jd n rs (Aj ys) k now)):=by
     show _=_;rw[HV.out,if_neg (by omega)];rfl
    clear HV;go_wp2_with fail;refine(Ajc b n rs A m c ys k now w2 (HM.out.below a2.out) (HY.out.below a2.out) a6.out b3 a8).mono ?_;rintro e w3 ⟨A3,c3,rfl,a7,b2⟩;obtain⟨q,hq⟩:∃q,q=(Jd n rs (Aj ys) k now).length:=⟨_,rfl⟩;rw[←hq]at a7 ⊢;have b8:=hI a7;have b6:=hI (a2.out.trans (b2.mono a2.out.size));clear a7 b2 hq;go_wp2
    go_ret2
    exact⟨A3,q,c3,by rw[a0.out];rfl,by rw[a0.out];exact b8.out,b6.out⟩
 ·have b9:(er !=0)=true:=by simpa using he0
  have HV:Hid (Qa n rs (Au xs) (Aj ys) aa now=(er,[])):=by show _=_;unfold Qa;rw[if_pos (by rw[←a3.out];exact he0),a3.out]
  go_wp2
  go_ret2
  exact Jk.bad HV.out a1.out
end Go.Proofs.YtaglfmlgbcmakaaGreatDoor
namespace Go.Proofs.YtaglfmlgbcmakaaGreatDoor
open Go.RowKit
def R8 (w:World)(A:Option Addr)(n:Nat):Prop:=0<n→∀ad,A=some ad→∃cs t,w.heap[ad.block]? =some (.cells cs t (0,0))
theorem R8.of_own {w:World}{base:Nat}{t:TypeId}{sz n c m:Nat}{A:Option Addr}{xs:List Value}(h:w.ownsRow base t sz (.slice A n c) m xs):R8 w A n:=fun _ ad had=>by
 rcases h.2 with⟨e,_⟩|⟨g,cap,cur,e,_,hg,_⟩
 ·injection e with e _ _
  rw[had]at e;cases e
 ·injection e with e _ _
  rw[had]at e;injection e with e
  subst e;exact⟨_,_,hg⟩
theorem R8.keep {w w':World}{A:Option Addr}{n:Nat}(h:R8 w A n)(hb:0<n→∀ad,A=some ad->w'.heap[ad.block]? =w.heap[ad.block]?):R8 w' A n:=fun hn ad had=>by
 obtain⟨cs,t,hc⟩:=h hn ad had;exact⟨cs,t,(hb hn ad had).trans hc⟩
theorem R8.below {w w':World}{A:Option Addr}{n:Nat}(h:R8 w A n)(hb:Below w.heap.size w w'):R8 w' A n:=fun hn ad had=>by
 obtain⟨cs,t,hc⟩:=h hn ad had;exact⟨cs,t,(hb.block _ (lt_of_block hc)).trans hc⟩
def Afs (w:World)(xs:List Snd)(e:Ending)(w':World):Prop:=
 ∃A n c,e= .returned (.slice A n c)/\Ak w' A n c xs/\Below w.heap.size w w'/\(∀ad,A=some ad->w.heap.size<=ad.block)/\R8 w' A n
theorem X7 (A:Option Addr)(n c:Nat)(xs:List Snd)(w:World)(hx:Ak w A n c xs)(hb:n<=4096):
  Calls Tryz.prog 60 #[.slice A n c] w (Afs w xs):=by
 have HX:=hI hx;clear hx
 cases A with
 |none=>
  have a1:c=0:=HX.out.2.2.2.1 rfl;have a2:n=0:=by have:=HX.out.2.1;omega
  subst a1 a2;go_enter Tryz.func60,Tryz.ntmps60;go_wp2;go_ret;obtain rfl:xs=[]:=List.eq_nil_of_length_eq_zero HX.out.len;exact⟨none,0,0,rfl,Az.nil _ _,Below.refl _ _,(fun _ h=>by cases h),fun _ _ h=>by cases h⟩
 |some ad=>
  go_enter Tryz.func60,Tryz.ntmps60;go_wp2_with(at_builtin;refine D1 rfl (.tmp 5) (.tmp 6) rfl w.heap.size _ 0 [] rfl (World.ownsRow_made w #[] 0 rr (by simp[maxLen]) rfl) (some ad) n c xs rfl (HX.out.below (B:=w.heap.size) bel rr) (by omega) (by simp) ?_;intro v1 w1 a0 a4 _);go_ret;have a3:=E3 (B:=w.heap.size) (w0:=w) bel (World.ownsRow_made (e:=49) (size:=2) w #[] 0 rr (by simp[maxLen]) rfl) a4 rr (by simp);have ho:w1.ownsRow w.heap.size 49 2 v1 n (B6 xs):=by simpa using a0
  obtain⟨A1,c1,rfl⟩:=Bh ho;exact⟨A1,n,c1,rfl,Az.of_own ho (by decide),a3,(fun ad had=>by subst had;exact(ho.lt ad.block rfl).1),R8.of_own ho⟩
end Go.Proofs.YtaglfmlgbcmakaaGreatDoor
namespace Go.Proofs.YtaglfmlgbcmakaaGreatDoor
open Go.RowKit Go.Shelf Go.Maps Go.WideMaps
def U0 (v:Value):Option (DataW Value×List MemPlace):=some (.held v,[])
def Kg (L:List Int):List UInt8:=L.map fun x=>UInt8.ofNat x.toNat
def Qf (L:List Int):Lit:= .string (Kg L)
def Rk (L:List Int):Prop:=∀x∈L,0<=x/\x<256
theorem Va:∀{L L':List Int},Rk L->Rk L'->Kg L=Kg L'->L=L'
 |[],[],_,_,_=>rfl
 |[],y::ys,_,_,e=>by cases e
 |x::xs,[],_,_,e=>by cases e
 |x::xs,y::ys,h,h',e=>by
  simp only[Kg,List.map_cons,List.cons.injEq]at e;have hx:=h x (List.mem_cons_self ..);have hy:=h' y (List.mem_cons_self ..)
  have e1:x=y:=by
   have:=congrArg UInt8.toNat e.1
   simp only[UInt8.toNat_ofNat']at this;omega
  rw[e1,Va (fun z hz=>h z (List.mem_cons_of_mem _ hz)) (fun z hz=>h' z (List.mem_cons_of_mem _ hz)) e.2]
theorem Agb {L L':List Int}(h:Rk L)(h':Rk L')(e:Qf L=Qf L'):L=L':=by
 injection e with e
 exact Va h h' e
theorem Yj (L:List Int)(hl:L.length<=4096):keyOf Tryz.prog 9 (.string ⟨(Kg L).toArray⟩)=some (Qf L):=by
 have h:=keyOf_string_mk (P:=Tryz.prog) (k:=9) (s:=⟨(Kg L).toArray⟩) Tryz.underlying9 (by
  show((Kg L).toArray).size<=maxLen;rw[List.size_toArray];unfold Kg maxLen;rw[List.length_map];omega)
 rw[h];rfl
theorem Yk {w:World}{B:Nat}{v:Value}{L:List Int}(hu:Rk L)(h:w.ownsRow B 5 1 v L.length (L.map (Value.int .u8))):(convert 102 9 v).run Tryz.prog w= .ok (.string ⟨(Kg L).toArray⟩) w:=by
 rcases h.2 with⟨rfl,e⟩|⟨g,cap,cur,rfl,_,hg,h1,h2,h3,h4⟩
 ·obtain rfl:L=[]:=List.length_eq_zero_iff.1 e;rw[run_convert_bytes_string w 102 9 5 none 0 0 Tryz.underlying102 Tryz.underlying5 Tryz.underlying9];simp[Conv.bytesToString,Kg];rfl
 ·have hb:(Kg L).length=L.length:=List.length_map _;rw[←hb];refine run_convert_bytes_back w 102 9 5 ⟨g,0,none⟩ cap (Kg L) Tryz.underlying102 Tryz.underlying5 Tryz.underlying9 fun j hj=> ?_
  have a0:j<L.length:=by rw[←hb];exact hj
  rw[Ht,Nat.zero_add];refine Ad hg ?_;rw[Nat.mul_one]at h4;have h5:=congrArg (fun l:List Value=>l[j]?) h4;simp only[List.getElem?_take,if_pos a0,List.getElem?_map,List.getElem?_eq_getElem a0,Option.map_some]at h5;have h6:cur[j]? =some (.int .u8 L[j]):=by simpa using h5
  rw[h6];have hx:=hu L[j] (List.getElem_mem _)
  have:((Kg L)[j].toNat:Int)=L[j]:=by
   simp only[Kg,List.getElem_map,UInt8.toNat_ofNat'];omega
  rw[this]
def N8 (B bm:Nat)(vo:Value)(W:World)(A:Option Addr)(n:Nat):Prop:=0<n→∀ad,A=some ad->B<=ad.block/\ad.block≠bm/\vo.ownBlock≠some ad.block/\ad.block<W.heap.size
structure Je (B bm i:Nat)(ls:List Bi)(ws:List Snd)(vo:Value)(ps:List Part)(D:DataW Value)(W:World):Prop where
 lb:B<=bm
 om:W.ownsMap Tryz.prog 9 U0 bm i D
 im:IsMap D
 wd:∀L,Rk L->Go.Maps.has D (Qf L)=true→∃A n c,D.atKey (Qf L) (.held (.slice none 0 0))= .held (.slice A n c)/\Ak W A n c (Bz (En ls L) ws).2/\(Bz (En ls L) ws).1=0/\N8 B bm vo W A n
 oo:W.ownsRow B 28 1 vo ps.length (ps.map Part.val)
 pp:Hu W ps
 pd:∀p∈ps,N8 B bm vo W p.1 p.2.1
 pu:∀p∈ps,R8 W p.1 p.2.1
 sz:B<=W.heap.size
section
variable {B bm i:Nat}{ls:List Bi}{ws:List Snd}{vo vo':Value}{ps:List Part}{D:DataW Value}{W W':World}
theorem Wp {n:Nat}{H:Type}{R:Value->Option (DataW H×List MemPlace)}{D:DataW H}{k:TypeId}(h:W.ownsMap Tryz.prog k R bm n D)(hb:W'.heap[bm]? =W.heap[bm]?):W'.ownsMap Tryz.prog k R bm n D:=by
 obtain⟨es,clock,h1,h2⟩:=h;exact⟨es,clock,hb.trans h1,h2⟩
theorem N8.up {A:Option Addr}{n:Nat}(h:N8 B bm vo W A n)(hs:W.heap.size<=W'.heap.size):N8 B bm vo W' A n:=fun hn ad had=>by
 obtain⟨h1,h2,h3,h4⟩:=h hn ad had;exact⟨h1,h2,h3,Nat.lt_of_lt_of_le h4 hs⟩
theorem Je.mono (h:Je B bm i ls ws vo ps D W){j:Nat}(hj:i<=j):Je B bm j ls ws vo ps D W:=⟨h.lb,h.om.mono hj,h.im,h.wd,h.oo,h.pp,h.pd,h.pu,h.sz⟩
theorem Je.below (h:Je B bm i ls ws vo ps D W)(hb:Below W.heap.size W W'):Je B bm i ls ws vo ps D W':=
 ⟨h.lb,Wp h.om (hb.block bm h.om.lt),h.im,fun L hL hh=>by
   obtain⟨A,n,c,h1,h2,h3,h4⟩:=h.wd L hL hh;exact⟨A,n,c,h1,h2.below hb rr,h3,h4.up hb.size⟩,
  Bj h.oo fun k e=>hb.block k (h.oo.lt k e).2,fun p hp=>(h.pp p hp).below hb rr,fun p hp=>(h.pd p hp).up hb.size,fun p hp=>(h.pu p hp).below hb,Nat.le_trans h.sz hb.size⟩
theorem Je.noMap (h:Je B bm i ls ws vo ps D W):vo.ownBlock≠some bm:=by
 intro e;obtain⟨es,clock,h1,_⟩:=h.om;rcases h.oo.2 with⟨rfl,_⟩|⟨g,cap,cur,rfl,_,hg,_⟩
 ·cases e
 ·obtain rfl:g=bm:=Option.some.inj e;rw[hg]at h1;cases h1
theorem Je.put (h:Je B bm i ls ws vo ps D W){L:List Int}(hL:Rk L){A:Option Addr}{n c:Nat}(hw:Ak W A n c (Bz (En ls L) ws).2)(h0:(Bz (En ls L) ws).1=0)(hf:N8 B bm vo W A n)
  (hm:W'.ownsMap Tryz.prog 9 U0 bm (i+1) (D.put (Qf L) (.held (.slice A n c)))) (hg:W.grownBy W' (some bm)):Je B bm (i+1) ls ws vo ps (D.put (Qf L) (.held (.slice A n c))) W'/\Ak W' A n c (Bz (En ls L) ws).2/\N8 B bm vo W' A n:=by
 have a2:=h.noMap;have hk:Ba (fun k=>k=bm) W W':=⟨hg.os,hg.tape,hg.output,hg.size,fun k hk hn=>hg.block k hk (fun e=>hn (by injection e))⟩
 have a1:∀{A':Option Addr} {n' c':Nat} {x:List Snd},Ak W A' n' c' x->N8 B bm vo W A' n'->Ak W' A' n' c' x:=fun hw hn=>hw.keep hk fun hp ad had e=>(hn hp ad had).2.1 e
 refine⟨⟨h.lb,hm,h.im.put _ _,fun L' hL' hh=> ?_,Bj h.oo fun k e=>hg.block k (h.oo.lt k e).2 (fun e'=>by injection e' with e';subst e';exact a2 e),fun p hp=>a1 (h.pp p hp) (h.pd p hp),fun p hp=>(h.pd p hp).up hg.size,fun p hp=>(h.pu p hp).keep fun hn ad had=>hg.block ad.block (h.pd p hp hn ad had).2.2.2 (fun e=>by injection e with e;exact(h.pd p hp hn ad had).2.1 e),Nat.le_trans h.sz hg.size⟩,a1 hw hf,hf.up hg.size⟩
 by_cases e:L'=L
 ·subst e;exact⟨A,n,c,atKey_put_same h.im (show WideAt.IsKeyLit (Qf L')from trivial) _ _,a1 hw hf,h0,hf.up hg.size⟩
 ·have a0:Qf L'≠Qf L:=fun e'=>e (Agb hL' hL e')
  rw[has_put_other a0]at hh;obtain⟨A',n',c',h1,h2,h3,h4⟩:=h.wd L' hL' hh;exact⟨A',n',c',by rw[atKey_put_other a0];exact h1,a1 h2 h4,h3,h4.up hg.size⟩
theorem Je.push (h:Je B bm i ls ws vo ps D W){p:Part}(hw:Ak W p.1 p.2.1 p.2.2.1 p.2.2.2)(hf:N8 B bm vo W p.1 p.2.1)(hu:R8 W p.1 p.2.1)
  (hown:W'.ownsRow B 28 1 vo' (ps.length+1) (ps.map Part.val++[p.val])) (hg:W.grownBy W' vo.ownBlock) (a1:vo'.ownBlock=vo.ownBlock\/vo'.ownBlock=some W.heap.size):Je B bm i ls ws vo' (ps++[p]) D W':=by
 have hk:Ba (fun k=>vo.ownBlock=some k) W W':=⟨hg.os,hg.tape,hg.output,hg.size,fun k hk hn=>hg.block k hk (fun e=>hn e.symm)⟩
 have a0:∀{A:Option Addr} {n:Nat},N8 B bm vo W A n->N8 B bm vo' W' A n:=fun h hn ad had=>by
  obtain⟨h1,h2,h3,h4⟩:=h hn ad had;refine⟨h1,h2,fun e=> ?_,Nat.lt_of_lt_of_le h4 hg.size⟩
  rcases a1 with h'|h'
  ·exact h3 (h'▸e)
  ·rw[h']at e;injection e with e;omega
 refine⟨h.lb,Wp h.om (hg.block bm h.om.lt fun e=>h.noMap e.symm),h.im,fun L hL hh=> ?_,by rw[List.length_append,List.map_append];exact hown, ?_, ?_, ?_,Nat.le_trans h.sz hg.size⟩
 ·obtain⟨A',n',c',h1,h2,h3,h4⟩:=h.wd L hL hh;exact⟨A',n',c',h1,h2.keep hk fun hn ad had=>(h4 hn ad had).2.2.1,h3,a0 h4⟩
 ·intro q hq;rcases List.mem_append.1 hq with hq|hq
  ·exact(h.pp q hq).keep hk fun hn ad had=>(h.pd q hq hn ad had).2.2.1
  ·obtain rfl:q=p:=by simpa using hq
   exact hw.keep hk fun hn ad had=>(hf hn ad had).2.2.1
 ·intro q hq;rcases List.mem_append.1 hq with hq|hq
  ·exact a0 (h.pd q hq)
  ·obtain rfl:q=p:=by simpa using hq
   exact a0 hf
 ·intro q hq;rcases List.mem_append.1 hq with hq|hq
  ·exact(h.pu q hq).keep fun hn ad had=>hg.block ad.block (h.pd q hq hn ad had).2.2.2 (fun e=>(h.pd q hq hn ad had).2.2.1 e.symm)
  ·obtain rfl:q=p:=by simpa using hq
   exact hu.keep fun hn ad had=>hg.block ad.block (hf hn ad had).2.2.2 (fun e=>(hf hn ad had).2.2.1 e.symm)
end
def N9 (w:World)(r:Int×List (List Snd))(e:Ending)(w':World):Prop:=
 ∃A c,∃ps:List Part,e= .returned (.tuple #[.slice A ps.length c, .int .i64 r.1])/\ps.map Part.word=r.2/\w'.ownsRow w.heap.size 28 1 (.slice A ps.length c) ps.length (ps.map Part.val)/\Hu w' ps∧
  (∀p∈ps,0<p.2.1→∀ad,p.1=some ad->w.heap.size<=ad.block/\(Value.slice A ps.length c).ownBlock≠some ad.block∧∃cs t,w'.heap[ad.block]? =some (.cells cs t (0,0)))/\Below w.heap.size w w'
theorem N9.bad {w w':World}{r:Int×List (List Snd)}{er:Int}(h:r=(er,[]))(hb:Below w.heap.size w w'):N9 w r (.returned (.tuple #[.slice none 0 0, .int .i64 er])) w':=by
 subst h;exact⟨none,0,[],rfl,rfl,World.ownsRow_nil _ _ _ _,(fun p hp=>absurd hp (List.not_mem_nil)),(fun p hp=>absurd hp (List.not_mem_nil)),hb⟩
end Go.Proofs.YtaglfmlgbcmakaaGreatDoor
