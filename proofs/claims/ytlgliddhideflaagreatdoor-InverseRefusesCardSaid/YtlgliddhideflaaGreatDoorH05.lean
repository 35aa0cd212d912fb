/-
  inverse.became: each word of an alphabet with so many sounds that does not become too long, with what it becomes, is handed to a function.
  inverse.Fixed: how many words a law leaves as they are.
  inverse.Image: its closures.
  slices.CompactFunc over words, as inverse.Image calls it.
  inverse.Image.
  A word that does not lie in a row of one's own.
  Pairs of words, in a slice of one's own.
  A text for each word, different ones for different words; a map from texts to places, in plain words.
-/
import Derived.Lib.SliceRun
import Derived.Maps.Views
import Derived.Test.YtlgliddhideflaaGreatDoorH04
import Derived.Test.YtlgliddhideflaaGreatDoorG38
set_option linter.all false
set_option maxRecDepth 100000
set_option maxHeartbeats 4000000
namespace Go.Proofs.YtlgliddhideflaaGreatDoor
open Go.RowKit Go.Shelf
attribute [local go_sem] Oper.semAt_some
structure Adr (F:Nat)(lb:Array Value)(A:Option Addr)(n c:Nat)(xs:List Bu)(As:Option Addr)(ns cs:Nat)(ss:List Snd)(k:Nat)(B:Nat)(J:Nat->(Nat->Prop)->World->Prop):Prop where
 hB:∀i T W,J i T W->B<=W.heap.size
 hlt:∀i T W,J i T W→∀b,T b->b<W.heap.size
 hst:∀i T W W',J i T W->Ae (fun b=>B<=b∧¬T b) W W'->J i T W'
 hnd:∀i T W,J i T W→∀b,T b→∀x,W.heap[b]? ≠some (.deferred x)
 hrd:∀i T W,J i T W->Bw W A n c xs/\Ab W As ns cs ss/\B7 W
 hy:∀i T W Af nf cf x At nt ct y,Bg (Am xs) [] ss=0->k<=4->(Ce (Am xs) ss k)[i]? =some (x,y)->Ab W Af nf cf x->Ab W At nt ct y->(∀ad,Af=some ad->B<=ad.block∧¬T ad.block)->(∀ad,At=some ad->B<=ad.block∧¬T ad.block)->J i T W→
  Calls Tryz.prog F (#[.slice Af nf cf, .slice At nt ct]++lb) W (fun e W''=>(∃v,e= .returned v)/\Ae T W W''∧∃T',J (i+1) T' W''∧∀b,T' b->T b\/W.heap.size<=b\/(0<nf∧∃ad,Af=some ad/\ad.block=b)\/(0<nt∧∃ad,At=some ad/\ad.block=b))
theorem Qn {ls:List Av}{ss:List Snd}{n:Int}(h:Bg ls [] ss≠0):Cb ls ss n=Bg ls [] ss:=by unfold Cb;rw[if_pos h]
theorem Mt {ls:List Av}{ss:List Snd}{n:Int}(h:Bg ls [] ss=0)(hn:n<0\/4<n):Cb ls ss n=3:=by unfold Cb;rw[if_neg (by simpa using h),if_pos hn]
theorem Zm {ls:List Av}{ss:List Snd}{n:Int}(h:Bg ls [] ss=0)(hn:¬(n<0\/4<n)):Cb ls ss n=0:=by unfold Cb;rw[if_neg (by simpa using h),if_neg hn]
theorem Nk (A:Option Addr)(n c:Nat)(xs:List Bu)(As:Option Addr)(ns cs:Nat)(ss:List Snd)(k:Int)(F:Nat)(lb:Array Value)(w:World)(J:Nat->(Nat->Prop)->World->Prop)(T0:Nat->Prop)
  (H:Adr F lb A n c xs As ns cs ss k.toNat w.heap.size J) (h0:J 0 T0 w) (hE:Enters Tryz.prog F):
  Calls Tryz.prog 112 #[.slice A n c, .slice As ns cs, .int .i64 k, .func (.func F) #[] lb] w fun e w'=>e= .returned (.int .i64 (Cb (Am xs) ss k))∧∃i T,J i T w'/\(Cb (Am xs) ss k=0->i=(Ce (Am xs) ss k.toNat).length):=by
 obtain⟨q1,q2,q3⟩:=H.hrd _ _ _ h0;have d8:=H.hlt _ _ _ h0;have HX:=hI q1;have HS:=hI q2;have HT:=hI q3;have HU:=hI H;clear H;have H0:=hI h0;clear h0;have i3:=hI d8;clear d8;clear q1 q2 q3;unfold Enters at hE;refine(callsIn_wide (n:=9)).1 (callsIn_of_wp_marks Tryz.func112 rfl trivial ?_ rfl);simp only[Tryz.ntmps112,List.size_toArray,List.length_cons,List.length_nil,Nat.reduceAdd,Nat.reduceSub,Array.replicate_succ,Array.replicate_zero,List.push_toArray,List.append_toArray,List.nil_append,List.cons_append];gi_wp2;have k0:((w.alloc (.cells #[.slice A n c] 35)).alloc (.cells #[.func (.func F) #[] lb] 148)).heap[w.heap.size]? =some (.cells #[.slice A n c] 35 (0,0)):=hpt;have k1:((w.alloc (.cells #[.slice A n c] 35)).alloc (.cells #[.func (.func F) #[] lb] 148)).heap[w.heap.size+1]? =some (.cells #[.func (.func F) #[] lb] 148 (0,0)):=hpt;have kB:Below w.heap.size w ((w.alloc (.cells #[.slice A n c] 35)).alloc (.cells #[.func (.func F) #[] lb] 148)):=bel;generalize((w.alloc (.cells #[.slice A n c] 35)).alloc (.cells #[.func (.func F) #[] lb] 148))=V0 at*;refine⟨trivial, ?_⟩;refine(callsIn_wide.2 (Ng A n c xs none 0 0 [] As ns cs ss V0 (HX.out.below kB rr) (Bb.nil _ _) (HS.out.below kB rr))).mono ?_;rintro e w1 ⟨rfl,b6⟩;have K0:=hI ((b6.block _ (lt_of_block k0)).trans k0);have K1:=hI ((b6.block _ (lt_of_block k1)).trans k1);have f8:=hI (kB.trans (b6.mono kB.size));have m5:=lt_of_block K1.out;have a3:=hI (HU.out.hst _ _ _ _ H0.out (Aj f8.out));clear k0 k1 kB b6;obtain⟨er,d5⟩:∃er,er=Bg (Am xs) [] ss:=⟨_,rfl⟩;rw[←d5];have b7:=hI d5;clear d5;by_cases h0:er=0
 case neg=>
  have h1:(er !=0)=true:=by simpa using h0
  have HM:Hid (Cb (Am xs) ss k=er):=by show Cb _ _ _=_;rw[b7.out];exact Qn (by rw[←b7.out];exact h0)
  have i7:=hI h0;clear h0;gi_wp2;exact Ev (B:=w.heap.size) Tryz.results112 _ rfl trivial fun w' hw'=>⟨by rw[HM.out];rfl,0,T0,HU.out.hst _ _ _ _ a3.out (Di hw' (HU.out.hnd _ _ _ a3.out)),fun h=>absurd (HM.out.symm.trans h) i7.out⟩
 have h1:(er !=0)=false:=by simpa using h0
 have j2:Hid (B2 ss=0):=(C4 (by rw[←b7.out];exact h0)).2.2;have b8:Hid (Bg (Am xs) [] ss=0):=by show _=_;rw[←b7.out];exact h0
 clear h0;by_cases hr:k<0\/4<k
 case pos=>
  have HM:Hid (Cb (Am xs) ss k=3):=Mt b8.out hr;rcases hr with hr|hr
  ·gi_wp2;exact Ev (B:=w.heap.size) Tryz.results112 _ rfl trivial fun w' hw'=>⟨by rw[HM.out];rfl,0,T0,HU.out.hst _ _ _ _ a3.out (Di hw' (HU.out.hnd _ _ _ a3.out)),fun h=>absurd (HM.out.symm.trans h) (by decide)⟩
  ·have j3:¬k<0:=by omega
   gi_wp2;exact Ev (B:=w.heap.size) Tryz.results112 _ rfl trivial fun w' hw'=>⟨by rw[HM.out];rfl,0,T0,HU.out.hst _ _ _ _ a3.out (Di hw' (HU.out.hnd _ _ _ a3.out)),fun h=>absurd (HM.out.symm.trans h) (by decide)⟩
 have HM:Hid (Cb (Am xs) ss k=0):=Zm b8.out hr;obtain⟨kn,b9⟩:∃kn:Nat,k=kn:=⟨k.toNat,by omega⟩;subst b9;have j3:¬(kn:Int)<0:=by omega
 have m8:¬(4:Int)<(kn:Int):=by omega
 simp only[Int.toNat_natCast]at HU a3 ⊢;gi_wp2;refine⟨trivial, ?_⟩;refine(callsIn_wide.2 (Xg As ns cs kn w1)).mono ?_;rintro e w2 ⟨rfl,k2,k1,b1,d1⟩;have KA:=hI k1;have KN:=hI k2;have a0:=hI b1;clear k1 k2 b1;gi_wp2;refine Cv (gf:=189) (lb:= #[.pointer (some ⟨w1.heap.size+1,0,none⟩), .pointer (some ⟨w1.heap.size,0,none⟩)]) rfl (enters_of Tryz.func189 (by kernel_rfl) rfl) fun fn D l rc W1 hrc hD hl hK2 hD1 hl1 hs2=> ?_
 have j5:=hI hrc;clear hrc;have k9:D<l:=by omega
 have f2:l<W1.heap.size:=by omega
 have m1:w1.heap.size+1<D:=by omega
 clear hs2 hD hl d1;have k7:=f8.out.size;have b0:Ae (fun _=>False) w1 W1:=(Aj a0.out).trans hK2;have m6:=b0.size;have m0:=hI b0;have k11:=(hK2.block _ (lt_of_block KN.out) (by simp)).trans KN.out;have k21:=(hK2.block _ (lt_of_block KA.out) (by simp)).trans KA.out;have k00:=(b0.block _ (lt_of_block K0.out) (by simp)).trans K0.out;have k01:=(b0.block _ (lt_of_block K1.out) (by simp)).trans K1.out;have j8:=hI (HU.out.hst _ _ _ _ a3.out (b0.mono fun _ h=>h.elim));have d4:Hid (∀b,T0 b->b<w.heap.size):=i3;have j4:=hI k11;have g5:=hI k21;have g7:=hI k00;have j6:=hI k01;have k4:=hI hD1;have g6:=hI hl1;clear b0 hK2 k11 k21 k00 k01 hD1 hl1;obtain⟨Mine,a5⟩:∃Mine:Nat->Prop,Mine=fun b=>w.heap.size<=b/\b<W1.heap.size:=⟨_,rfl⟩
 have a6:∀b,Mine b↔w.heap.size<=b/\b<W1.heap.size:=fun b=>by rw[a5]
 clear a5;have b3:=(a6 l).2 ⟨by omega,f2⟩;have i1:=(a6 D).2 ⟨by omega,by omega⟩;have i5:=(a6 w1.heap.size).2 ⟨by omega,by omega⟩;have k3:=(a6 (w1.heap.size+1)).2 ⟨by omega,by omega⟩;have i8:=(a6 w.heap.size).2 ⟨by omega,by omega⟩;have i0:=(a6 (w.heap.size+1)).2 ⟨by omega,by omega⟩;have b4:=hI a6;clear a6
 obtain⟨JJ,d9⟩:∃JJ:Nat->(Nat->Prop)->World->Prop,JJ=fun i T' X=>∃T1:Nat->Prop,T'=(fun b=>T1 b\/b=l)/\J (C0 (Am xs) ((Cp (B3 ss) kn).take i)).length T1 X/\(∀b,Mine b→¬T1 b)/\(∀b,Mine b->b≠l->X.heap[b]? =W1.heap[b]?)∧
   X.heap[l]? =some (.loop (rc .ready none))/\W1.heap.size<=X.heap.size:=⟨_,rfl⟩
 have a4:=hI d9;clear d9;have d6:=Bz j2.out;have i2:Hid ss.Nodup:=d6.2.2;have j0:ns<=5:=by rw[←HS.out.len];exact d6.1
 clear d6;refine(M0 (9-1) l (w1.heap.size+1) w1.heap.size (by omega) As ns cs ss kn W1.heap.size W1 JJ (fun _=>False) (fun b=>T0 b\/b=l) ?hu ?h0 j0 (by omega) i2.out).mono ?_
 case h0=>
  rw[a4.out];exact⟨T0,rfl,j8.out,fun b hb h=>by have:=(b4.out b).1 hb;have:=d4.out b h;omega,fun b _ _=>rfl,g6.out,rr⟩
 case hu=>
  refine⟨?hB, ?hlt, ?hst, ?hrd, ?hy⟩
  case hB=>
   intro i T' X hx;rw[a4.out]at hx;obtain⟨T1,rfl,h1,h2,h3,h4,h5⟩:=hx;exact h5
  case hlt=>
   intro i T' X hx b hb;rw[a4.out]at hx;obtain⟨T1,rfl,h1,h2,h3,h4,h5⟩:=hx;rcases hb with hb|rfl
   ·exact HU.out.hlt _ _ _ h1 b hb
   ·exact lt_of_block h4
  case hst=>
   intro i T' X X' hx d3;rw[a4.out]at hx ⊢;obtain⟨T1,rfl,h1,h2,h3,h4,h5⟩:=hx;have ho:∀b,b<W1.heap.size->X'.heap[b]? =X.heap[b]? :=fun b hb=>d3.block b (by omega) (fun h=>by have:=h.1;omega)
   exact⟨T1,rfl,HU.out.hst _ _ _ _ h1 (d3.mono fun b hb=>⟨by have:=hb.1;omega,fun h=>hb.2 (.inl h)⟩),h2,fun b hb hne=>(ho b ((b4.out b).1 hb).2).trans (h3 b hb hne),(ho l f2).trans h4,Nat.le_trans h5 d3.size⟩
  case hrd=>
   intro i T' X hx;rw[a4.out]at hx;obtain⟨T1,rfl,h1,h2,h3,h4,h5⟩:=hx;exact⟨(h3 _ i5 (by omega)).trans g5.out,(h3 _ k3 (by omega)).trans j4.out,(HU.out.hrd _ _ _ h1).2.1⟩
  case hy=>
   intro i T' X A' c' x f7 f5 f1 hx;rw[a4.out]at hx;obtain⟨T1,rfl,h1,h2,h3,h4,h5⟩:=hx;refine Cw j5.out h4 rfl ?_;have d0:=hI f7;clear f7;have i6:=hI f5;clear f5;have i9:=hI f1;clear f1;have j9:=hI h1;have b5:=hI h2;have k5:=hI h3;have f0:=hI h4;clear h1 h2 h3 h4;gi_wp2;refine⟨f0.out, ?_⟩;have p4:(X.putObj l (.loop (rc .busy none))).heap[l]? =some (.loop (rc .busy none)):=World.putObj_heap_same (lt_of_block f0.out);have pK:Ae (fun b=>b=l) X (X.putObj l (.loop (rc .busy none))):=(Ae.refl (fun b=>b=l) X).putObj rfl _;have pJ:J (C0 (Am xs) ((Cp (B3 ss) kn).take i)).length T1 (X.putObj l (.loop (rc .busy none))):=HU.out.hst _ _ _ _ j9.out (pK.mono (fun b hb=>by subst hb;exact⟨by omega,b5.out _ b3⟩));have p3:∀b,Mine b->b≠l->(X.putObj l (.loop (rc .busy none))).heap[b]? =W1.heap[b]? :=fun b hb hne=>(World.putObj_heap_other hne).trans (k5.out b hb hne)
   have pw:Ab (X.putObj l (.loop (rc .busy none))) A' kn c' x:=i6.out.keep pK fun _ ad a2 e=>(i9.out ad a2).2 (.inr e)
   have ps:(X.putObj l (.loop (rc .busy none))).heap.size=X.heap.size:=by simp
   generalize X.putObj l (.loop (rc .busy none))=V at*;have m7:W1.heap.size<=V.heap.size:=by omega
   obtain⟨q1,q2,q3⟩:=HU.out.hrd _ _ _ pJ;have v0:=(p3 _ i8 (by omega)).trans g7.out;have v1:=(p3 _ i0 (by omega)).trans j6.out;have e0:=cell_of_one v0;have P4:=hI p4;have PK:=hI pK;have PJ:=hI pJ;have P3:=hI p3;have PW:=hI pw;have PS:=hI ps;have Q1:=hI q1;have Q3:=hI q3;have V1:=hI v1;clear p4 pK pJ p3 pw ps q1 q2 q3 v0 v1;gi_wp2;refine⟨trivial,rfl,(CallsIn.inRound l (callsIn_wide.2 (S8 A n c xs A' kn c' x V Q1.out PW.out Q3.out))).mono ?_⟩;rintro e V2 ⟨A2,n2,c2,rfl,g2,b1,a7⟩;have i4:=hI g2;have a0:=hI b1;have k6:=hI a7;clear g2 b1 a7
   have g3:Hid (∀(Y:World) (T2:Nat->Prop),J (C0 (Am xs) ((Cp (B3 ss) kn).take (i+1))).length T2 Y->Ae T1 V Y->(∀b,T2 b->T1 b\/V.heap.size<=b)→
     Y.heap[l]? =some (.loop (rc .busy none))∧∃T'',JJ (i+1) T'' (Y.putObj l (.loop (rc .ready none)))/\Ae (fun b=>T1 b\/b=l) X (Y.putObj l (.loop (rc .ready none)))∧∀b,T'' b->(fun b=>T1 b\/b=l) b\/X.heap.size<=b):=by
    intro Y T2 y1 y2 y3;have m3:=y2.size;have m4:=PS.out
    have g1:∀b,Mine b→¬T2 b:=fun b hb h=>by
     rcases y3 b h with h|h
     ·exact b5.out b hb h
     ·have:=((b4.out b).1 hb).2;omega
    have j7:l<Y.heap.size:=by omega
    refine⟨(y2.block l (by omega) (b5.out _ b3)).trans P4.out,fun b=>T2 b\/b=l, ?_, ?_,fun b h=> ?_⟩
    ·rw[a4.out];refine⟨T2,rfl,HU.out.hst _ _ _ _ y1 (((Ae.refl (fun b=>b=l) Y).putObj rfl _).mono fun b hb=>by subst hb;exact⟨by omega,g1 _ b3⟩),g1,fun b hb hne=> ?_,World.putObj_heap_same j7,by simp;omega⟩
     have k8:=((b4.out b).1 hb).2;exact(World.putObj_heap_other hne).trans ((y2.block b (by omega) (b5.out b hb)).trans (P3.out b hb hne))
    ·exact((PK.out.mono fun _ h=> .inr h).trans (y2.mono fun _ h=> .inl h)).putObj (.inr rfl) _
    ·rcases h with h|h
     ·rcases y3 b h with h|h
      ·exact .inl (.inl h)
      ·exact .inr (by omega)
     ·exact .inl (.inr h)
   have c1:=cell_of_one ((a0.out.block _ (lt_of_block V1.out)).trans V1.out);have b9:kn<=4096:=by omega
   by_cases hd0:(Bl (Am xs) x).1=0
   ·have g4:=hI (Mz d0.out hd0)
    have g9:Hid ((Ce (Am xs) ss kn)[(C0 (Am xs) ((Cp (B3 ss) kn).take i)).length]? =some (x,(Bl (Am xs) x).2)):=by
     show _=_;rw[Tu];exact Vz d0.out hd0
    gi_wp2;refine Ep (fun W'=>W'.cell? ⟨w.heap.size+1,0,none⟩=some (.func (.func F) #[] lb)) (by kernel_rfl) (by kernel_rfl) (fun _ _ h=>by exact h) c1 (fun hHeld=> ?_)
    (refine' Aa 0 rfl ?_;(try simp only[Act.put,nY,nX]));(refine' Aa 1 rfl ?_;(try simp only[Act.put,nY,nX]));(refine' Aa 3 rfl ?_;(try simp only[Act.put,nY,nX]))
    (refine Agz 2 rfl (fun K' hK'=> ?_);simp only[nY];go_simp)
    refine(L4 A' kn c' x _ (PW.out.below (B:=V.heap.size) (a0.out.trans ((Below.refl V2.heap.size V2).drew.mono a0.out.size)) rr) b9).mono ?_;rintro e w3 ⟨A3,n3,c3,rfl,f9,g0,b2⟩;have a1:Below V2.heap.size V2 w3:=(Below.refl V2.heap.size V2).drew.trans g0;refine hK' _ _ ⟨.inr (cell_of_one ((a1.block _ (lt_of_block ((a0.out.block _ (lt_of_block V1.out)).trans V1.out))).trans ((a0.out.block _ (lt_of_block V1.out)).trans V1.out))),fun _=> ?_⟩
    clear hK' K'
    (try simp only[Act.put,nY,nX])
    (refine Agz 4 rfl (fun K' hK'=> ?_);simp only[nY];go_simp)
    have f6:V2.drew.heap.size=V2.heap.size:=rfl;rw[f6]at b2;have d1:=a0.out.size;have m2:=a1.size;have a8:=HU.out.hlt _ _ _ PJ.out;have a9:=a0.out.trans (a1.mono d1);have a7:=k6.out
    refine(HU.out.hy _ T1 w3 A3 n3 c3 x A2 n2 c2 (Bl (Am xs) x).2 b8.out (by omega) g9.out f9 (i4.out.below a1 rr) (fun ad a2=>⟨by have:=b2 ad a2;omega,fun h=>by have:=b2 ad a2;have:=a8 _ h;omega⟩)
     (fun ad a2=>⟨by have:=a7 ad a2;omega,fun h=>by have:=a7 ad a2;have:=a8 _ h;omega⟩) (HU.out.hst _ _ _ _ PJ.out (Aj a9))).mono ?_
    rintro e W6 ⟨⟨v,rfl⟩,d7,T6,f4,f3⟩
    obtain⟨z0,T7,z1,z2,z3⟩:=g3.out W6 T6 (by rw[g4.out,List.length_append];exact f4) (Ae.trans (Aj a9) d7) (fun b h=>by
     rcases f3 b h with h|h|⟨_,ad,a2,h⟩|⟨_,ad,a2,h⟩
     ·exact .inl h
     ·exact .inr (by omega)
     ·exact .inr (by have:=b2 ad a2;omega)
     ·exact .inr (by have:=a7 ad a2;omega))
    have Z:=hI (And.intro z0 (And.intro z1 (And.intro z2 z3)));clear z0 z1 z2 z3 d7 f4 f3 a7 b2 f9 g0 a1 a9 a8 f6;refine hK' _ _ ⟨.inl (by kernel_rfl),fun _=>Be (by kernel_rfl) ?_ _⟩
    clear hK' K' hHeld;gi_wp2;exact⟨Z.out.1,rfl,T7,Z.out.2.1,Z.out.2.2.1,Z.out.2.2.2⟩
   ·have g8:((Bl (Am xs) x).1==0)=false:=by simpa using hd0
    have j1:=hI (Vy d0.out hd0);clear hd0;gi_wp2;obtain⟨z0,T7,z1,z2,z3⟩:=g3.out V2 T1 (by rw[j1.out];exact HU.out.hst _ _ _ _ PJ.out (Aj a0.out)) (Aj a0.out) (fun b h=> .inl h);exact⟨z0,rfl,T7,z1,z2,z3⟩
 rintro e W' ⟨⟨v,rfl⟩,⟨T9,hj⟩|hx⟩
 ·rw[a4.out]at hj;obtain⟨T1,rfl,h1,h2,h3,h4,h5⟩:=hj;refine .inl ⟨h4, ?_⟩
  have d2:Hid ((C0 (Am xs) ((Cp (B3 ss) kn).take (Cp (B3 ss) kn).length)).length=(Ce (Am xs) ss kn).length):=by
   show _=_;rw[Tv,Tu]
  have x1:J (Ce (Am xs) ss kn).length T1 (W'.putObj l (.loop (rc .exhausted none))):=by
   rw[←d2.out];exact HU.out.hst _ _ _ _ h1 (((Ae.refl (fun b=>b=l) W').putObj rfl _).mono fun b hb=>by subst hb;exact⟨by omega,h2 _ b3⟩)
  have xD:=((World.putObj_heap_other (w:=W') (r:=l) (o:= .loop (rc .exhausted none)) (show D≠l by omega)).trans (h3 D i1 (by omega))).trans k4.out;generalize W'.putObj l (.loop (rc .exhausted none))=X at*;have X1:=hI x1;have XD:=hI xD;clear x1 xD h1 h2 h3 h4 h5;gi_wp2;have hM:Cm w.heap.size X [D7 D]:=⟨D,rfl,by omega,XD.out,by simp,trivial⟩;exact Ev (B:=w.heap.size) Tryz.results112 _ rfl hM fun w' hw'=>⟨by rw[HM.out];rfl,_,⟨T1,HU.out.hst _ _ _ _ X1.out (Di hw' (HU.out.hnd _ _ _ X1.out))⟩,fun _=>rfl⟩
 ·exact hx.elim
end Go.Proofs.YtlgliddhideflaaGreatDoor
namespace Go.Proofs.YtlgliddhideflaaGreatDoor
open Go.RowKit Go.Shelf
theorem Td {S:Nat->Prop}{w w':World}{A:Option Addr}{n c sz:Nat}{vs:List Value}(h:Bb w A n c sz vs)(hk:Ae S w w')(hS:0<n→∀ad,A=some ad→¬S ad.block):Bb w' A n c sz vs:=by
 obtain⟨h1,h2,h3,h4,h5⟩:=h;refine⟨h1,h2,h3,h4,fun hn=> ?_⟩
 obtain⟨b,off,rfl,a0,hc⟩:=h5 hn;have hb:=hk.block b a0 (hS hn _ rfl);exact⟨b,off,rfl,Nat.lt_of_lt_of_le a0 hk.size,fun j v hv=>(World.cell?_of_block hb).trans (hc j v hv)⟩
def J7 (L:List (List Snd×List Snd)):Nat:=(L.filter fun p=>decide (p.1=p.2)).length
theorem Z7 {L:List (List Snd×List Snd)}{i:Nat}{x y:List Snd}(h:L[i]? =some (x,y))(e:x=y):J7 (L.take (i+1))=J7 (L.take i)+1:=by
 unfold J7;rw[Ba L i _ h,List.filter_append,List.filter_cons_of_pos (by simpa using e)];simp
theorem Ack {L:List (List Snd×List Snd)}{i:Nat}{x y:List Snd}(h:L[i]? =some (x,y))(e:¬x=y):J7 (L.take (i+1))=J7 (L.take i):=by
 unfold J7;rw[Ba L i _ h,List.filter_append,List.filter_cons_of_neg (by simpa using e)];simp
theorem Acl (L:List (List Snd×List Snd)):J7 L<=L.length:=List.length_filter_le _ _
theorem Li {ls:List Av}{ss:List Snd}{n:Nat}(hd:ss.Nodup)(h5:ss.length<=5)(hn:n<=4):(Ce ls ss n).length<=625:=by
 have h1:(Ce ls ss n).length<=(Cp (B3 ss) n).length:=by
  unfold Ce;rw[List.length_map];exact List.length_filter_le _ _
 rw[Gx,Jv hd]at h1;have h2:ss.length^n<=5^4:=Nat.le_trans (Nat.pow_le_pow_left h5 n) (Nat.pow_le_pow_right (by omega) hn);omega
theorem Z8 (Af:Option Addr)(nf cf:Nat)(x:List Snd)(At:Option Addr)(nt ct:Nat)(y:List Snd)(bc m:Nat)(w:World)(hx:Ab w Af nf cf x)(hy:Ab w At nt ct y)
  (hc:w.heap[bc]? =some (.cells #[.int .i64 m] 3 (0,0))) (hm:m<1000000):
  Calls Tryz.prog 128 (#[.slice Af nf cf, .slice At nt ct]++ #[.pointer (some ⟨bc,0,none⟩)]) w fun e w'=>(∃v,e= .returned v)/\Ae (fun b=>b=bc) w w'∧
   w'.heap[bc]? =some (.cells #[.int .i64 (if x=y then m+1 else m:Nat)] 3 (0,0)):=by
 have a3:=lt_of_block hc;have HX:=hI hx;have HY:=hI hy;have HC:=hI hc;clear hx hy hc;go_enter Tryz.func128,Tryz.ntmps128;go_wp2_with fail;refine(K8 Af At nf nt cf ct x y w HX.out HY.out).mono ?_;rintro e w1 ⟨rfl,a1⟩;have k1:=(a1.block _ a3).trans HC.out;have c1:=cell_of_one k1;have f1:=free_of_one k1;have K1:=hI k1;have a2:=hI a1;clear k1 a1;by_cases e:x=y
 ·rw[decide_eq_true e];have HE:=hI e;clear e;go_wp2;refine bodyPost_end (results_none rfl _ _ _) rfl ?_;have a0:((m:Int)+1)=((m+1:Nat):Int):=by omega
  rw[a0];exact⟨⟨_,rfl⟩,Ae.setCell (S:=fun b=>b=bc) (Aj a2.out) (p:=⟨bc,0,none⟩) rfl _,one_setCell K1.out⟩
 ·rw[decide_eq_false e];have HE:=hI e;clear e;go_wp2;refine bodyPost_end (results_none rfl _ _ _) rfl ?_;exact⟨⟨_,rfl⟩,Aj a2.out,K1.out⟩
structure FxW (bc:Nat)(W1:World)(m:Nat)(T:Nat->Prop)(W:World):Prop where
 tw:T=fun b=>b=bc
 lt:bc<W1.heap.size
 cn:W.heap[bc]? =some (.cells #[.int .i64 m] 3 (0,0))
 kp:Ae (fun b=>b=bc) W1 W
theorem FxW.keep {bc:Nat}{W1:World}{m:Nat}{T:Nat->Prop}{W W':World}(h:FxW bc W1 m T W)(hk:Ae (fun b=>W1.heap.size<=b∧¬T b) W W'):FxW bc W1 m T W':=by
 obtain⟨h1,h2,h3,h4⟩:=h;have ho:∀b,b<W1.heap.size->W'.heap[b]? =W.heap[b]? :=fun b hb=>hk.block b (by have:=h4.size;omega) (fun h=>by omega)
 exact⟨h1,h2,(ho _ h2).trans h3,((h4.mono (S':=fun b=>b=bc\/W1.heap.size<=b) fun _ e=> .inl e).trans (hk.mono fun _ e=> .inr e.1)).old fun b hb e=>e.resolve_right (by omega)⟩
theorem Wr (x:Bu)(As:Option Addr)(ns cs:Nat)(ss:List Snd)(k:Int)(w:World)(hx:Df w x.l x.a)(hs:Ab w As ns cs ss)(hT:B7 w):
  Calls Tryz.prog 51 #[C3 x.l x.a, .slice As ns cs, .int .i64 k] w fun e w'=>e= .returned (.tuple #[.int .i64 (Fg x.l ss k).2, .int .i64 (Fg x.l ss k).1])/\Below w.heap.size w w':=by
 have HX:=hI hx;have HS:=hI hs;have HT:=hI hT;clear hx hs hT;obtain⟨Wb,d0,a9,b0,a1,b8⟩:=Er w x.l x.a;have a4:Below w.heap.size w (Wb.alloc (.cells #[.int .i64 0] 3)):=a1.alloc a1.size _;have HL:=hI (HX.out.below a4 rr);go_enter Tryz.func51,Tryz.ntmps51;go_wp2_with(first|(refine Dn rfl (.tmp 3) rfl w.heap.size x.l x.a rfl ((Ah b0).trans a9) ?_)|(refine Aak rfl (.tmp 10) rfl x rfl HL.out ?hk))
 case hk=>
  intro X a8 hb b5 _;have hB:Below w.heap.size w X:=a4.trans (hb.mono (by have:=a1.size;omega));have a6:X.heap[Wb.heap.size]? =some (.cells #[.int .i64 0] 3 (0,0)):=(hb.block _ (by simp)).trans (Ak rfl);clear hb a4;obtain⟨bc,b2⟩:∃bc,bc=Wb.heap.size:=⟨_,rfl⟩;rw[←b2]at a8 b5 a6 ⊢;have d6:w.heap.size<=bc:=by have:=a1.size;omega
  clear b2 a9 b0 a1 b8 d0;have HB:=hI hB;have b1:=hI a8;have b9:=hI a6;clear hB a8 a6;go_wp2_with fail;refine(Nk (some ⟨bc+1,0,none⟩) 1 1 [x] As ns cs ss k 128 #[.pointer (some ⟨bc,0,none⟩)] X (fun i T W=>FxW bc X (J7 ((Ce [x.l] ss k.toNat).take i)) T W) (fun b=>b=bc) ?hu ?h0 (enters_of Tryz.func128 (by kernel_rfl) rfl)).mono ?_
  case h0=>exact⟨rfl,by omega,b9.out,Ae.refl _ _⟩
  case hu=>
   have d2:∀X',Ae (fun b=>b=bc) X X'->Bw X' (some ⟨bc+1,0,none⟩) 1 1 [x]/\Ab X' As ns cs ss/\B7 X':=by
    intro X' h;have a7:Below w.heap.size w X':=HB.out.trans (h.to_below (B:=w.heap.size) (fun b hb=>by omega) HB.out.size);refine⟨⟨⟨Td b1.out.1.1 h (fun _ ad e hh=>by injection e with e;subst e;simp at hh),b1.out.1.2⟩,fun y hy=> ?_⟩,HS.out.below a7 rr,HT.out.below a7 rr⟩
    obtain rfl:y=x:=by simpa using hy
    exact HX.out.below a7 rr
   refine⟨fun i T W h=>h.kp.size,fun i T W h b hb=> ?hlt,fun i T W W' h hk=>h.keep hk,fun i T W h b hb v e=> ?hnd,fun i T W h=>d2 W h.kp, ?hy⟩
   case hlt=>
    rw[h.tw]at hb;have h1:=h.lt;have h2:=h.kp.size;have d5:b=bc:=hb;omega
   case hnd=>
    rw[h.tw]at hb;obtain rfl:b=bc:=hb;rw[h.cn]at e;cases e
   case hy=>
    intro i T W Af nf cf u At nt ct y hr b4 a0 b7 b6 d7 d4 h;have a0:(Ce [x.l] ss k.toNat)[i]? =some (u,y):=a0;have hr:=(C4 hr).2.2;have d1:=Li (ls:=[x.l]) (Bz hr).2.2 (Bz hr).1 b4;have hi:i<(Ce [x.l] ss k.toNat).length:=(List.getElem?_eq_some_iff.1 a0).1;have hm:J7 ((Ce [x.l] ss k.toNat).take i)<=i:=Nat.le_trans (Acl _) (by rw[List.length_take];omega);refine(Z8 Af nf cf u At nt ct y bc _ W b7 b6 h.cn (by omega)).mono ?_;rintro e W'' ⟨hv,hK,hc⟩;have hT:=h.tw;refine⟨hv,by rw[hT];exact hK,T,⟨hT,h.lt, ?_,h.kp.trans hK⟩,fun b hb=> .inl hb⟩
    rw[hc];by_cases hu:u=y
    ·rw[if_pos hu,Z7 a0 hu]
    ·rw[if_neg hu,Ack a0 hu]
  rintro e w2 ⟨rfl,i,T,hJ,hi⟩;have a2:Below w.heap.size w w2:=HB.out.trans (hJ.kp.to_below (B:=w.heap.size) (fun b hb=>by omega) HB.out.size);have c2:=cell_of_one hJ.cn;obtain⟨er,a5⟩:∃er,er=Cb [x.l] ss k:=⟨_,rfl⟩;have d3:Am [x]=[x.l]:=rfl;rw[d3]at hi ⊢;rw[←a5]at hi ⊢;have b3:=hI a5;clear a5;by_cases h0:er=0
  ·have h1:(er !=0)=false:=by simpa using h0
   have HM:Hid (Fg x.l ss k=(0,((J7 ((Ce [x.l] ss k.toNat).take i):Nat):Int))):=by
    show _=_;unfold Fg;rw[←b3.out,if_neg (by simpa using h0),hi h0,List.take_length];rfl
   have a3:=hI a2;clear h0 hi hJ a2;go_wp2;exact bodyPost_ret (results_tmp2 Tryz.results51 _ _ _) rfl ⟨by rw[HM.out];rfl,a3.out⟩
  ·have h1:(er !=0)=true:=by simpa using h0
   have HM:Hid (Fg x.l ss k=(er,0)):=by
    show _=_;unfold Fg;rw[←b3.out,if_pos h0]
   have a3:=hI a2;clear h0 hi hJ a2 c2;go_wp2;exact bodyPost_ret (results_tmp2 Tryz.results51 _ _ _) rfl ⟨by rw[HM.out];rfl,a3.out⟩
theorem Aae (b7:Nat)(E:Nat->Prop)(W1:World)(vw:Value)(ps:List Part)(Af:Option Addr)(nf cf:Nat)(At:Option Addr)(nt ct:Nat)(y:List Snd)(w:World)(h:E9 b7 E W1 vw ps w)(hy:Ab w At nt ct y)
  (hf:∀ad,At=some ad->W1.heap.size<=ad.block∧¬Gs b7 E vw ps ad.block) (hl:ps.length<=4000):
  Calls Tryz.prog 113 (#[.slice Af nf cf, .slice At nt ct]++ #[.pointer (some ⟨b7,0,none⟩)]) w fun e X=>(∃v,e= .returned v)∧∃vw',E9 b7 E W1 vw' (ps++[(At,nt,ct,y)]) X/\Ae (Gs b7 E vw ps) w X∧
   ∀k,Gs b7 E vw' (ps++[(At,nt,ct,y)]) k->Gs b7 E vw ps k\/w.heap.size<=k\/(0<nt∧∃ad,At=some ad/\ad.block=k):=by
 have c7:=cell_of_one h.c7;have a4:W1.heap.size<=w.heap.size:=h.kp.size;have h7:=lt_of_block h.c7;have a3:=h.lt.1;obtain⟨A7,k7,rfl⟩:=B1 h.o7;have HC:=hI h;have HY:=hI hy;have HF:=hI hf;clear h hy hf;go_enter Tryz.func113,Tryz.ntmps113;go_wp2_with(at_builtin;refine Ql rfl (.tmp 5) (.tmp 7) rfl W1.heap.size (.slice A7 ps.length k7) ps.length (ps.map Part.val) rfl (HC.out.o7.alloc _) ⟨w.heap.size,0,none⟩ 1 (.slice At nt ct) rfl (cell_one_new _ _ _) rfl (by omega) ?hz2 ?hc2)
 case hz2=>simp;omega
 case hc2=>
  intro vw' X2 a0 hg a1;obtain⟨A9,k9,rfl⟩:=B1 a0;have a2:some b7≠(Value.slice A7 ps.length k7).ownBlock:=fun e=>by have:=(HC.out.o7.lt b7 e.symm).1;omega
  have x7:=(hg.block b7 (by simp;omega) a2).trans ((Ah h7).trans HC.out.c7);have c7':=cell_of_one x7;have f7':=free_of_one x7;obtain⟨p1,p2,p3⟩:=HC.out.push (Below.refl _ _) HY.out HF.out a0 hg (by rw[World.size_alloc];exact a1);have P1:=hI p1;have P2:=hI p2;have P3:=hI p3;clear p1 p2 p3 a0 hg a1 x7 c7;go_wp2;refine bodyPost_end (results_none rfl _ _ _) rfl ?_;exact⟨⟨_,rfl⟩,_,P1.out,P2.out,P3.out⟩
theorem Hk {α:Type} [DecidableEq α]:∀(l:List α) (x y:α),Bf (l++[x,y])=if x=y then Bf (l++[x])else Bf (l++[x])++[y]
 |[],x,y=>by
  by_cases h:x=y
  ·subst h;simp[Bf]
  ·simp[Bf,h]
 |[a],x,y=>by
  have ih:=Hk [] x y;simp only[List.nil_append]at ih;by_cases h:a=x
  ·subst h;by_cases h2:a=y
   ·subst h2;simp[Bf]
   ·simp[Bf,h2]
  ·by_cases h2:x=y
   ·subst h2;simp[Bf,h]
   ·simp[Bf,h,h2]
 |a::b::l,x,y=>by
  have ih:=Hk (b::l) x y;show(if a=b then Bf (b::(l++[x,y]))else a::Bf (b::(l++[x,y])))=if x=y then(if a=b then Bf (b::(l++[x]))else a::Bf (b::(l++[x])))else(if a=b then Bf (b::(l++[x]))else a::Bf (b::(l++[x])))++[y]
  rw[List.cons_append,List.cons_append]at ih;rw[ih];by_cases h:a=b<;>by_cases h2:x=y<;>simp[h,h2]
theorem Me {α:Type} [DecidableEq α]{W:List α}{k:Nat}{x y:α}(hk:1<=k)(hx:W[k-1]? =some x)(hy:W[k]? =some y):Bf (W.take (k+1))=if x=y then Bf (W.take k)else Bf (W.take k)++[y]:=by
 have e1:W.take k=W.take (k-1)++[x]:=by
  have:=Ba W (k-1) x hx
  rwa[show k-1+1=k by omega]at this
 rw[Ba W k y hy,e1,List.append_assoc];exact Hk _ x y
theorem S5 {α:Type} [DecidableEq α](W:List α):Bf (W.take 1)=W.take 1:=by
 cases W with
 |nil=>rfl
 |cons a W=>rfl
structure CpR (g:Nat)(ps:List Part)(w:World)(m:Nat)(C:List Part)(W:World):Prop where
 kp:Ae (fun k=>k=g) w W
 le:C.length<=m
 wd:C.map Part.word=Bf ((ps.map Part.word).take m)
 mem:∀p∈C,p∈ps
 row:∃cur:Array Value,W.heap[g]? =some (.cells cur 32 (0,0))∧∀(j:Nat) (p:Part),(C++ps.drop C.length)[j]? =some p->cur[j]? =some p.val
namespace CpR
variable {g:Nat}{ps:List Part}{w W:World}{m:Nat}{C:List Part}
theorem cell (h:CpR g ps w m C W){j:Nat}{p:Part}(hj:C.length<=j)(hp:ps[j]? =some p):W.cell? ⟨g,j,none⟩=some p.val:=by
 obtain⟨cur,h1,h2⟩:=h.row;have h3:=h2 j p (by rw[List.getElem?_append_right hj,List.getElem?_drop];rw[←hp];congr 1;omega);simp[World.cell?,h1,h3]
theorem free (h:CpR g ps w m C W)(j:Nat):W.frozen? ⟨g,j,none⟩=false:=by
 obtain⟨cur,h1,h2⟩:=h.row;simp[World.frozen?,h1]
theorem skip (h:CpR g ps w m C W){x y:Part}(hm:1<=m)(hx:ps[m-1]? =some x)(hy:ps[m]? =some y)(e:y.word=x.word):CpR g ps w (m+1) C W:=by
 refine⟨h.kp,Nat.le_succ_of_le h.le, ?_,h.mem,h.row⟩;rw[h.wd,Me hm (x:=x.word) (y:=y.word) (by rw[List.getElem?_map,hx];rfl) (by rw[List.getElem?_map,hy];rfl),if_pos e.symm]
theorem put (h:CpR g ps w m C W){x y:Part}(hm:1<=m)(hx:ps[m-1]? =some x)(hy:ps[m]? =some y)(e:¬y.word=x.word):CpR g ps w (m+1) (C++[y]) (W.setCell ⟨g,C.length,none⟩ y.val):=by
 obtain⟨cur,h1,h2⟩:=h.row;refine⟨h.kp.setCell (p:=⟨g,C.length,none⟩) rfl _,by rw[List.length_append];have:=h.le;simp;omega, ?_,fun p hp=> ?_, ?_⟩
 ·rw[List.map_append,h.wd,Me hm (x:=x.word) (y:=y.word) (by rw[List.getElem?_map,hx];rfl) (by rw[List.getElem?_map,hy];rfl),if_neg (fun e'=>e e'.symm)];rfl
 ·rcases List.mem_append.1 hp with hp|hp
  ·exact h.mem p hp
  ·obtain rfl:p=y:=by simpa using hp
   exact List.mem_of_getElem? hy
 ·refine⟨cur.setIfInBounds C.length y.val, ?_,fun j p hj=> ?_⟩
  ·simp[World.setCell,Array.getElem?_modify,h1]
  ·have a0:C.length<cur.size:=by
    have a1:C.length<ps.length:=by have:=h.le;have:=(List.getElem?_eq_some_iff.1 hy).1;omega
    have h5:=h2 C.length _ (by rw[List.getElem?_append_right rr,Nat.sub_self,List.getElem?_drop];exact List.getElem?_eq_getElem a1);exact(Array.getElem?_eq_some_iff.1 h5).1
   rw[List.length_append,List.length_singleton]at hj;rw[Array.getElem?_setIfInBounds];by_cases ej:C.length=j
   ·subst ej;rw[List.append_assoc,List.getElem?_append_right rr,Nat.sub_self]at hj;obtain rfl:y=p:=by simpa using hj
    rw[if_pos rfl,if_pos a0]
   ·rw[if_neg ej];refine h2 j p ?_;rcases Nat.lt_or_ge j C.length with hl|hl
    ·rw[List.getElem?_append_left hl];rw[List.append_assoc,List.getElem?_append_left hl]at hj;exact hj
    ·rw[List.getElem?_append_right hl,List.getElem?_drop];rw[List.getElem?_append_right (by simp;omega),List.length_append,List.length_singleton,List.getElem?_drop]at hj;rw[←hj];congr 1;omega
theorem start {cur:Array Value}(hg:w.heap[g]? =some (.cells cur 32 (0,0)))(hc:∀(j:Nat) (p:Part),ps[j]? =some p->cur[j]? =some p.val){k:Nat}(hk:k<=ps.length)(h:Bf ((ps.map Part.word).take k)=(ps.map Part.word).take k):CpR g ps w k (ps.take k) w:=by
 refine⟨Ae.refl _ _,by rw[List.length_take];omega,by rw[h,List.map_take],fun p hp=>List.mem_of_mem_take hp,cur,hg,fun j p hj=> ?_⟩
 rw[List.length_take,Nat.min_eq_left hk,List.take_append_drop]at hj;exact hc j p hj
theorem move {W':World}(h:CpR g ps w m C W)(hk:Ae (fun _=>False) W W'):CpR g ps w m C W':=by
 obtain⟨cur,h1,h2⟩:=h.row;exact⟨h.kp.trans (hk.mono fun _ e=>e.elim),h.le,h.wd,h.mem,cur,(hk.block _ (lt_of_block h1) (fun e=>e)).trans h1,h2⟩
end CpR
theorem Lf {g:Nat}{t:TypeId}{fz:Nat×Nat}:∀(vs:List Value) (o:Nat) (W:World) (cur:Array Value),W.heap[g]? =some (.cells cur t fz)→
  Ae (fun k=>k=g) W (W.setCells g o vs)∧∃cur':Array Value,(W.setCells g o vs).heap[g]? =some (.cells cur' t fz)∧∀j,j<o->cur'[j]? =cur[j]?
 |[],o,W,cur,h=>⟨Ae.refl _ _,cur,h,fun _ _=>rfl⟩
 |v::r,o,W,cur,h=>by
  have h1:(W.setCell ⟨g,o,none⟩ v).heap[g]? =some (.cells (cur.setIfInBounds o v) t fz):=by simp[World.setCell,Array.getElem?_modify,h]
  obtain⟨k1,cur',h2,h3⟩:=Lf r (o+1) (W.setCell ⟨g,o,none⟩ v) _ h1;refine⟨((Ae.refl (fun k=>k=g) W).setCell (p:=⟨g,o,none⟩) rfl v).trans k1,cur',h2,fun j hj=> ?_⟩
  rw[h3 j (by omega),Array.getElem?_setIfInBounds,if_neg (by omega)]
structure Zu (g:Nat)(ps:List Part)(w:World)(C:List Part)(W:World):Prop where
 kp:Ae (fun k=>k=g) w W
 wd:C.map Part.word=Bf (ps.map Part.word)
 mem:∀p∈C,p∈ps
 row:∃cur:Array Value,W.heap[g]? =some (.cells cur 32 (0,0))∧∀(j:Nat) (p:Part),C[j]? =some p->cur[j]? =some p.val
theorem Rs (g cap:Nat)(ps:List Part)(w:World)(cur:Array Value)(hg:w.heap[g]? =some (.cells cur 32 (0,0)))(hc:∀(j:Nat) (p:Part),ps[j]? =some p->cur[j]? =some p.val)
  (hp:∀p∈ps,Ab w p.1 p.2.1 p.2.2.1 p.2.2.2/\(0<p.2.1→∀ad,p.1=some ad->ad.block≠g)) (hn:ps.length<=4000) (hcap:ps.length<=cap):
  Calls Tryz.prog 119 #[.slice (some ⟨g,0,none⟩) ps.length cap, .func (.func 120) #[] #[]] w fun e w'=>∃C:List Part,e= .returned (.slice (some ⟨g,0,none⟩) C.length cap)/\Zu g ps w C w':=by
 obtain⟨n,b2⟩:∃n,n=ps.length:=⟨_,rfl⟩;have HP:Hid (∀X,Ae (fun k=>k=g) w X→∀p∈ps,Ab X p.1 p.2.1 p.2.2.1 p.2.2.2):=fun X hK p hm=>(hp p hm).1.keep hK (hp p hm).2
 have d8:Hid (∀k,k<=ps.length->Bf ((ps.map Part.word).take k)=(ps.map Part.word).take k->CpR g ps w k (ps.take k) w):=fun k hk h=>CpR.start hg hc hk h
 have a8:Hid (∀X,Ae (fun _=>False) w X->Bf (ps.map Part.word)=ps.map Part.word->Zu g ps w ps X):=
  fun X hX h=>⟨hX.mono fun _ e=>e.elim,h.symm,fun p hp=>hp,cur,(hX.block _ (lt_of_block hg) (fun e=>e)).trans hg,hc⟩
 have a2:Hid (∀X,Ae (fun _=>False) w X→∀(j:Nat) (p:Part),ps[j]? =some p->X.cell? ⟨g,j,none⟩=some p.val):=fun X hX j p hj=>by
  have h1:=(hX.block _ (lt_of_block hg) (fun e=>e)).trans hg;simp[World.cell?,h1,hc j p hj]
 rw[←b2]at hn hcap ⊢;have a1:Hid (ps.length=n):=b2.symm;clear hp hg hc b2;go_enter Tryz.func119,Tryz.ntmps119;by_cases h2:(n:Int)<2
 ·go_wp2;go_ret;have hl:=a1.out;refine⟨ps,by rw[hl];rfl,a8.out _ (Ae.refl _ _) ?_⟩;have h1:=S5 (ps.map Part.word);rwa[List.take_of_length_le (by rw[List.length_map];omega)]at h1
 go_wp2
 go_loopw [5] (fun vk wr=>∃k:Nat,vk= .int .i64 k/\1<=k/\k<=n/\Hid (Bf ((ps.map Part.word).take k)=(ps.map Part.word).take k)/\Hid (Ae (fun _=>False) w wr)) (fun vk _=>n-(intOf vk).toNat)
 case atStart=>exact⟨1,rfl,rr,by omega,S5 _,Ae.refl _ _⟩
 case round=>
  obtain⟨k,rfl,d2,d9,HC,HK⟩:=hrel;by_cases hlt:(k:Int)<(n:Int)
  ·have d5:k<n:=by omega
   obtain⟨⟨Ax,nx,cx,wx⟩,hx⟩:∃x,ps[k-1]? =some x:=⟨ps[k-1]'(by rw[a1.out];omega),List.getElem?_eq_getElem _⟩;obtain⟨⟨Ay,ny,cy,wy⟩,hy⟩:∃y,ps[k]? =some y:=⟨ps[k]'(by rw[a1.out];omega),List.getElem?_eq_getElem _⟩;have ex:wr.cell? ⟨g,k-1,none⟩=some (.slice Ax nx cx):=a2.out wr HK.out _ _ hx;have ey:wr.cell? ⟨g,k,none⟩=some (.slice Ay ny cy):=a2.out wr HK.out _ _ hy;have a5:Ab wr.drew Ax nx cx wx:=HP.out wr.drew ((HK.out.mono fun _ e=>e.elim).drew) _ (List.mem_of_getElem? hx);have a7:Ab wr.drew Ay ny cy wy:=HP.out wr.drew ((HK.out.mono fun _ e=>e.elim).drew) _ (List.mem_of_getElem? hy);obtain⟨i1,a6⟩:∃i1:Nat,i1=k-1:=⟨_,rfl⟩;have b5:IntKind.i64.wrap ((k:Int)-1)=(i1:Int):=by rw[IntWalk.i64_in _ (by omega)];omega
   rw[←a6]at ex;have b8:i1<n:=by omega
   clear a6;have b1:=hI a5;have a9:=hI a7;have HX:=hI hx;have HY:=hI hy;clear hx hy a5 a7;go_wp2_with fail;refine Bs (fun W'=>W'.cell? ⟨g,i1,none⟩=some (.slice Ax nx cx)/\W'.cell? ⟨g,k,none⟩=some (.slice Ay ny cy)) (by kernel_rfl) ⟨ex,ey⟩ (fun hHeld=> ?_)
   (refine' Aa 0 rfl ?_;(try simp only[Act.put,nY,nX]));(refine' Aa 1 rfl ?_;(try simp only[Act.put,nY,nX]));(refine' Aa 2 rfl ?_;(try simp only[Act.put,nY,nX]));(refine' Aa 3 rfl ?_;(try simp only[Act.put,nY,nX]));(refine' Aa 4 rfl ?_;(try simp only[Act.put,nY,nX]));(refine' Aa 5 rfl ?_;(try simp only[Act.put,nY,nX]));(refine' Aa 6 rfl ?_;(try simp only[Act.put,nY,nX]));(refine' Aa 7 rfl ?_;(try simp only[Act.put,nY,nX]));(refine' Aa 8 rfl ?_;(try simp only[Act.put,nY,nX]));(refine' Aa 9 rfl ?_;(try simp only[Act.put,nY,nX]))
   (refine Agz 10 rfl (fun K' hK'=> ?_);simp only[nY];go_simp)
   refine(Um Ay ny cy wy Ax nx cx wx _ (K8 Ay Ax ny nx cy cx wy wx _ a9.out b1.out)).mono ?_;rintro e w1 ⟨rfl,d3⟩;refine hK' _ _ ⟨.inl (by kernel_rfl),fun _=>Be (by kernel_rfl) ?_ _⟩
   clear hK' K' hHeld ex ey;have b0:Hid (Ae (fun _=>False) w w1):=HK.out.drew.trans (Aj d3);clear d3;by_cases he:wy=wx
   ·rw[decide_eq_true he];have HE:=hI he;clear he;have HR:Hid (CpR g ps w (k+1) (ps.take k) w1):=((d8.out k (by rw[a1.out];omega) HC.out).move b0.out).skip d2 HX.out HY.out HE.out;clear HX HY b1 a9 HE b8 b5;go_wp2_with fail
    go_loopw [5,7] (fun vk v7 wr2=>∃(i k2:Nat) (C:List Part),vk= .int .i64 i/\v7= .int .i64 k2/\1<=k2/\k+k2<=n/\C.length=i/\i<k+k2/\Hid (CpR g ps w (k+k2) C wr2)) (fun _ v7 _=>n-(intOf v7).toNat)
    case atStart=>exact⟨k,1,ps.take k,rfl,rfl,rr,by omega,by rw[List.length_take,a1.out];omega,by omega,HR⟩
    case round=>
     clear HR b0 HK;obtain⟨i,k2,C,rfl,rfl,d4,f0,b9,f2,HR⟩:=hrel;have a0:=hI b9;clear b9;by_cases hlt2:(k2:Int)<((n-k:Nat):Int)
     ·obtain⟨⟨Ax,nx,cx,wx⟩,hx⟩:∃x,ps[k+k2-1]? =some x:=⟨ps[k+k2-1]'(by rw[a1.out];omega),List.getElem?_eq_getElem _⟩;obtain⟨⟨Ay,ny,cy,wy⟩,hy⟩:∃y,ps[k+k2]? =some y:=⟨ps[k+k2]'(by rw[a1.out];omega),List.getElem?_eq_getElem _⟩;obtain⟨i1,a6⟩:∃i1:Nat,i1=k2-1:=⟨_,rfl⟩;have b5:IntKind.i64.wrap ((k2:Int)-1)=(i1:Int):=by rw[IntWalk.i64_in _ (by omega)];omega
      have ex:wr.cell? ⟨g,k+i1,none⟩=some (.slice Ax nx cx):=HR.out.cell (p:=(Ax,nx,cx,wx)) (by rw[a0.out];omega) (by rw[a6,←hx];congr 1;omega);have ey:wr.cell? ⟨g,k+k2,none⟩=some (.slice Ay ny cy):=HR.out.cell (p:=(Ay,ny,cy,wy)) (by rw[a0.out];omega) hy;have a5:Ab wr.drew Ax nx cx wx:=HP.out wr.drew HR.out.kp.drew _ (List.mem_of_getElem? hx);have a7:Ab wr.drew Ay ny cy wy:=HP.out wr.drew HR.out.kp.drew _ (List.mem_of_getElem? hy);have b8:i1<n-k:=by omega
      clear a6;have b1:=hI a5;have a9:=hI a7;have HX:=hI hx;have HY:=hI hy;clear hx hy a5 a7;go_wp2_with fail;refine Bs (fun W'=>W'.cell? ⟨g,k+i1,none⟩=some (.slice Ax nx cx)/\W'.cell? ⟨g,k+k2,none⟩=some (.slice Ay ny cy)) (by kernel_rfl) ⟨ex,ey⟩ (fun hHeld=> ?_)
      (refine' Aa 0 rfl ?_;(try simp only[Act.put,nY,nX]));(refine' Aa 1 rfl ?_;(try simp only[Act.put,nY,nX]));(refine' Aa 2 rfl ?_;(try simp only[Act.put,nY,nX]));(refine' Aa 3 rfl ?_;(try simp only[Act.put,nY,nX]));(refine' Aa 4 rfl ?_;(try simp only[Act.put,nY,nX]));(refine' Aa 5 rfl ?_;(try simp only[Act.put,nY,nX]));(refine' Aa 6 rfl ?_;(try simp only[Act.put,nY,nX]));(refine' Aa 7 rfl ?_;(try simp only[Act.put,nY,nX]));(refine' Aa 8 rfl ?_;(try simp only[Act.put,nY,nX]));(refine' Aa 9 rfl ?_;(try simp only[Act.put,nY,nX]))
      (refine Agz 10 rfl (fun K' hK'=> ?_);simp only[nY];go_simp)
      refine(Um Ay ny cy wy Ax nx cx wx _ (K8 Ay Ax ny nx cy cx wy wx _ a9.out b1.out)).mono ?_;rintro e w2 ⟨rfl,d0⟩;have b3:Ae (fun _=>False) wr w2:=(Ae.refl _ wr).drew.trans (Aj d0);have a4:Hid (CpR g ps w (k+k2) C w2):=HR.out.move b3;have b7:w2.cell? ⟨g,k+k2,none⟩=some (.slice Ay ny cy):=a4.out.cell (p:=(Ay,ny,cy,wy)) (by rw[a0.out];omega) HY.out
      have b4:w2.cell? ⟨g,k+i1,none⟩=some (.slice Ax nx cx):=by
       obtain⟨cur2,d6,_⟩:=HR.out.row;exact(World.cell?_of_block (b3.block g (lt_of_block d6) (fun e=>e))).trans ex
      refine hK' _ _ ⟨.inr ⟨b4,b7⟩,fun _=> ?_⟩
      clear hK' K' hHeld ex ey d0 b3 HR
      (try simp only[Act.put,nY,nX])
      by_cases he:wy=wx
      ·rw[decide_eq_true he];have a3:Hid (CpR g ps w (k+k2+1) C w2):=a4.out.skip (by omega) HX.out HY.out he;clear he
       (refine Agz 11 rfl (fun K' hK'=> ?_);simp only[nY];go_simp)
       refine hK' _ _ ⟨.inl (by kernel_rfl),fun _=>Be (by kernel_rfl) ?_ _⟩
       clear hK' K' b4 b7;go_wp2
       go_roundw
       case rel=>first|exact⟨i,k2+1,C,rfl,by go_num,by omega,by omega,a0.out,by omega,a3⟩|((repeat apply Exists.intro);exact⟨⟨i,k2+1,C,rfl,by go_num,by omega,by omega,a0.out,by omega,a3⟩,rfl⟩)
       case measure=>simp[intOf];omega
      ·rw[decide_eq_false he]
       (refine Agz 11 rfl (fun K' hK'=> ?_);simp only[nY];go_simp)
       refine hK' _ _ ⟨.inl (by kernel_rfl),fun _=>Be (by kernel_rfl) ?_ _⟩
       clear hK' K' b4
       have a3:Hid (CpR g ps w (k+k2+1) (C++[(Ay,ny,cy,wy)]) (w2.setCell ⟨g,i,none⟩ (.slice Ay ny cy))):=by
        have h5:=a4.out.put (by omega) HX.out HY.out he;rw[a0.out]at h5;exact h5
       have cz:∃v,w2.cell? ⟨g,i,none⟩=some v:=⟨_,a4.out.cell (j:=i) (Nat.le_of_eq a0.out) (List.getElem?_eq_getElem (by rw[a1.out];omega))⟩;obtain⟨vz,cz⟩:=cz;have fz:=a4.out.free i;clear he;go_wp2
       go_roundw
       case rel=>first|exact⟨i+1,k2+1,_,by go_num,by go_num,by omega,by omega,by rw[List.length_append,a0.out];rfl,by omega,a3⟩|((repeat apply Exists.intro);exact⟨⟨i+1,k2+1,_,by go_num,by go_num,by omega,by omega,by rw[List.length_append,a0.out];rfl,by omega,a3⟩,rfl⟩)
       case measure=>simp[intOf];omega
     ·have f1:∀ty,(Builtin.clear_ #[46] ty #[.slice (some ⟨g,i,none⟩) (n-i) (cap-i)]).run Tryz.prog wr= .ok (.tuple #[]) (wr.setCells g i (List.replicate (n-i) (.slice none 0 0))):=
       fun ty=>Lib.run_clear_slice wr _ _ ty _ Tryz.underlying46 Tryz.zeroValue32 rfl rfl g i _ _ (by omega) (fun j hj=>by
        rw[HR.out.cell (j:=i+j) (by rw[a0.out];omega) (List.getElem?_eq_getElem (by rw[a1.out];omega))];rfl) (fun j hj=>HR.out.free (i+j))
      have HO:Hid (Zu g ps w C (wr.setCells g i (List.replicate (n-i) (.slice none 0 0)))):=by
       obtain⟨cur9,h5,h6⟩:=HR.out.row;obtain⟨k1,cur',h7,h8⟩:=Lf (List.replicate (n-i) (.slice none 0 0)) i wr cur9 h5;have b6:=HR.out.wd;rw[List.take_of_length_le (by rw[List.length_map,a1.out];omega)]at b6;refine⟨HR.out.kp.trans k1,b6,HR.out.mem,cur',h7,fun j p hj=> ?_⟩
       have d7:=(List.getElem?_eq_some_iff.1 hj).1;rw[h8 j (by have:=a0.out;omega)];exact h6 j p (by rw[List.getElem?_append_left d7];exact hj)
      generalize(wr.setCells g i (List.replicate (n-i) (.slice none 0 0)))=W9 at*;go_wp2;go_ret;exact⟨C,by rw[a0.out];rfl,HO.out⟩
   ·rw[decide_eq_false he]
    have d1:Hid (Bf ((ps.map Part.word).take (k+1))=(ps.map Part.word).take (k+1)):=by
     show _=_;rw[Me d2 (x:=wx) (y:=wy) (by rw[List.getElem?_map,HX.out];rfl) (by rw[List.getElem?_map,HY.out];rfl),if_neg (fun e=>he e.symm),HC.out,Ba _ k wy (by rw[List.getElem?_map,HY.out];rfl)]
    clear he;go_wp2
    go_roundw
    case rel=>first|exact⟨k+1,by go_num,by omega,by omega,d1,b0⟩|((repeat apply Exists.intro);exact⟨⟨k+1,by go_num,by omega,by omega,d1,b0⟩,rfl⟩)
    case measure=>simp[intOf];omega
  ·have d5:k=n:=by omega
   go_wp2;go_ret;have hl:=a1.out;refine⟨ps,by rw[hl];rfl,a8.out _ HK.out ?_⟩;have h1:=HC.out;rwa[List.take_of_length_le (by rw[List.length_map];omega)]at h1
theorem Ve (p:Option Addr)(c:Nat)(v:Value)(w:World):Calls Tryz.prog 119 #[.slice p 0 c,v] w fun e w'=>e= .returned (.slice p 0 c)/\w'=w:=by
 go_enter Tryz.func119,Tryz.ntmps119;go_wp2;go_ret;exact⟨rfl,rfl⟩
theorem Vf {w:World}{base:Nat}{v:Value}{ps:List Part}(h:w.ownsRow base 32 1 v ps.length (ps.map Part.val))(h0:0<ps.length):
  ∃(g cap:Nat) (cur:Array Value),v= .slice (some ⟨g,0,none⟩) ps.length cap/\base<=g/\w.heap[g]? =some (.cells cur 32 (0,0))/\ps.length<=cap/\cap<=maxLen∧∀(j:Nat) (p:Part),ps[j]? =some p->cur[j]? =some p.val:=by
 obtain⟨h1,⟨e0,e1⟩|⟨g,cap,cur,e0,hb,hg,hn,hm,hs,ht⟩⟩:=h
 ·omega
 ·refine⟨g,cap,cur,e0,hb,hg,hn,hm,fun j p hj=> ?_⟩
  have a0:=(List.getElem?_eq_some_iff.1 hj).1;have h5:=congrArg (fun x:List Value=>x[j]?) ht;simp only[List.getElem?_take,Nat.mul_one]at h5;rw[if_pos (by omega),Array.getElem?_toList,List.getElem?_map,hj]at h5;exact h5
theorem Lj {α:Type} [DecidableEq α]:∀l:List α,(Bf l).length<=l.length
 |[]=>rr
 |[x]=>rr
 |x::y::r=>by
  have ih:=Lj (y::r);show(if x=y then Bf (y::r)else x::Bf (y::r)).length<=_;by_cases h:x=y
  ·rw[if_pos h];simp at*;omega
  ·rw[if_neg h];simp at*;omega
theorem Vg {ls:List Av}{ss:List Snd}{n:Int}(h:Cb ls ss n=0):Bg ls [] ss=0/\0<=n/\n<=4:=by
 by_cases h1:Bg ls [] ss=0
 ·by_cases h2:n<0\/4<n
  ·rw[Mt h1 h2]at h;cases h
  ·exact⟨h1,by omega,by omega⟩
 ·rw[Qn h1]at h;exact absurd h h1
theorem Vh {ls:List Av}{ss:List Snd}{n:Int}(h:Cb ls ss n=0):(Ce ls ss n.toNat).length<=625:=by
 obtain⟨h1,h2,h3⟩:=Vg h;have hr:=(C4 h1).2.2;exact Li (Bz hr).2.2 (Bz hr).1 (by omega)
theorem Wt (A:Option Addr)(n c:Nat)(xs:List Bu)(As:Option Addr)(ns cs:Nat)(ss:List Snd)(k:Int)(w:World)(hx:Bw w A n c xs)(hs:Ab w As ns cs ss)(hT:B7 w):
  Calls Tryz.prog 46 #[.slice A n c, .slice As ns cs, .int .i64 k] w (Rt w (Fu (Am xs) ss k)):=by
 have HX:=hI hx;have HS:=hI hs;have HT:=hI hT;clear hx hs hT;go_enter Tryz.func46,Tryz.ntmps46;go_wp2_with fail;have hB:Below w.heap.size w (w.alloc (.cells #[.slice none 0 0] 46)):=bel;have b5:(w.alloc (.cells #[.slice none 0 0] 46)).heap[w.heap.size]? =some (.cells #[.slice none 0 0] 46 (0,0)):=hpt;generalize w.alloc (.cells #[.slice none 0 0] 46)=W1 at*;obtain⟨b7,b0⟩:∃b7,b7=w.heap.size:=⟨_,rfl⟩;rw[←b0]at b5 ⊢;have g4:w.heap.size<=b7:=Nat.le_of_eq b0.symm;clear b0;have HB:=hI hB;have d3:=hI b5;clear hB b5;have f4:=lt_of_block d3.out
 refine(Nk A n c xs As ns cs ss k 113 #[.pointer (some ⟨b7,0,none⟩)] W1 (fun i T X=>∃vw ps,T=Gs b7 (fun _=>False) vw ps/\ps.map Part.word=((Ce (Am xs) ss k.toNat).take i).map (·.2)/\ps.length=i/\E9 b7 (fun _=>False) W1 vw ps X)
  (Gs b7 (fun _=>False) (.slice none 0 0) []) ?hu ?h0 (enters_of Tryz.func113 (by kernel_rfl) rfl)).mono ?_
 case h0=>exact⟨_,[],rfl,by simp,rfl,E9.start f4 (fun _ h=>h.elim) d3.out⟩
 case hu=>
  refine⟨?hB, ?hlt, ?hst, ?hnd, ?hrd, ?hy⟩
  case hB=>rintro i T X ⟨vw,ps, -, -, -,h⟩;exact h.kp.size
  case hlt=>rintro i T X ⟨vw,ps,rfl, -, -,h⟩;exact h.lts
  case hst=>rintro i T X X' ⟨vw,ps,rfl,h1,h2,h⟩ hk;exact⟨vw,ps,rfl,h1,h2,h.keep hk⟩
  case hnd=>rintro i T X ⟨vw,ps,rfl, -, -,h⟩;exact h.nds fun _ h=>h.elim
  case hrd=>
   rintro i T X ⟨vw,ps, -, -, -,h⟩;have hX:Below w.heap.size w X:=HB.out.trans (h.kp.to_below (B:=w.heap.size) (fun b hb=>hb.elim (fun e=>by omega) fun e=>e.elim) HB.out.size);exact⟨HX.out.below hX rr,HS.out.below hX rr,HT.out.below hX rr⟩
  case hy=>
   rintro i T X Af nf cf u At nt ct y hr d9 d2 g5 f1 g6 d8 ⟨vw,ps,rfl,h1,h2,h⟩;have hr:=(C4 hr).2.2;have a2:=Li (ls:=Am xs) (Bz hr).2.2 (Bz hr).1 d9;have hi:i<(Ce (Am xs) ss k.toNat).length:=(List.getElem?_eq_some_iff.1 d2).1;refine(Aae b7 (fun _=>False) W1 vw ps Af nf cf At nt ct y X h f1 d8 (by omega)).mono ?_;rintro e W'' ⟨hv,vw',g1,g2,g3⟩;refine⟨hv,g2,_,⟨vw',_,rfl, ?_,by rw[List.length_append,h2];rfl,g1⟩,fun b hb=> ?_⟩
   ·rw[List.map_append,h1,Ba _ i _ d2,List.map_append];rfl
   ·rcases g3 b hb with h|h|h
    ·exact .inl h
    ·exact .inr (.inl h)
    ·exact .inr (.inr (.inr h))
 rintro e X ⟨rfl,i,T,⟨vw,ps, -,b2,b8,hC⟩,hi⟩;obtain⟨A7,k7,rfl⟩:=B1 hC.o7;have hX:Below w.heap.size w X:=HB.out.trans (hC.kp.to_below (B:=w.heap.size) (fun b hb=>hb.elim (fun e=>by omega) fun e=>e.elim) HB.out.size);have c7:=cell_of_one hC.c7;have a7:=hI hX;clear hX;obtain⟨er,b4⟩:∃er,er=Cb (Am xs) ss k:=⟨_,rfl⟩;rw[←b4]at hi ⊢;have b6:=hI b4;clear b4;by_cases h0:er=0
 case neg=>
  have h1:(er !=0)=true:=by simpa using h0
  have HM:Hid (Fu (Am xs) ss k=(er,[])):=by show _=_;unfold Fu;rw[←b6.out,if_pos h0]
  clear h0 hi b2 b8 hC c7;go_wp2;exact bodyPost_ret (results_tmp2 Tryz.results46 _ _ _) rfl ⟨none,0,0,by rw[HM.out];rfl,by rw[HM.out];exact B5.nil _,a7.out⟩
 have h1:(er !=0)=false:=by simpa using h0
 have HM:Hid (Fu (Am xs) ss k=(0,Rz Ee (ps.map Part.word))):=by
  show _=_;unfold Fu;rw[←b6.out,if_neg (by simpa using h0),b2,hi h0,List.take_length]
 have f6:ps.length<=625:=by
  have g0:Cb (Am xs) ss k=0:=by rw[←b6.out];exact h0
  have:=Vh g0
  rw[b8,hi h0];exact this
 clear h0 hi b2 b8;by_cases hps:ps.length=0
 ·have f0:ps=[]:=List.eq_nil_of_length_eq_zero hps;subst f0;have d4:Hid (Fu (Am xs) ss k=(0,[])):=HM;have f8:Hid (Bb X A7 0 k7 1 []):=Bb.of_own hC.o7 (by decide);clear hC hps f6;rw[List.length_nil]at c7;go_wp2_with fail;refine(AnyF.slices_SortFunc_none {Tryz.sortWord with} A7 k7 _ X).mono ?_;rintro e X2 ⟨rfl,rfl⟩;go_wp2_with fail;refine(Ve A7 k7 _ X2).mono ?_;rintro e X3 ⟨rfl,rfl⟩;go_wp2;exact bodyPost_ret (results_tmp2 Tryz.results46 _ _ _) rfl ⟨A7,0,k7,by rw[d4.out];rfl,by rw[d4.out];exact⟨[],rfl,f8.out,fun p hp=>by simp at hp⟩,a7.out⟩
 ·obtain⟨g,cap,cur,hv,g7,hg,f9,f3,a6⟩:=Vf hC.o7 (by omega);have f5:A7=some ⟨g,0,none⟩:=by injection hv
  have f7:k7=cap:=by injection hv
  subst f5 f7;clear hv;have d5:∀p∈ps,Ab X p.1 p.2.1 p.2.2.1 p.2.2.2/\(0<p.2.1→∀ad,p.1=some ad->ad.block≠g):=fun p hp=>⟨hC.pp p hp,fun hn ad had e=>(hC.pd p hp ad had).2 hn (by rw[e];rfl)⟩
  have d1:=hI d5;clear d5;have HC:=hI hC;clear hC;have HG:=hI hg;have b1:=hI a6;clear hg a6;go_wp2_with fail;refine(Yw g k7 ps X cur HG.out b1.out d1.out (by omega)).mono ?_;rintro e X2 ⟨rfl,a8,ps',cur',a9,d6,d0, -,a1⟩;have a2:ps'.length=ps.length:=a9.length_eq;have c7':X2.cell? ⟨b7,0,none⟩=some (.slice (some ⟨g,0,none⟩) ps.length k7):=cell_of_one ((a8.block b7 (lt_of_block HC.out.c7) (by omega)).trans HC.out.c7)
  have a4:Hid (∀p∈ps',Ab X2 p.1 p.2.1 p.2.2.1 p.2.2.2/\(0<p.2.1→∀ad,p.1=some ad->ad.block≠g)):=fun p hp=>by
   have h5:=d1.out p (a9.mem_iff.1 hp);exact⟨h5.1.keep a8 h5.2,h5.2⟩
  have b3:Hid (Bf (ps'.map Part.word)=Rz Ee (ps.map Part.word)):=Te Eb d6 (fun a=>(a9.map Part.word).mem_iff);have b9:Hid (Below w.heap.size w X2):=a7.out.trans (a8.to_below (B:=w.heap.size) (fun b hb=>by have:=HB.out.size;omega) a7.out.size);have d7:=hI d0;have a5:=hI a1;clear a9 d6 d0 a1 a8 c7;have a0:=hI a2;clear a2;go_wp2_with fail;have a3:=Rs g k7 ps' X2 cur' d7.out a5.out a4.out (by rw[a0.out];omega) (by rw[a0.out];exact f9);rw[a0.out]at a3;refine a3.mono ?_;rintro e X3 ⟨C,rfl,hO⟩;have HO:=hI hO;clear hO a3;go_wp2;refine bodyPost_ret (results_tmp2 Tryz.results46 _ _ _) rfl ⟨some ⟨g,0,none⟩,C.length,k7,by rw[HM.out];rfl, ?_,b9.out.trans (HO.out.kp.to_below (B:=w.heap.size) (fun b hb=>by have:=HB.out.size;omega) b9.out.size)⟩;rw[HM.out,←b3.out];obtain⟨cur3,g3,r3⟩:=HO.out.row
  have f2:C.length<=k7:=by
   have h5:=Lj (ps'.map Part.word);rw[←HO.out.wd,List.length_map,List.length_map]at h5
   have:=a0.out
   omega
  refine⟨C,HO.out.wd,⟨by rw[List.length_map];omega,f2,f3,(fun h=>by cases h),fun _=>⟨g,0,rfl,lt_of_block g3,fun j v hj=> ?_⟩⟩,fun p hp=> ?_⟩
  ·rw[List.getElem?_map]at hj;obtain⟨p,hp,rfl⟩:=Option.map_eq_some_iff.1 hj;rw[Nat.zero_add];exact Ac g3 (r3 j p hp)
  ·have h6:=a4.out p (HO.out.mem p hp);exact h6.1.keep HO.out.kp h6.2
def H7 (B:Nat)(v:Value)(w:World)(p:Part):Prop:=Ab w p.1 p.2.1 p.2.2.1 p.2.2.2∧∀ad,p.1=some ad->B<=ad.block/\(0<p.2.1→¬v.ownBlock=some ad.block)
theorem H7.below {B:Nat}{v:Value}{w w':World}{p:Part}(h:H7 B v w p)(hb:Below w.heap.size w w'):H7 B v w' p:=⟨h.1.below hb rr,h.2⟩
theorem H7.grown {B:Nat}{v v':Value}{w X:World}{p:Part}(h:H7 B v w p)(hg:w.grownBy X v.ownBlock)(a2:v'.ownBlock=v.ownBlock\/v'.ownBlock=some w.heap.size):H7 B v' X p:=by
 have a1:0<p.2.1→∀ad,p.1=some ad->ad.block<w.heap.size:=by
  intro hn ad a0;obtain⟨b,off,hb,a1,_⟩:=h.1.2.2.2.2 hn;rw[a0]at hb;injection hb with hb
  subst hb;exact a1
 refine⟨h.1.keep (S:=fun k=>v.ownBlock=some k) ((Ae.refl (fun k=>v.ownBlock=some k) w).grown hg (fun k e=> .inl e)) fun hn ad a0 e=>(h.2 ad a0).2 hn e,fun ad a0=>⟨(h.2 ad a0).1,fun hn e=> ?_⟩⟩
 rcases a2 with e'|e'
 ·exact(h.2 ad a0).2 hn (e'▸e)
 ·rw[e']at e;injection e with e;have:=a1 hn ad a0;omega
structure Ci where
 p:Part
 q:Part
def Ci.cells (s:Ci):List Value:=[s.p.val,s.q.val]
theorem Ci.len (s:Ci):s.cells.length=2:=rfl
def Ci.data (s:Ci):List Snd×List Snd:=(s.p.word,s.q.word)
def Fp (w:World)(A:Option Addr)(n c:Nat)(ss:List Ci):Prop:=Fc Ci.cells 2 w A n c ss∧∀s∈ss,Ab w s.p.1 s.p.2.1 s.p.2.2.1 s.p.2.2.2/\Ab w s.q.1 s.q.2.1 s.q.2.2.1 s.q.2.2.2
theorem Fp.below {w w':World}{A:Option Addr}{n c:Nat}{ss:List Ci}(h:Fp w A n c ss){B:Nat}(hb:Below B w w')(hB:w.heap.size<=B):Fp w' A n c ss:=
 ⟨h.1.below hb hB,fun s hs=>⟨(h.2 s hs).1.below hb hB,(h.2 s hs).2.below hb hB⟩⟩
structure D2 (w:World)(B:Nat)(v:Value)(ss:List Ci):Prop where
 own:w.ownsRow B 52 2 v ss.length (ss.flatMap Ci.cells)
 pq:∀s∈ss,H7 B v w s.p/\H7 B v w s.q
 sz:B<=w.heap.size
theorem D2.below {w w':World}{B:Nat}{v:Value}{ss:List Ci}(h:D2 w B v ss)(hb:Below w.heap.size w w'):D2 w' B v ss:=
 ⟨Bo h.own fun k e=>hb.block k (h.own.lt k e).2,fun s hs=>⟨(h.pq s hs).1.below hb,(h.pq s hs).2.below hb⟩,Nat.le_trans h.sz hb.size⟩
theorem D2.nil (w:World):D2 w w.heap.size (.slice none 0 0) []:=⟨World.ownsRow_nil _ _ _ _,fun s hs=>by simp at hs,rr⟩
theorem D2.pairs {w:World}{B:Nat}{A:Option Addr}{n c:Nat}{ss:List Ci}(h:D2 w B (.slice A n c) ss)(hn:n=ss.length):Fp w A n c ss:=by
 subst hn;exact⟨Fc.of_own h.own Ci.len (by decide),fun s hs=>⟨(h.pq s hs).1.1,(h.pq s hs).2.1⟩⟩
theorem D2.push {w X:World}{B:Nat}{v v':Value}{ss:List Ci}(h:D2 w B v ss){s:Ci}(hp:H7 B v w s.p)(hq:H7 B v w s.q)
  (hown:X.ownsRow B 52 2 v' (ss.length+1) (ss.flatMap Ci.cells++s.cells)) (hg:w.grownBy X v.ownBlock) (hat:v'.ownBlock=v.ownBlock\/v'.ownBlock=some w.heap.size):D2 X B v' (ss++[s]):=by
 refine⟨?_,fun t ht=> ?_,Nat.le_trans h.sz hg.size⟩
 ·rw[List.length_append,List.length_singleton,List.flatMap_append,List.flatMap_singleton];exact hown
 ·rcases List.mem_append.1 ht with ht|ht
  ·exact⟨(h.pq t ht).1.grown hg hat,(h.pq t ht).2.grown hg hat⟩
  ·obtain rfl:t=s:=by simpa using ht
   exact⟨hp.grown hg hat,hq.grown hg hat⟩
def Aan (w:World)(r:Int×List (List Snd×List Snd))(e:Ending)(w':World):Prop:=
 ∃A n c ss,e= .returned (.tuple #[.slice A n c, .int .i64 r.1])/\ss.map Ci.data=r.2/\Fp w' A n c ss/\Below w.heap.size w w'
def F5 (p:Int)(i:Nat):UInt8:=UInt8.ofNat (p/2^(8*i)%256).toNat
theorem L2 (p:Int)(i:Nat):((F5 p i).toNat:Int)=p/2^(8*i)%256:=by
 unfold F5;rw[UInt8.toNat_ofNat'];have h1:=Int.emod_nonneg (p/2^(8*i)) (show(256:Int)≠0 by decide);have h2:=Int.emod_lt_of_pos (p/2^(8*i)) (show(0:Int)<256 by decide);generalize p/2^(8*i)%256=x at*;rw[Nat.mod_eq_of_lt (by omega)];omega
def Kv (s:Snd):List UInt8:=[F5 s.1 0,F5 s.2 0,F5 s.1 1,F5 s.2 1,F5 s.1 2,F5 s.2 2,F5 s.1 3,F5 s.2 3]
def Dy (w:List Snd):List UInt8:=w.flatMap Kv
theorem Ud {p q:Int}(hp:U32 p)(hq:U32 q)(h0:F5 p 0=F5 q 0)(h1:F5 p 1=F5 q 1)(h2:F5 p 2=F5 q 2)(h3:F5 p 3=F5 q 3):p=q:=by
 have e:∀i,F5 p i=F5 q i->p/2^(8*i)%256=q/2^(8*i)%256:=fun i h=>by rw[←L2,←L2,h]
 have e0:=e 0 h0;have e1:=e 1 h1;have e2:=e 2 h2;have e3:=e 3 h3;obtain⟨a1,a2⟩:=hp;obtain⟨b1,b2⟩:=hq;simp only[Nat.reduceMul,Int.reducePow]at e0 e1 e2 e3;omega
theorem Ri:∀{v w:List Snd},Cc v->Cc w->Dy v=Dy w->v=w
 |[],[],_,_,_=>rfl
 |[],y::w,_,_,h=>by simp[Dy,Kv]at h
 |x::v,[],_,_,h=>by simp[Dy,Kv]at h
 |x::v,y::w,hv,hw,h=>by
  simp only[Dy,List.flatMap_cons,Kv,List.cons_append,List.nil_append,List.cons.injEq]at h;obtain⟨p0,m0,p1,m1,p2,m2,p3,m3,hr⟩:=h;have hx:=hv x List.mem_cons_self;have hy:=hw y List.mem_cons_self;rw[Prod.ext (Ud hx.1 hy.1 p0 p1 p2 p3) (Ud hx.2 hy.2 m0 m1 m2 m3),Ri (fun s hs=>hv s (List.mem_cons_of_mem _ hs)) (fun s hs=>hw s (List.mem_cons_of_mem _ hs)) hr]
theorem Rj (w:List Snd):(Dy w).length=w.length*8:=by
 induction w with
 |nil=>rfl
 |cons x w ih=>simp only[Dy,List.flatMap_cons,List.length_append,List.length_cons]at ih ⊢;rw[ih];simp[Kv];omega
def L3 (w:List Snd):Lit:= .string (Dy w)
theorem Ue {v w:List Snd}(hv:Cc v)(hw:Cc w)(h:L3 v=L3 w):v=w:=Ri hv hw (by injection h)
def Gb (D:DataW Unit)(fs:List (List Snd×List Snd)):Prop:=
 Go.Maps.IsMap D/\(∀t,Cc t->Go.Maps.has D (L3 t)=fs.any fun p=>decide (p.2=t))∧∀(i:Nat) p,fs[i]? =some p->D.atKey (L3 p.2) (.lit (.int .i64 0))= .lit (.int .i64 (i:Int))
theorem Wc:Gb (.map []) []:=⟨Go.Maps.isMap_empty,fun _ _=>rfl,fun i p h=>by simp at h⟩
theorem Yy {D:DataW Unit}{fs:List (List Snd×List Snd)}{x:List Snd×List Snd}(h:Gb D fs)(hu:∀p∈fs,Cc p.2)(hx:Cc x.2)(hn:fs.any (fun p=>decide (p.2=x.2))=false):
  Gb (D.put (L3 x.2) (.lit (.int .i64 (fs.length:Int)))) (fs++[x]):=by
 obtain⟨h1,h2,h3⟩:=h;refine⟨h1.put _ _,fun t ht=> ?_,fun i p hp=> ?_⟩
 ·rw[List.any_append];by_cases e:t=x.2
  ·subst e;rw[Go.Maps.has_put_same h1 (show WideAt.IsKeyLit (L3 x.2)from trivial)];simp
  ·rw[Go.Maps.has_put_other (fun e'=>e (Ue ht hx e')),h2 t ht];have e2:¬x.2=t:=fun e'=>e e'.symm
   simp[e2]
 ·rcases Nat.lt_or_ge i fs.length with hi|hi
  ·rw[List.getElem?_append_left hi]at hp;have hm:=List.mem_of_getElem? hp
   have a0:p.2≠x.2:=fun e=>by
    have:=List.any_eq_false.1 hn p hm
    simp[e]at this
   rw[Go.Maps.atKey_put_other (fun e'=>a0 (Ue (hu p hm) hx e'))];exact h3 i p hp
  ·rw[List.getElem?_append_right hi]at hp
   have h0:i-fs.length=0:=by
    have:=(List.getElem?_eq_some_iff.1 hp).1
    simp at this;omega
   rw[h0]at hp;obtain rfl:x=p:=by simpa using hp
   obtain rfl:i=fs.length:=by omega
   exact Go.Maps.atKey_put_same h1 (show WideAt.IsKeyLit (L3 x.2)from trivial) _ _
theorem Wd {D:DataW Unit}{fs:List (List Snd×List Snd)}{t:List Snd}(h:Gb D fs)(ht:Cc t):
  (Go.Maps.has D (L3 t)=true∧∃(i:Nat) (p:List Snd×List Snd),fs[i]? =some p/\fs.find? (fun p=>decide (p.2=t))=some p/\D.atKey (L3 t) (.lit (.int .i64 0))= .lit (.int .i64 (i:Int)))∨
   (Go.Maps.has D (L3 t)=false/\fs.find? (fun p=>decide (p.2=t))=none/\fs.any (fun p=>decide (p.2=t))=false):=by
 obtain⟨h1,h2,h3⟩:=h;rcases Nz (fs:=fs) (t:=t)with⟨⟨p,e1,e2,e3⟩,e4⟩|⟨e1,e2⟩
 ·obtain⟨i,hi,a0⟩:=List.getElem_of_mem e2;have hp:fs[i]? =some p:=by rw[List.getElem?_eq_getElem hi,a0]
  refine .inl ⟨by rw[h2 t ht,e4],i,p,hp,e1, ?_⟩;rw[←e3];exact h3 i p hp
 ·exact .inr ⟨by rw[h2 t ht,e2],e1,e2⟩
end Go.Proofs.YtlgliddhideflaaGreatDoor
