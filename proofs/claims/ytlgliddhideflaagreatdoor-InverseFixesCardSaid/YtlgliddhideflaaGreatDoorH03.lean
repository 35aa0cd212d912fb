/-
  inverse.words and its iterator: the words of an alphabet with so many sounds, in order.
  inverse.sources and its iterator: the words that are searched and become a word, in order.
  The iterator of inverse.sources.
  Words collected into a captured slice, where the words are kept as they were handed over.
-/
import Derived.Test.YtlgliddhideflaaGreatDoorH02
set_option linter.all false
set_option maxRecDepth 100000
set_option maxHeartbeats 4000000
namespace Go.Proofs.YtlgliddhideflaaGreatDoor
open Go.RowKit Go.Shelf
attribute [local go_sem] Oper.semAt_some
def plC (q:List Nat):Array Value:=((q++List.replicate (6-q.length) 0).map fun d:Nat=>Value.int .i64 d).toArray
theorem Aer {q:List Nat}{i d:Nat}(h:q[i]? =some d):(plC q)[i]? =some (.int .i64 d):=by
 have hi:=(List.getElem?_eq_some_iff.1 h).1;simp only[plC,List.getElem?_toArray,List.getElem?_map];rw[List.getElem?_append_left hi,h];rfl
theorem Afl (q:List Nat)(i d:Nat)(h:i<q.length):(plC q).setIfInBounds i (.int .i64 d)=plC (q.set i d):=by
 unfold plC;rw[List.setIfInBounds_toArray,←List.map_set,List.set_append_left _ _ h,List.length_set]
theorem Acn (k:Nat)(hk:k<=6):plC (List.replicate k 0)= #[.int .i64 0, .int .i64 0, .int .i64 0, .int .i64 0, .int .i64 0, .int .i64 0]:=by
 unfold plC;rw[List.length_replicate,List.replicate_append_replicate,show k+(6-k)=6 by omega];rfl
def Amg (w:World)(b k:Nat):List Nat:=(List.range k).map fun j=>match w.cell? ⟨b,j,none⟩with|some (.int _ v)=>v.toNat|_=>0
theorem Aac {w:World}{b k:Nat}{p:List Nat}{t:TypeId}(h:w.heap[b]? =some (.cells (plC p) t (0,0)))(hp:p.length=k):Amg w b k=p:=by
 subst hp;apply List.ext_getElem?;intro j;unfold Amg;rw[List.getElem?_map];rcases Nat.lt_or_ge j p.length with hj|hj
 ·have h1:p[j]? =some p[j]:=List.getElem?_eq_getElem hj;rw[List.getElem?_range hj,Option.map_some,Ab h (Aer h1),h1];simp
 ·rw[List.getElem?_eq_none (by simpa using hj),List.getElem?_eq_none hj];rfl
structure Akz (lr bn bs:Nat)(A:Option Addr)(n c:Nat)(ss:List Snd)(k B:Nat)(J:Nat->(Nat->Prop)->World->Prop)(Jx:World->Prop):Prop where
 hB:∀i T W,J i T W->B<=W.heap.size
 hlt:∀i T W,J i T W→∀b,T b->b<W.heap.size
 hst:∀i T W W',J i T W->Aj (fun b=>B<=b∧¬T b) W W'->J i T W'
 hrd:∀i T W,J i T W->W.heap[bs]? =some (.cells #[.slice A n c] 32 (0,0))/\W.heap[bn]? =some (.cells #[.int .i64 k] 3 (0,0))/\Ad W A n c ss
 hy:∀i T W A' c' x,(Bp (Ba ss) k)[i]? =some x->Ad W A' k c' x->(∀ad,A'=some ad->B<=ad.block∧¬T ad.block)->J i T W->YieldAt Fence.wide 0 Tryz.prog lr #[.slice A' k c'] W (fun e W''=>
  (e= .returned (.bool true)∧∃T',J (i+1) T' W''/\Aj T W W''∧∀b,T' b->T b\/W.heap.size<=b)\/(e= .returned (.bool false)/\Jx W''))
theorem Ts (m lr bn bs:Nat)(hm:1<=m)(A:Option Addr)(n c:Nat)(ss:List Snd)(k B:Nat)(W:World)(J:Nat->(Nat->Prop)->World->Prop)(Jx:World->Prop)(T0:Nat->Prop)
  (H:Akz lr bn bs A n c ss k B J Jx) (h0:J 0 T0 W) (hn:n<=5) (hk:k<=6) (hd:ss.Nodup):
  CallsIn Fence.wide m Tryz.prog 189 #[.func (.yield lr) #[] #[], .pointer (some ⟨bn,0,none⟩), .pointer (some ⟨bs,0,none⟩)] W fun e W'=>
   (∃v,e= .returned v)/\((∃T,J (Bp (Ba ss) k).length T W')\/Jx W'):=by
 have d0:=H.hlt _ _ _ h0;have o2:=H.hB _ _ _ h0;obtain⟨r1,r2,r3⟩:=H.hrd _ _ _ h0;have e1:=cell_of_one r2;have e2:=cell_of_one r1;have j5:=lt_of_block r1;have j4:=lt_of_block r2;have k1:=r3.len;have m3:=hI k1;clear k1;have j0:(Ba ss).length=n:=(Fk hd).trans m3.out;have b9:=hI j0;clear j0;have j3:=fun X (hX:Below W.heap.size W X)=>Aah X.heap.size A n c ss (X.alloc (.cells #[.slice A n c] 32)) (Ak rfl) (r3.below (B:=W.heap.size) (hX.alloc hX.size _) rr) hn hd
 have k2:=hI j3;clear j3;have HU:=hI H;clear H;have H0:=hI h0;clear h0;clear r1 r2 r3;have HD:=hI hd;clear hd;refine callsIn_of_wp Tryz.func189 rfl trivial ?_;simp only[Tryz.ntmps189,List.size_toArray,List.length_cons,List.length_nil,Nat.reduceAdd,Nat.reduceSub,Array.replicate_succ,Array.replicate_zero,List.push_toArray,List.append_toArray,List.nil_append,List.cons_append];by_cases hz:0<k/\n=0
 ·obtain⟨j8,rfl⟩:=hz;have g6:(0:Int)<(k:Int):=by omega
  gi_wp2;refine bodyPost_ret (results_none rfl _ _ _) rfl ⟨⟨_,rfl⟩, .inl ⟨T0, ?_⟩⟩;have h1:(Bp (Ba ss) k).length=0:=by rw[Hk,b9.out];exact Nat.zero_pow j8
  rw[h1];exact H0.out
 have j2:∀w:World,(Instr.makeSlice 32 (.int .i64 (k:Int)) (.int .i64 (k:Int))).run Tryz.prog w=_:=Xh k (by omega);have HZ:=hI hz;clear hz;by_cases j8:0<k
 ·have g6:(0:Int)<(k:Int):=by omega
  have a1:((n:Int)==0)=false:=by have:=HZ.out;simp;omega
  gi_wp2;clear g6 a1;refine⟨trivial, ?_⟩;refine(callsIn_wide.2 (Aae A n c W)).mono ?_;rintro e w1 ⟨rfl,rfl⟩;gi_wp2;refine⟨trivial, ?_⟩;refine(callsIn_wide.2 (k2.out W (Below.refl _ _))).mono ?_;rintro e w2 ⟨A2,c2,rfl,d8,d3,d4⟩;have a9:Below W.heap.size W w2:=((Below.refl W.heap.size W).alloc rr _).trans (d3.mono (by simp));have e1:=(a9.cell (p:=⟨bn,0,none⟩) (lt_of_block (HU.out.hrd _ _ _ H0.out).2.1)).trans e1;have a6:=a9.size;have b5:bn<w2.heap.size:=Nat.lt_of_lt_of_le j4 a6;have b4:=hI d8;have i4:=hI (show∀ad,A2=some ad->W.heap.size<=ad.block from fun ad had=>by have:=d4 ad had;simp at this;omega);have f8:=hI (HU.out.hst _ _ _ _ H0.out (show Aj (fun b=>B<=b∧¬T0 b) W w2 from Bc a9));clear d8 d3 d4 a9 e2;gi_wp2;rw[←Acn k hk];obtain⟨bp,b6⟩:∃bp,bp=w2.heap.size:=⟨_,rfl⟩
  have g0:0<n→∀ad,A2=some ad→¬T0 ad.block/\ad.block<bp:=fun a1 ad had=>by
   obtain⟨b,off,hb,i3,_⟩:=b4.out.2.2.2.2 a1;have h1:=i4.out ad had;rw[had]at hb;injection hb with hb;subst hb
   simp only at h1 i3 ⊢;exact⟨fun h=>by have:=d0 _ h;omega,by omega⟩
  have f6:=hI g0;clear g0;have x1:((w2.alloc (.cells (plC (List.replicate k 0)) 226)).alloc (.cells (Bl (List.replicate k (0,0))).toArray 24)).heap[w2.heap.size]? =some (.cells (plC (List.replicate k 0)) 226 (0,0)):=hpt;have x2:((w2.alloc (.cells (plC (List.replicate k 0)) 226)).alloc (.cells (Bl (List.replicate k (0,0))).toArray 24)).heap[w2.heap.size+1]? =some (.cells (Bl (List.replicate k (0,0))).toArray 24 (0,0)):=hpt;have x3:Below w2.heap.size w2 ((w2.alloc (.cells (plC (List.replicate k 0)) 226)).alloc (.cells (Bl (List.replicate k (0,0))).toArray 24)):=bel;rw[←b6]at x1 x2 ⊢;generalize(w2.alloc (.cells (plC (List.replicate k 0)) 226)).alloc (.cells (Bl (List.replicate k (0,0))).toArray 24)=V at*;have f3:=HU.out.hst _ _ _ _ f8.out (show Aj (fun b=>B<=b∧¬T0 b) w2 V from Bc x3);have f7:=hI f3;have f9:=hI (b4.out.below x3 rr);have X1:=hI x1;have X2:=hI x2;have m0:B<=bp/\W.heap.size<=bp:=by omega
  have k5:=hI b6;clear b6 x1 x2 x3 f3 f8 b4 e1 j2 b5 a6
  gi_loopw [7] (fun _ wr=>∃(p:List Nat) (T:Nat->Prop) (x:List Snd),Hid (p.length=k∧∀d∈p,d<n)/\Hid (x.length=k)/\Hid (J (Hb n p) T wr)/\Hid (wr.heap[bp]? =some (.cells (plC p) 226 (0,0)))∧
    Hid (wr.heap[bp+1]? =some (.cells (Bl x).toArray 24 (0,0)))/\Hid (¬T bp∧¬T (bp+1))/\Hid (Ad wr A2 n c2 (Ba ss))/\Hid (0<n→∀ad,A2=some ad→¬T ad.block/\ad.block<bp))
   (fun _ wr=>n^k-Hb n (Amg wr bp k))
  case atStart=>
   refine⟨List.replicate k 0,T0,List.replicate k (0,0),⟨by simp,fun d hd=> ?_⟩,(by simp:(List.replicate k ((0,0):Snd)).length=k), ?_,X1,X2,⟨fun h=>by have:=d0 _ h;omega,fun h=>by have:=d0 _ h;omega⟩,f9,f6⟩
   ·have h1:=List.eq_of_mem_replicate hd
    have h2:0<k:=by rcases Nat.eq_zero_or_pos k with h|h; · subst h;simp at hd
                    ·exact h
    have:=HZ.out;omega
   ·rw[Xy];exact f7
  case round=>
   clear X1 X2 f9 f6 f7;obtain⟨p,T,x,hp,hx,HJ,a5,d7,hT,hl,hA⟩:=hrel;obtain⟨q1,q2,q3⟩:=HU.out.hrd _ _ _ HJ.out;have b8:=cell_of_one q2;have Q2:=hI q2;clear q1 q2 q3;gi_wp2;obtain⟨wo,rfl⟩:∃wo:World,wo=wr:=⟨_,rfl⟩;clear b8
   gi_loopw [7,22] (fun _ i wr=>∃(j:Nat) (y:List Snd),i= .int .i64 j/\j<=k/\Hid (y.length=k/\y.take j=(Vi (Ba ss) p).take j)/\Hid (wr.heap[bp+1]? =some (.cells (Bl y).toArray 24 (0,0)))/\Hid (Aj (fun b=>b=bp+1) wo wr))
    (fun _ i _=>k-(intOf i).toNat)
   case atStart=>exact⟨0,x,rfl,Nat.zero_le _,⟨hx.out,by simp⟩,d7,Aj.refl _ _⟩
   case round=>
    obtain⟨j,y,rfl,hj,hy,a2,a4⟩:=hrel;by_cases hjk:j<k
    ·have k9:(j:Int)<(k:Int):=by omega
     obtain⟨d,hd⟩:∃d,p[j]? =some d:=⟨p[j]'(by rw[hp.out.1];exact hjk),List.getElem?_eq_getElem _⟩;have j7:d<n:=hp.out.2 d (List.mem_of_getElem? hd);have a1:0<n:=by omega
     have m9:=lt_of_block a2.out;have a0:wr.heap[bp]? =some (.cells (plC p) 226 (0,0)):=(a4.out.block _ (lt_of_block a5.out) (by omega)).trans a5.out;have c1:=Ab a0 (Aer hd);have b2:=hl.out.keep a4.out (fun a1 ad had h=>by have:=(hA.out a1 ad had).2;omega);obtain⟨b3,off3,p',q',rfl,m7,j9,m8,m6⟩:=b2.at_ j7;obtain⟨⟨yp,yq⟩,i2⟩:∃z,y[j]? =some z:=⟨y[j]'(by rw[hy.out.1];exact hjk),List.getElem?_eq_getElem _⟩
     have i6:(Bl y)[j*2]? =some (.int .u32 yp)/\(Bl y)[j*2+1]? =some (.int .u32 yq):=by
      rw[←Gf];exact⟨Mi Nu 2 Gt y j _ i2 0 _ rfl,Mi Nu 2 Gt y j _ i2 1 _ rfl⟩
     have o0:=Ab (j:=j*2) a2.out (by simpa using i6.1);have o1:=Ab (j:=j*2+1) a2.out (by simpa using i6.2);have f0:wr.frozen? ⟨bp+1,j*2,none⟩=false:=by simp[World.frozen?,a2.out]
     have f1:wr.frozen? ⟨bp+1,j*2+1,none⟩=false:=by simp[World.frozen?,a2.out]
     have k6:=hI j9;have HD:=hI hd;clear i6 i2 b2 a0 j9 hd
     have k0:(y.set j (p',q')).length=k/\(y.set j (p',q')).take (j+1)=(Vi (Ba ss) p).take (j+1):=by
      refine⟨by rw[List.length_set];exact hy.out.1, ?_⟩
      have h1:(Vi (Ba ss) p)[j]? =some (p',q'):=by
       unfold Vi;rw[List.getElem?_map,HD.out,Option.map_some,List.getD_eq_getElem?_getD,k6.out];rfl
      have h2:(y.set j (p',q'))[j]? =some (p',q'):=by rw[List.getElem?_set_self (by rw[hy.out.1];exact hjk)]
      rw[Bb _ j _ h1,Bb _ j _ h2,List.take_set_of_le rr,hy.out.2]
     have m1:=hI k0;clear k0;have i9:=Bk (o:=j*2+1) (u:= .int .u32 q') (Bk (o:=j*2) (u:= .int .u32 p') a2.out);rw[Adj y j p' q' (by rw[hy.out.1];exact hjk)]at i9;have k3:=hI i9;clear i9;gi_wp2
     go_roundw
     case rel=>exact⟨j+1,y.set j (p',q'),by go_num,by omega,m1,k3,(a4.out.setCell (p:=⟨bp+1,j*2,none⟩) rfl _).setCell (p:=⟨bp+1,j*2+1,none⟩) rfl _⟩
     case measure=>simp[intOf];omega
    ·obtain rfl:k=j:=by omega
     have f5:y=Vi (Ba ss) p:=by
      have h1:=hy.out.2;rw[List.take_of_length_le (by rw[hy.out.1];exact rr),List.take_of_length_le (by simp[Vi,hp.out.1])]at h1;exact h1
     have d5:(Bp (Ba ss) k)[Hb n p]? =some y:=by
      have h:=Vj (Ba ss) k p hp.out.1 (by rw[b9.out];exact hp.out.2);rw[b9.out]at h;rw[f5];exact h
     have f4:J (Hb n p) T wr:=HU.out.hst _ _ _ _ HJ.out (a4.out.mono (fun b hb=>by subst hb;exact⟨by omega,hT.out.2⟩));have d2:Ad wr (some ⟨bp+1,0,none⟩) k k y:=Aba a2.out hy.out.1 (by unfold maxLen;omega);obtain⟨fn,tmps,assign,body,i8,hR⟩:=Fp (m':=m-1) (HU.out.hy _ T _ _ _ y d5 d2 (fun ad had=>by cases had;exact⟨by simp only;omega,hT.out.2⟩) f4);have HR:=hI hR;have b2:=hI (hl.out.keep a4.out (fun a1 ad had h=>by have:=(hA.out a1 ad had).2;omega));have a0:=hI ((a4.out.block _ (lt_of_block a5.out) (by omega)).trans a5.out);have d9:=hI (Aac a5.out hp.out.1);clear hR f5 d5 f4 d2 a5 d7 hl;gi_wp2;refine HR.out.mono ?_;rintro e W4 (⟨rfl,T',b7,b1,a7⟩|⟨rfl,hx⟩)
     ·have g1:=(b1.block _ (lt_of_block a0.out) hT.out.1).trans a0.out;have g2:=(b1.block _ (lt_of_block a2.out) hT.out.2).trans a2.out;have g3:=b2.out.keep b1 (fun a1 ad had=>(hA.out a1 ad had).1);have g4:0<n→∀ad,A2=some ad→¬T' ad.block/\ad.block<bp:=fun a1 ad had=>⟨fun h=>(a7 _ h).elim (hA.out a1 ad had).1 (fun h2=>by have:=(hA.out a1 ad had).2;have:=lt_of_block a0.out;omega),(hA.out a1 ad had).2⟩
      have g5:¬T' bp∧¬T' (bp+1):=⟨fun h=>(a7 _ h).elim hT.out.1 (fun h2=>by have:=lt_of_block a0.out;omega),fun h=>(a7 _ h).elim hT.out.2 (fun h2=>by have:=lt_of_block a2.out;omega)⟩
      obtain⟨q1,q2,q3⟩:=HU.out.hrd _ _ _ b7;have b8:=cell_of_one q2;have G1:=hI g1;have G2:=hI g2;have G3:=hI g3;have G4:=hI g4;have G5:=hI g5;have g7:=hI b7;have j6:=hI hy.out.1;clear q1 q2 q3 g1 g2 g3 g4 g5 b7 b1 a7 i8 b2 a0 a2 a4 hy HR hA hT;gi_wp2;clear b8
      gi_loopw [8] (fun i wr=>∃(z:Int) (i0:Nat) (q:List Nat),i= .int .i64 z/\z=(i0:Int)-1/\i0<=k/\Hid (Back n k p i0 q)/\Hid (wr.heap[bp]? =some (.cells (plC q) 226 (0,0)))/\Hid (Aj (fun b=>b=bp) W4 wr))
       (fun i _=>(intOf i+1).toNat)
      case atStart=>exact⟨(k:Int)-1,k,p,rfl,rfl,rr,Back.start hp.out.1,G1,Aj.refl _ _⟩
      case round=>
       obtain⟨z,i0,q,rfl,hz,k7,d1,b0,a8⟩:=hrel;have i7:=hI (HU.out.hst _ _ _ _ g7.out (a8.out.mono (fun b hb=>by subst hb;exact⟨by omega,G5.out.1⟩):Aj (fun b=>B<=b∧¬T' b) W4 wr));rcases Nat.eq_zero_or_pos i0 with d6|d6
       ·have f2:z= -1:=by omega
        subst f2;subst d6;have a3:=d1.out.last;have i5:=hI a3;clear a3 hz;gi_wp2;refine bodyPost_ret (results_none rfl _ _ _) rfl ⟨⟨_,rfl⟩, .inl ⟨T', ?_⟩⟩;rw[Hk,b9.out,←i5.out];exact i7.out
       ·obtain⟨i1,rfl⟩:∃i1,i0=i1+1:=⟨i0-1,by omega⟩;have f2:z=(i1:Int):=by omega
        subst f2;have k4:i1<k:=by omega
        obtain⟨d,hd⟩:∃d,p[i1]? =some d:=⟨p[i1]'(by rw[hp.out.1];exact k4),List.getElem?_eq_getElem _⟩;have j7:d<n:=hp.out.2 d (List.mem_of_getElem? hd);have g8:q[i1]? =some d:=(d1.out.digit hp.out.1).trans hd;have j1:i1<q.length:=(List.getElem?_eq_some_iff.1 g8).1;have c1:=Ab b0.out (Aer g8);have f1:wr.frozen? ⟨bp,i1,none⟩=false:=by simp[World.frozen?,b0.out]
        have s1:=Bk (o:=i1) (u:= .int .i64 ((d+1:Nat):Int)) b0.out;rw[Afl q i1 (d+1) j1]at s1;have S1:=hI s1;have HD:=hI hd;have m5:=hI g8;clear s1 hd g8 hz;rw[show((d+1:Nat):Int)=(d:Int)+1 by omega]at S1;have g9:=hI (a8.out.setCell (p:=⟨bp,i1,none⟩) rfl (.int .i64 ((d:Int)+1)));by_cases hfull:d+1<n
        ·have m4:(d:Int)+1<(n:Int):=by omega
         obtain⟨n1,n2,n3⟩:=d1.out.next hp.out.1 HD.out hp.out.2 hfull;have N:=hI (And.intro n1 (And.intro n2 n3));clear n1 n2 n3;have m2:=hI (HU.out.hst _ _ _ _ g7.out (g9.out.mono (fun b hb=>by subst hb;exact⟨by omega,G5.out.1⟩):Aj (fun b=>B<=b∧¬T' b) W4 _));have k8:=lt_of_block G2.out;gi_wp2
         go_roundw
         case rel=>
          exact⟨q.set i1 (d+1),T',y,⟨N.out.1,N.out.2.1⟩,j6,by rw[N.out.2.2];exact m2,S1,(g9.out.block _ k8 (by omega)).trans G2.out,G5,G3.out.keep g9.out (fun a1 ad had h=>by have:=(G4.out a1 ad had).2;omega),G4⟩
         case measure=>
          rw[d9.out,Aac S1.out N.out.1,N.out.2.2]
          have:=Ae3 k p hp.out.1 hp.out.2
          omega
        ·have m4:¬(d:Int)+1<(n:Int):=by omega
         have j5:=hI (d1.out.step hp.out.1 HD.out (by omega));have s2:=Bk (o:=i1) (u:= .int .i64 ((0:Nat):Int)) S1.out;rw[Afl _ i1 0 (by rw[List.length_set];exact j1),List.set_set]at s2;have S2:=hI s2;clear s2;gi_wp2
         go_roundw
         case rel=>
          exact⟨(i1:Int)-1,i1,q.set i1 0,rfl,rfl,by omega,j5,S2,g9.out.setCell (p:=⟨bp,i1,none⟩) rfl _⟩
         case measure=>simp[intOf]
     ·have HX:=hI hx;clear hx;gi_wp2;refine bodyPost_ret (results_none rfl _ _ _) rfl ⟨⟨_,rfl⟩, .inr HX.out⟩
 ·have g6:¬(0:Int)<(k:Int):=by omega
  gi_wp2;clear g6;refine⟨trivial, ?_⟩;refine(callsIn_wide.2 (Aae A n c W)).mono ?_;rintro e w1 ⟨rfl,rfl⟩;gi_wp2;refine⟨trivial, ?_⟩;refine(callsIn_wide.2 (k2.out W (Below.refl _ _))).mono ?_;rintro e w2 ⟨A2,c2,rfl,d8,d3,d4⟩;have a9:Below W.heap.size W w2:=((Below.refl W.heap.size W).alloc rr _).trans (d3.mono (by simp));have e1:=(a9.cell (p:=⟨bn,0,none⟩) (lt_of_block (HU.out.hrd _ _ _ H0.out).2.1)).trans e1;have a6:=a9.size;have b5:bn<w2.heap.size:=Nat.lt_of_lt_of_le j4 a6;have b4:=hI d8;have i4:=hI (show∀ad,A2=some ad->W.heap.size<=ad.block from fun ad had=>by have:=d4 ad had;simp at this;omega);have f8:=hI (HU.out.hst _ _ _ _ H0.out (show Aj (fun b=>B<=b∧¬T0 b) W w2 from Bc a9));clear d8 d3 d4 a9 e2;gi_wp2;rw[←Acn k hk];obtain⟨bp,b6⟩:∃bp,bp=w2.heap.size:=⟨_,rfl⟩
  have g0:0<n→∀ad,A2=some ad→¬T0 ad.block/\ad.block<bp:=fun a1 ad had=>by
   obtain⟨b,off,hb,i3,_⟩:=b4.out.2.2.2.2 a1;have h1:=i4.out ad had;rw[had]at hb;injection hb with hb;subst hb
   simp only at h1 i3 ⊢;exact⟨fun h=>by have:=d0 _ h;omega,by omega⟩
  have f6:=hI g0;clear g0;have x1:((w2.alloc (.cells (plC (List.replicate k 0)) 226)).alloc (.cells (Bl (List.replicate k (0,0))).toArray 24)).heap[w2.heap.size]? =some (.cells (plC (List.replicate k 0)) 226 (0,0)):=hpt;have x2:((w2.alloc (.cells (plC (List.replicate k 0)) 226)).alloc (.cells (Bl (List.replicate k (0,0))).toArray 24)).heap[w2.heap.size+1]? =some (.cells (Bl (List.replicate k (0,0))).toArray 24 (0,0)):=hpt;have x3:Below w2.heap.size w2 ((w2.alloc (.cells (plC (List.replicate k 0)) 226)).alloc (.cells (Bl (List.replicate k (0,0))).toArray 24)):=bel;rw[←b6]at x1 x2 ⊢;generalize(w2.alloc (.cells (plC (List.replicate k 0)) 226)).alloc (.cells (Bl (List.replicate k (0,0))).toArray 24)=V at*;have f3:=HU.out.hst _ _ _ _ f8.out (show Aj (fun b=>B<=b∧¬T0 b) w2 V from Bc x3);have f7:=hI f3;have f9:=hI (b4.out.below x3 rr);have X1:=hI x1;have X2:=hI x2;have m0:B<=bp/\W.heap.size<=bp:=by omega
  have k5:=hI b6;clear b6 x1 x2 x3 f3 f8 b4 e1 j2 b5 a6
  gi_loopw [7] (fun _ wr=>∃(p:List Nat) (T:Nat->Prop) (x:List Snd),Hid (p.length=k∧∀d∈p,d<n)/\Hid (x.length=k)/\Hid (J (Hb n p) T wr)/\Hid (wr.heap[bp]? =some (.cells (plC p) 226 (0,0)))∧
    Hid (wr.heap[bp+1]? =some (.cells (Bl x).toArray 24 (0,0)))/\Hid (¬T bp∧¬T (bp+1))/\Hid (Ad wr A2 n c2 (Ba ss))/\Hid (0<n→∀ad,A2=some ad→¬T ad.block/\ad.block<bp))
   (fun _ wr=>n^k-Hb n (Amg wr bp k))
  case atStart=>
   refine⟨List.replicate k 0,T0,List.replicate k (0,0),⟨by simp,fun d hd=> ?_⟩,(by simp:(List.replicate k ((0,0):Snd)).length=k), ?_,X1,X2,⟨fun h=>by have:=d0 _ h;omega,fun h=>by have:=d0 _ h;omega⟩,f9,f6⟩
   ·have h1:=List.eq_of_mem_replicate hd
    have h2:0<k:=by rcases Nat.eq_zero_or_pos k with h|h; · subst h;simp at hd
                    ·exact h
    have:=HZ.out;omega
   ·rw[Xy];exact f7
  case round=>
   clear X1 X2 f9 f6 f7;obtain⟨p,T,x,hp,hx,HJ,a5,d7,hT,hl,hA⟩:=hrel;obtain⟨q1,q2,q3⟩:=HU.out.hrd _ _ _ HJ.out;have b8:=cell_of_one q2;have Q2:=hI q2;clear q1 q2 q3;gi_wp2;obtain⟨wo,rfl⟩:∃wo:World,wo=wr:=⟨_,rfl⟩;clear b8
   gi_loopw [7,22] (fun _ i wr=>∃(j:Nat) (y:List Snd),i= .int .i64 j/\j<=k/\Hid (y.length=k/\y.take j=(Vi (Ba ss) p).take j)/\Hid (wr.heap[bp+1]? =some (.cells (Bl y).toArray 24 (0,0)))/\Hid (Aj (fun b=>b=bp+1) wo wr))
    (fun _ i _=>k-(intOf i).toNat)
   case atStart=>exact⟨0,x,rfl,Nat.zero_le _,⟨hx.out,by simp⟩,d7,Aj.refl _ _⟩
   case round=>
    obtain⟨j,y,rfl,hj,hy,a2,a4⟩:=hrel;by_cases hjk:j<k
    ·exfalso;omega
    ·obtain rfl:k=j:=by omega
     have f5:y=Vi (Ba ss) p:=by
      have h1:=hy.out.2;rw[List.take_of_length_le (by rw[hy.out.1];exact rr),List.take_of_length_le (by simp[Vi,hp.out.1])]at h1;exact h1
     have d5:(Bp (Ba ss) k)[Hb n p]? =some y:=by
      have h:=Vj (Ba ss) k p hp.out.1 (by rw[b9.out];exact hp.out.2);rw[b9.out]at h;rw[f5];exact h
     have f4:J (Hb n p) T wr:=HU.out.hst _ _ _ _ HJ.out (a4.out.mono (fun b hb=>by subst hb;exact⟨by omega,hT.out.2⟩));have d2:Ad wr (some ⟨bp+1,0,none⟩) k k y:=Aba a2.out hy.out.1 (by unfold maxLen;omega);obtain⟨fn,tmps,assign,body,i8,hR⟩:=Fp (m':=m-1) (HU.out.hy _ T _ _ _ y d5 d2 (fun ad had=>by cases had;exact⟨by simp only;omega,hT.out.2⟩) f4);have HR:=hI hR;have b2:=hI (hl.out.keep a4.out (fun a1 ad had h=>by have:=(hA.out a1 ad had).2;omega));have a0:=hI ((a4.out.block _ (lt_of_block a5.out) (by omega)).trans a5.out);have d9:=hI (Aac a5.out hp.out.1);clear hR f5 d5 f4 d2 a5 d7 hl;gi_wp2;refine HR.out.mono ?_;rintro e W4 (⟨rfl,T',b7,b1,a7⟩|⟨rfl,hx⟩)
     ·have g1:=(b1.block _ (lt_of_block a0.out) hT.out.1).trans a0.out;have g2:=(b1.block _ (lt_of_block a2.out) hT.out.2).trans a2.out;have g3:=b2.out.keep b1 (fun a1 ad had=>(hA.out a1 ad had).1);have g4:0<n→∀ad,A2=some ad→¬T' ad.block/\ad.block<bp:=fun a1 ad had=>⟨fun h=>(a7 _ h).elim (hA.out a1 ad had).1 (fun h2=>by have:=(hA.out a1 ad had).2;have:=lt_of_block a0.out;omega),(hA.out a1 ad had).2⟩
      have g5:¬T' bp∧¬T' (bp+1):=⟨fun h=>(a7 _ h).elim hT.out.1 (fun h2=>by have:=lt_of_block a0.out;omega),fun h=>(a7 _ h).elim hT.out.2 (fun h2=>by have:=lt_of_block a2.out;omega)⟩
      obtain⟨q1,q2,q3⟩:=HU.out.hrd _ _ _ b7;have b8:=cell_of_one q2;have G1:=hI g1;have G2:=hI g2;have G3:=hI g3;have G4:=hI g4;have G5:=hI g5;have g7:=hI b7;have j6:=hI hy.out.1;clear q1 q2 q3 g1 g2 g3 g4 g5 b7 b1 a7 i8 b2 a0 a2 a4 hy HR hA hT;gi_wp2;clear b8
      gi_loopw [8] (fun i wr=>∃(z:Int) (i0:Nat) (q:List Nat),i= .int .i64 z/\z=(i0:Int)-1/\i0<=k/\Hid (Back n k p i0 q)/\Hid (wr.heap[bp]? =some (.cells (plC q) 226 (0,0)))/\Hid (Aj (fun b=>b=bp) W4 wr))
       (fun i _=>(intOf i+1).toNat)
      case atStart=>exact⟨(k:Int)-1,k,p,rfl,rfl,rr,Back.start hp.out.1,G1,Aj.refl _ _⟩
      case round=>
       obtain⟨z,i0,q,rfl,hz,k7,d1,b0,a8⟩:=hrel;have i7:=hI (HU.out.hst _ _ _ _ g7.out (a8.out.mono (fun b hb=>by subst hb;exact⟨by omega,G5.out.1⟩):Aj (fun b=>B<=b∧¬T' b) W4 wr));rcases Nat.eq_zero_or_pos i0 with d6|d6
       ·have f2:z= -1:=by omega
        subst f2;subst d6;have a3:=d1.out.last;have i5:=hI a3;clear a3 hz;gi_wp2;refine bodyPost_ret (results_none rfl _ _ _) rfl ⟨⟨_,rfl⟩, .inl ⟨T', ?_⟩⟩;rw[Hk,b9.out,←i5.out];exact i7.out
       ·exfalso;omega
     ·have HX:=hI hx;clear hx;gi_wp2;refine bodyPost_ret (results_none rfl _ _ _) rfl ⟨⟨_,rfl⟩, .inr HX.out⟩
theorem Afm (A:Option Addr)(n c:Nat)(k:Int)(w:World):Calls Tryz.prog 161 #[.slice A n c, .int .i64 k] w fun e w'=>
  e= .returned (.func (.func 189) #[] #[.pointer (some ⟨w.heap.size+1,0,none⟩), .pointer (some ⟨w.heap.size,0,none⟩)])/\w'.heap[w.heap.size+1]? =some (.cells #[.int .i64 k] 3 (0,0))∧
   w'.heap[w.heap.size]? =some (.cells #[.slice A n c] 32 (0,0))/\Below w.heap.size w w'/\w'.heap.size=w.heap.size+2:=by
 go_enter Tryz.func161,Tryz.ntmps161;go_wp2;go_ret;exact⟨rfl,hpt,hpt,bel,by simp⟩
end Go.Proofs.YtlgliddhideflaaGreatDoor
namespace Go.Proofs.YtlgliddhideflaaGreatDoor
open Go.RowKit Go.Shelf
attribute [local go_sem] Oper.semAt_some
structure An0 (lr bs bl bw:Nat)(A:Option Addr)(n c:Nat)(xs:List Co)(Aw:Option Addr)(nw cw:Nat)(ws:List Snd)(As:Option Addr)(ns cs:Nat)(ss:List Snd)(B:Nat)(J:Nat->(Nat->Prop)->World->Prop)(Jx:(Nat->Prop)->World->Prop):Prop where
 hB:∀i T W,J i T W->B<=W.heap.size
 hlt:∀i T W,J i T W→∀b,T b->b<W.heap.size
 hst:∀i T W W',J i T W->Aj (fun b=>B<=b∧¬T b) W W'->J i T W'
 hsx:∀T W W',Jx T W->Aj (fun b=>B<=b∧¬T b) W W'->Jx T W'
 hrd:∀i T W,J i T W->W.heap[bs]? =some (.cells #[.slice As ns cs] 32 (0,0))/\W.heap[bl]? =some (.cells #[.slice A n c] 35 (0,0))/\W.heap[bw]? =some (.cells #[.slice Aw nw cw] 32 (0,0))∧
  B4 W A n c xs/\Ad W Aw nw cw ws/\Ad W As ns cs ss/\Cq W
 hnd:∀i T W,J i T W→∀b,T b→∀x,W.heap[b]? ≠some (.deferred x)
 hnx:∀T W,Jx T W→∀b,T b→∀x,W.heap[b]? ≠some (.deferred x)
 hy:∀i T W A' k c' x,(Cl (Ah xs) ws ss)[i]? =some x->Ad W A' k c' x->(∀ad,A'=some ad->B<=ad.block∧¬T ad.block)->J i T W->YieldAt Fence.wide 0 Tryz.prog lr #[.slice A' k c'] W (fun e W''=>
  Aj T W W''/\((e= .returned (.bool true)∧∃T',J (i+1) T' W''∧∀b,T' b->T b\/W.heap.size<=b)\/(e= .returned (.bool false)∧∃T',Jx T' W''∧∀b,T' b->T b\/W.heap.size<=b)))
def An1 (w:World)(A:Option Addr)(n c:Nat)(Aw:Option Addr)(nw cw:Nat)(As:Option Addr)(ns cs:Nat)(e:Ending)(w':World):Prop:=
 ∃bs bl bw:Nat,e= .returned (.func (.func 180) #[] #[.pointer (some ⟨bs,0,none⟩), .pointer (some ⟨bl,0,none⟩), .pointer (some ⟨bw,0,none⟩)])∧
  w'.heap[bs]? =some (.cells #[.slice As ns cs] 32 (0,0))/\w'.heap[bl]? =some (.cells #[.slice A n c] 35 (0,0))/\w'.heap[bw]? =some (.cells #[.slice Aw nw cw] 32 (0,0))∧
  w.heap.size<=bs/\w.heap.size<=bl/\w.heap.size<=bw/\Below w.heap.size w w'
theorem S0 (A:Option Addr)(n c:Nat)(Aw:Option Addr)(nw cw:Nat)(As:Option Addr)(ns cs:Nat)(w:World):Calls Tryz.prog 141 #[.slice A n c, .slice Aw nw cw, .slice As ns cs] w (An1 w A n c Aw nw cw As ns cs):=by
 go_enter Tryz.func141,Tryz.ntmps141;go_wp2;go_ret;exact⟨w.heap.size+1+1,w.heap.size,w.heap.size+1,rfl,hpt,hpt,hpt,by omega,rr,by omega,bel⟩
end Go.Proofs.YtlgliddhideflaaGreatDoor
namespace Go.Proofs.YtlgliddhideflaaGreatDoor
open Go.RowKit Go.Shelf
attribute [local go_sem] Oper.semAt_some
theorem Ld (m lr bs bl bw:Nat)(hm:3<=m)(A:Option Addr)(n c:Nat)(xs:List Co)(Aw:Option Addr)(nw cw:Nat)(ws:List Snd)(As:Option Addr)(ns cs:Nat)(ss:List Snd)(W:World)(J:Nat->(Nat->Prop)->World->Prop)(Jx:(Nat->Prop)->World->Prop)(T0:Nat->Prop)(B:Nat)
  (H:An0 lr bs bl bw A n c xs Aw nw cw ws As ns cs ss B J Jx) (h0:J 0 T0 W) (hr:B1 ss=0) (hnw:nw<=4096):
  CallsIn Fence.wide m Tryz.prog 180 #[.func (.yield lr) #[] #[], .pointer (some ⟨bs,0,none⟩), .pointer (some ⟨bl,0,none⟩), .pointer (some ⟨bw,0,none⟩)] W fun e W'=>
   (∃v,e= .returned v)/\((∃T,J (Cl (Ah xs) ws ss).length T W')∨∃T,Jx T W'):=by
 have k8:=H.hlt _ _ _ h0;have o8:=H.hB _ _ _ h0;obtain⟨r1,r2,r3,r4,r5,r6,r7⟩:=H.hrd _ _ _ h0;have o0:=lt_of_block r1;have d7:=lt_of_block r2;have o7:=lt_of_block r3;obtain⟨d2,i4,i6⟩:=Cg hr;have i7:ns<=5:=by rw[←r6.len];exact d2
 have o5:=hI i4;clear i4;have j4:=hI i6;clear i6;have HU:=hI H;clear H;have H0:=hI h0;clear h0;clear r1 r2 r3 r4 r5 r6 r7 hr d2;refine callsIn_of_wp_marks Tryz.func180 rfl trivial ?_ rfl;simp only[Tryz.ntmps180,List.size_toArray,List.length_cons,List.length_nil,Nat.reduceAdd,Nat.reduceSub,Array.replicate_succ,Array.replicate_zero,List.push_toArray,List.append_toArray,List.nil_append,List.cons_append];gi_wp2;have g5:(W.alloc (.cells #[.func (.yield lr) #[] #[]] 90)).heap[W.heap.size]? =some (.cells #[.func (.yield lr) #[] #[]] 90 (0,0)):=hpt;have g7:Below W.heap.size W (W.alloc (.cells #[.func (.yield lr) #[] #[]] 90)):=bel;generalize(W.alloc (.cells #[.func (.yield lr) #[] #[]] 90))=W0 at*;have J0:=hI (HU.out.hst _ T0 W W0 H0.out (Bc g7));have m9:=lt_of_block g5;have G5:=hI g5;clear g5;clear g7
 refine wpIn_loop (fun a' wr=>∃(k:Nat) (T:Nat->Prop) (ds:List Deferred) (u5 u6 u7 u8 u10 u11 u12 u13 u14 u15 u16 u17 u18 u19 u20 u21 u22 u23 u24 u25 u26 u27 u28 u29 u30 u31 u32 u33 u34 u35:Value),
   a'={tmps:= #[.func (.yield lr) #[] #[], .pointer (some ⟨bs,0,none⟩), .pointer (some ⟨bl,0,none⟩), .pointer (some ⟨bw,0,none⟩), .pointer (some ⟨W.heap.size,0,none⟩),u5,u6,u7,u8, .int .i64 k,u10,u11,u12,u13,u14,u15,u16,u17,u18,u19,u20,u21,u22,u23,u24,u25,u26,u27,u28,u29,u30,u31,u32,u33,u34,u35],defers:=ds}∧
   k<=7/\Hid (J (Lc (Ah xs) ws ss k 0).length T wr)/\Hid (Dd W.heap.size wr ds)/\Hid (∀D,Ft D∈ds→¬T D)/\Hid (¬T W.heap.size)/\Hid (wr.heap[W.heap.size]? =some (.cells #[.func (.yield lr) #[] #[]] 90 (0,0))))
  (fun a' _=>7-(intOf (a'.tmps.getD 9 undef)).toNat) ?start ?round
 case start=>
  exact⟨0,T0,[],_,_,_,_,_,_,_,_,_,_,_,_,_,_,_,_,_,_,_,_,_,_,_,_,_,_,_,_,_,_,rfl,by omega,by rw[Akf];exact J0,trivial,fun D h=>by simp at h,fun h=>by have:=k8 _ h;omega,G5⟩
 case round=>
  rintro _ wr ⟨k,T,ds,u5,u6,u7,u8,u10,u11,u12,u13,u14,u15,u16,u17,u18,u19,u20,u21,u22,u23,u24,u25,u26,u27,u28,u29,u30,u31,u32,u33,u34,u35,rfl,hk,HJ,HM,m4,i9,HG⟩;have j9:=lt_of_block HG.out;by_cases hlt:k<7
  ·obtain⟨r1,r2,r3,r4,r5,r6,r7⟩:=HU.out.hrd _ _ _ HJ.out;have c1:=cell_of_one r1;have k9:=lt_of_block r1;clear r1 r2 r3 r4 r5 r7;have R6:=hI r6;clear r6;gi_wp2;refine⟨trivial,fun _=>by omega, ?_⟩
   refine(callsIn_wide.2 (Afm As ns cs k wr)).mono ?_;rintro e w1 ⟨rfl,k2,k1,f3,j7⟩;have b4:=hI (HU.out.hlt _ _ _ HJ.out);have K1:=hI k1;have K2:=hI k2;clear k1 k2 c1;gi_wp2;refine Dt (gf:=189) (lb:= #[.pointer (some ⟨wr.heap.size+1,0,none⟩), .pointer (some ⟨wr.heap.size,0,none⟩)]) rfl (enters_of Tryz.func189 (by kernel_rfl) rfl) fun fn D l rc W1 hrc hD hl hK2 hD1 hl1 hs2=> ?_
   have k5:=hI hrc;clear hrc;have o9:D<l:=by omega
   have i3:l<W1.heap.size:=by omega
   have o2:wr.heap.size+1<D:=by omega
   clear hs2 hD hl j7;have b1:Aj (fun _=>False) wr W1:=(Bc f3).trans hK2;have o1:=b1.size;have j3:=hI b1;have k11:=(hK2.block _ (lt_of_block K1.out) (by simp)).trans K1.out;have k21:=(hK2.block _ (lt_of_block K2.out) (by simp)).trans K2.out;have f5:=(b1.block _ j9 (by simp)).trans HG.out;have j2:=hI (HU.out.hst _ _ _ _ HJ.out (b1.mono fun _ h=>h.elim));clear f3 b1 hK2;obtain⟨Mine,a0⟩:∃Mine:Nat->Prop,Mine=fun b=>W.heap.size<=b/\b<W1.heap.size∧¬T b:=⟨_,rfl⟩
   have g2:Mine l:=by rw[a0];exact⟨by omega,i3,fun h=>by have:=b4.out _ h;omega⟩
   have d5:Mine D:=by rw[a0];exact⟨by omega,by omega,fun h=>by have:=b4.out _ h;omega⟩
   have g1:Mine wr.heap.size:=by rw[a0];exact⟨by omega,by omega,fun h=>by have:=b4.out _ h;omega⟩
   have g3:Mine (wr.heap.size+1):=by rw[a0];exact⟨by omega,by omega,fun h=>by have:=b4.out _ h;omega⟩
   have f0:Mine W.heap.size:=by rw[a0];exact⟨rr,by omega,i9.out⟩
   have g9:∀D',Ft D'∈ds->Mine D'/\D'<D/\W1.heap[D']? =some (.deferred (some [])):=fun D' h=>by
    obtain⟨h1,h2⟩:=HM.out.at_ D' h;have h3:=(Array.getElem?_eq_some_iff.1 h1).1;rw[a0];exact⟨⟨h2,by omega,m4.out D' h⟩,by omega,(j3.out.block _ h3 (by simp)).trans h1⟩
   have b0:∀b,Mine b->W.heap.size<=b/\b<W1.heap.size∧¬T b:=fun b h=>by rw[a0]at h;exact h
   clear a0;have a7:=hI g2;have d0:=hI d5;have k6:=hI g1;have k3:=hI g3;have b9:=hI f0;have a2:=hI g9;have a1:=hI b0;clear g2 d5 g1 g3 f0 g9 b0
   obtain⟨JJ,d8⟩:∃JJ:Nat->(Nat->Prop)->World->Prop,JJ=fun i T' X=>∃T1:Nat->Prop,T'=(fun b=>T1 b\/b=l)/\J (Lc (Ah xs) ws ss k i).length T1 X/\(∀b,Mine b→¬T1 b)/\(∀b,Mine b->b≠l->X.heap[b]? =W1.heap[b]?)∧
     X.heap[l]? =some (.loop (rc .ready none))/\W1.heap.size<=X.heap.size:=⟨_,rfl⟩
   have a5:=hI d8;clear d8;obtain⟨JX,g8⟩:∃JX:World->Prop,JX=fun X=>∃T1:Nat->Prop,Jx T1 X/\(∀b,Mine b→¬T1 b)/\(∀b,Mine b->b≠l->X.heap[b]? =W1.heap[b]?)/\X.heap[l]? =some (.loop (rc .done (some .ret))):=⟨_,rfl⟩
   have i0:=hI g8;clear g8;have k0:=hI k11;have m3:=hI k21;have g0:=hI f5;have f7:=hI hD1;have j8:=hI hl1;clear k11 k21 f5 hD1 hl1;refine(Ts (m-1) l (wr.heap.size+1) wr.heap.size (by omega) As ns cs ss k W1.heap.size W1 JJ JX (fun b=>T b\/b=l) ?hu ?h0 i7 (by omega) j4.out).mono ?_
   case h0=>
    rw[a5.out];exact⟨T,rfl,j2.out,fun b hb=>(a1.out b hb).2.2,fun b _ _=>rfl,j8.out,rr⟩
   case hu=>
    refine⟨?hB, ?hlt, ?hst, ?hrd, ?hy⟩
    case hB=>
     intro i T' X hx;rw[a5.out]at hx;obtain⟨T1,rfl,h1,h2,h3,h4,h5⟩:=hx;exact h5
    case hlt=>
     intro i T' X hx b hb;rw[a5.out]at hx;obtain⟨T1,rfl,h1,h2,h3,h4,h5⟩:=hx;rcases hb with hb|rfl
     ·exact HU.out.hlt _ _ _ h1 b hb
     ·exact lt_of_block h4
    case hst=>
     intro i T' X X' hx b8;rw[a5.out]at hx ⊢;obtain⟨T1,rfl,h1,h2,h3,h4,h5⟩:=hx;have ho:∀b,b<W1.heap.size->X'.heap[b]? =X.heap[b]? :=fun b hb=>b8.block b (by omega) (fun h=>by have:=h.1;omega)
     exact⟨T1,rfl,HU.out.hst _ _ _ _ h1 (b8.mono fun b hb=>⟨by have:=hb.1;omega,fun h=>hb.2 (.inl h)⟩),h2,fun b hb hne=>(ho b (a1.out b hb).2.1).trans (h3 b hb hne),(ho l i3).trans h4,Nat.le_trans h5 b8.size⟩
    case hrd=>
     intro i T' X hx;rw[a5.out]at hx;obtain⟨T1,rfl,h1,h2,h3,h4,h5⟩:=hx;obtain⟨q1,q2,q3,q4,q5,q6,q7⟩:=HU.out.hrd _ _ _ h1;exact⟨(h3 _ k6.out (by omega)).trans k0.out,(h3 _ k3.out (by omega)).trans m3.out,q6⟩
    case hy=>
     intro i T' X A' c' x f8 f4 d9 hx;rw[a5.out]at hx;obtain⟨T1,rfl,h1,h2,h3,h4,h5⟩:=hx;refine Du k5.out h4 rfl ?_;have b3:=hI f8;clear f8;have k7:=hI f4;clear f4;have b5:=hI d9;clear d9;have m2:=hI h1;have a6:=hI h2;have i8:=hI h3;have i5:=hI h4;clear h1 h2 h3 h4;gi_wp2;refine⟨i5.out, ?_⟩;have p4:(X.putObj l (.loop (rc .busy none))).heap[l]? =some (.loop (rc .busy none)):=World.putObj_heap_same (lt_of_block i5.out);have pK:Aj (fun b=>b=l) X (X.putObj l (.loop (rc .busy none))):=(Aj.refl (fun b=>b=l) X).putObj rfl _;have pJ:J (Lc (Ah xs) ws ss k i).length T1 (X.putObj l (.loop (rc .busy none))):=HU.out.hst _ _ _ _ m2.out (pK.mono (fun b hb=>by subst hb;exact⟨by omega,a6.out _ a7.out⟩));have p3:∀b,Mine b->b≠l->(X.putObj l (.loop (rc .busy none))).heap[b]? =W1.heap[b]? :=fun b hb hne=>(World.putObj_heap_other hne).trans (i8.out b hb hne)
     have pw:Ad (X.putObj l (.loop (rc .busy none))) A' k c' x:=k7.out.keep pK fun _ ad had e=>(b5.out ad had).2 (.inr e)
     have ps:(X.putObj l (.loop (rc .busy none))).heap.size=X.heap.size:=by simp
     generalize X.putObj l (.loop (rc .busy none))=V at*;have m6:W1.heap.size<=V.heap.size:=by omega
     obtain⟨q1,q2,q3,q4,q5,q6,q7⟩:=HU.out.hrd _ _ _ pJ;have e2:=cell_of_one q2;have e3:=cell_of_one q3;have m8:=lt_of_block q2;have j0:=lt_of_block q3;have P4:=hI p4;have PK:=hI pK;have PJ:=hI pJ;have P3:=hI p3;have PW:=hI pw;have Q2:=hI q2;have Q3:=hI q3;have Q4:=hI q4;have Q5:=hI q5;have Q7:=hI q7;clear p4 pK pJ p3 pw q1 q2 q3 q4 q5 q6 q7;gi_wp2;refine⟨trivial,rfl,(CallsIn.inRound l (callsIn_wide.2 (Aau A n c xs A' k c' x V Q4.out PW.out Q7.out))).mono ?_⟩;rintro e V2 ⟨A2,n2,c2,rfl,i2,d4,j1⟩;have k4:=hI i2;clear i2;have a4:=hI d4;clear d4 j1;have m7:=a4.out.cell (p:=⟨bw,0,none⟩) j0;have g4:V.heap[W.heap.size]? =some (.cells #[.func (.yield lr) #[] #[]] 90 (0,0)):=(P3.out _ b9.out (by omega)).trans g0.out;have d3:=lt_of_block g4;have e4:=cell_of_one g4;have o4:=a4.out.cell (p:=⟨W.heap.size,0,none⟩) d3;clear g4
     have b7:Hid (∀(Y:World) (T2:Nat->Prop),J (Lc (Ah xs) ws ss k (i+1)).length T2 Y->Aj T1 V Y->(∀b,T2 b->T1 b\/V.heap.size<=b)→
       ∃T'',JJ (i+1) T'' (Y.putObj l (.loop (rc .ready none)))/\Aj (fun b=>T1 b\/b=l) X (Y.putObj l (.loop (rc .ready none)))∧∀b,T'' b->(fun b=>T1 b\/b=l) b\/X.heap.size<=b):=by
      intro Y T2 y1 y2 y3;have o3:=y2.size
      have d6:∀b,Mine b→¬T2 b:=fun b hb h=>by
       rcases y3 b h with h|h
       ·exact a6.out b hb h
       ·have:=(a1.out b hb).2.1;omega
      have m1:l<Y.heap.size:=by omega
      refine⟨fun b=>T2 b\/b=l, ?_, ?_,fun b h=> ?_⟩
      ·rw[a5.out];refine⟨T2,rfl,HU.out.hst _ _ _ _ y1 (((Aj.refl (fun b=>b=l) Y).putObj rfl _).mono fun b hb=>by subst hb;exact⟨by omega,d6 _ a7.out⟩),d6,fun b hb hne=> ?_,World.putObj_heap_same m1,by simp;omega⟩
       have d7:=(a1.out b hb).2.1;exact(World.putObj_heap_other hne).trans ((y2.block b (by omega) (a6.out b hb)).trans (P3.out b hb hne))
      ·exact((PK.out.mono fun _ h=> .inr h).trans (y2.mono fun _ h=> .inl h)).putObj (.inr rfl) _
      ·rcases h with h|h
       ·rcases y3 b h with h|h
        ·exact .inl (.inl h)
        ·exact .inr (by omega)
       ·exact .inl (.inr h)
     have JV2:=hI (HU.out.hst _ _ _ _ PJ.out (Bc a4.out));have PL2:=hI ((a4.out.block l (lt_of_block P4.out)).trans P4.out);by_cases hd0:(Bm (Ah xs) x).1=0
     ·gi_wp2;refine⟨trivial,rfl,(CallsIn.inRound l (callsIn_wide.2 (Pu A2 Aw n2 nw c2 cw _ ws V2 k4.out (Q5.out.below a4.out rr)))).mono ?_⟩;rintro e V3 ⟨rfl,g6⟩;have a3:=hI (a4.out.trans (g6.mono a4.out.size));clear g6;have m5:=a3.out.cell (p:=⟨W.heap.size,0,none⟩) d3;have JV3:=hI (HU.out.hst _ _ _ _ PJ.out (Bc a3.out));have PL3:=hI ((a3.out.block l (lt_of_block P4.out)).trans P4.out);by_cases hd1:(Bm (Ah xs) x).2=ws
      ·have a8:Hid (Bm (Ah xs) x=(0,ws)):=by show _=_;rw[Prod.ext_iff];exact⟨hd0,hd1⟩
       have m0:=hI (Afg b3.out a8.out);rw[decide_eq_true hd1];clear hd0 hd1;obtain⟨fn',tmps',assign',body',f9,hR⟩:=Fp (m':=0) (HU.out.hy _ T1 V3 A' k c' x (Anz (by omega) b3.out a8.out) (PW.out.below a3.out rr) (fun ad had=>⟨by have:=(b5.out ad had).1;omega,fun h=>(b5.out ad had).2 (.inl h)⟩) JV3.out);have HR:=hI hR;clear hR;gi_wp2;refine⟨rfl, ?_⟩;refine RoundIn.mono (F:=Fence.wide.inRound l) (by exact HR.out) ?_;have o6:=a3.out.size;rintro e W6 ⟨a9,⟨rfl,T6,f2,f1⟩|⟨rfl,T8,hx,i1⟩⟩
       ·have b2:=(a9.block l (lt_of_block PL3.out) (a6.out _ a7.out)).trans PL3.out;obtain⟨T7,z1,z2,z3⟩:=b7.out W6 T6 (by rw[m0.out,List.length_append];exact f2) (Aj.trans (Bc a3.out) a9) (fun b h=>(f1 b h).imp id fun h=>by omega);have Z1:=hI (And.intro b2 (And.intro z1 (And.intro z2 z3)));clear a9 f2 f1 b2 z1 z2 z3 f9;gi_wp2;exact⟨Z1.out.1, .inl ⟨rfl,T7,Z1.out.2.1,Z1.out.2.2.1,Z1.out.2.2.2⟩⟩
       ·have b2:=(a9.block l (lt_of_block PL3.out) (a6.out _ a7.out)).trans PL3.out;have f6:∀b,Mine b→¬T8 b:=fun b hb h=>(i1 b h).elim (a6.out b hb) fun h=>by have:=(a1.out b hb).2.1;omega
        have HP:=hI b2;have HX:=hI hx;have j5:=hI a9;have d1:=hI f6;clear a9 b2 hx f9 f6 i1;gi_wp2;refine⟨HP.out, .inr ⟨rfl, ?_⟩⟩;rw[i0.out]
        exact⟨T8,HU.out.hsx _ _ _ HX.out (((Aj.refl (fun b=>b=l) W6).putObj rfl _).mono fun b hb=>by subst hb;exact⟨by omega,d1.out _ a7.out⟩),d1.out,fun b hb hne=>by
         have d7:=(a1.out b hb).2.1;exact(World.putObj_heap_other hne).trans ((j5.out.block b (by omega) (a6.out b hb)).trans ((a3.out.block b (by omega)).trans (P3.out b hb hne))),World.putObj_heap_same (lt_of_block HP.out)⟩
      ·have a8:Hid (¬Bm (Ah xs) x=(0,ws)):=by show¬_;rw[Prod.ext_iff];exact fun h=>hd1 h.2
       have b6:=hI (Aki b3.out a8.out);rw[decide_eq_false hd1];clear hd0 hd1;gi_wp2;refine⟨fun _ h=>(by cases h), ?_⟩
       gi_wp2;obtain⟨T7,z1,z2,z3⟩:=b7.out V3 T1 (by rw[b6.out];exact JV3.out) (Bc a3.out) (fun b h=> .inl h);exact⟨PL3.out, .inl ⟨rfl,T7,z1,z2,z3⟩⟩
     ·have j6:((Bm (Ah xs) x).1==0)=false:=by simpa using hd0
      have a8:Hid (¬Bm (Ah xs) x=(0,ws)):=by show¬_;rw[Prod.ext_iff];exact fun h=>hd0 h.1
      have b6:=hI (Aki b3.out a8.out);clear hd0;gi_wp2;refine⟨trivial, ?_⟩;gi_wp2;refine⟨fun _ h=>(by cases h), ?_⟩
      gi_wp2;obtain⟨T7,z1,z2,z3⟩:=b7.out V2 T1 (by rw[b6.out];exact JV2.out) (Bc a4.out) (fun b h=> .inl h);exact⟨PL2.out, .inl ⟨rfl,T7,z1,z2,z3⟩⟩
   ·rintro e W2 ⟨⟨v,rfl⟩,⟨T9,hj⟩|hx⟩
    ·rw[a5.out]at hj;obtain⟨T1,rfl,h1,h2,h3,h4,h5⟩:=hj;refine .inl ⟨h4, ?_⟩;rw[Akh]at h1;have xJ:J (Lc (Ah xs) ws ss (k+1) 0).length T1 (W2.putObj l (.loop (rc .exhausted none))):=HU.out.hst _ _ _ _ h1 (((Aj.refl (fun b=>b=l) W2).putObj rfl _).mono fun b hb=>by subst hb;exact⟨by omega,h2 _ a7.out⟩)
     have x3:∀b,Mine b->b≠l->(W2.putObj l (.loop (rc .exhausted none))).heap[b]? =W1.heap[b]? :=fun b hb hne=>(World.putObj_heap_other hne).trans (h3 b hb hne)
     generalize W2.putObj l (.loop (rc .exhausted none))=X at*;have XM:Hid (Dd W.heap.size X (Ft D::ds)):=⟨D,rfl,by omega,(x3 D d0.out (by omega)).trans f7.out,fun D' hm=>(a2.out D' hm).2.1,HM.out.mono fun D' hm _=>(x3 D' (a2.out D' hm).1 (by have:=(a2.out D' hm).2.1;omega)).trans (a2.out D' hm).2.2⟩
     have XT:Hid (∀D',Ft D'∈Ft D::ds→¬T1 D'):=fun D' hm=>by
      rcases List.mem_cons.1 hm with e|e
      ·have he:D'=D:=by simpa[Ft]using e
       subst he;exact h2 _ d0.out
      ·exact h2 _ (a2.out D' e).1
     have XW:=hI (h2 _ b9.out);have XG:=hI ((x3 _ b9.out (by omega)).trans g0.out);have XJ:=hI xJ;clear xJ x3 h1 h2 h3 h4 h5;gi_wp2;exact⟨⟨k+1,T1,Ft D::ds,⟨by omega,rfl⟩,by omega,XJ.out,XM.out,XT.out,XW.out⟩,by simp[intOf];omega⟩
    ·rw[i0.out]at hx;obtain⟨T1,h1,h2,h3,h4⟩:=hx;refine .inr ⟨.ret,h4, ?_⟩;have xJ:Jx T1 (W2.putObj l (.loop (rc .exhausted (some .ret)))):=HU.out.hsx _ _ _ h1 (((Aj.refl (fun b=>b=l) W2).putObj rfl _).mono fun b hb=>by subst hb;exact⟨by omega,h2 _ a7.out⟩)
     have x3:∀b,Mine b->b≠l->(W2.putObj l (.loop (rc .exhausted (some .ret)))).heap[b]? =W1.heap[b]? :=fun b hb hne=>(World.putObj_heap_other hne).trans (h3 b hb hne)
     generalize W2.putObj l (.loop (rc .exhausted (some .ret)))=X at*;have XM:Hid (Dd W.heap.size X (Ft D::ds)):=⟨D,rfl,by omega,(x3 D d0.out (by omega)).trans f7.out,fun D' hm=>(a2.out D' hm).2.1,HM.out.mono fun D' hm _=>(x3 D' (a2.out D' hm).1 (by have:=(a2.out D' hm).2.1;omega)).trans (a2.out D' hm).2.2⟩
     have XJ:=hI xJ;clear xJ x3 h1 h2 h3 h4;gi_wp2;exact Ee (B:=W.heap.size) XM.out fun w' hw'=>⟨_,results_none rfl _ _ _,⟨_,rfl⟩, .inr ⟨T1,HU.out.hsx _ _ _ XJ.out ((Eh hw' (HU.out.hnx _ _ XJ.out)).mono fun b hb=>⟨by have:=hb.1;omega,hb.2⟩)⟩⟩
  ·obtain rfl:k=7:=by omega
   gi_wp2;exact Aa2 (B:=W.heap.size) HM.out fun w' hw'=>⟨_,results_none rfl _ _ _,⟨_,rfl⟩, .inl ⟨T,by have h:=HU.out.hst _ _ _ _ HJ.out ((Eh hw' (HU.out.hnd _ _ _ HJ.out)).mono fun b hb=>⟨by have:=hb.1;omega,hb.2⟩);rwa[Akg]at h⟩⟩
end Go.Proofs.YtlgliddhideflaaGreatDoor
namespace Go.Proofs.YtlgliddhideflaaGreatDoor
open Go.RowKit Go.Shelf
def Lg (b7:Nat)(E:Nat->Prop)(vw:Value)(ps:List Part):Nat->Prop:=fun k=>k=b7\/E k\/vw.ownBlock=some k∨∃p∈ps,0<p.2.1∧∃ad,p.1=some ad/\ad.block=k
structure Ja (b7:Nat)(E:Nat->Prop)(W1:World)(vw:Value)(ps:List Part)(W:World):Prop where
 lt:b7<W1.heap.size∧∀k,E k->k<W1.heap.size/\k≠b7
 c7:W.heap[b7]? =some (.cells #[vw] 46 (0,0))
 o7:W.ownsRow W1.heap.size 32 1 vw ps.length (ps.map Part.val)
 pp:Ki W ps
 pd:∀p∈ps,∀ad,p.1=some ad->W1.heap.size<=ad.block/\(0<p.2.1→¬vw.ownBlock=some ad.block)
 kp:Aj (fun k=>k=b7\/E k) W1 W
section
variable {b7:Nat}{E:Nat->Prop}{W1:World}{vw vw':Value}{ps:List Part}{W W':World}
theorem Ja.wlt (h:Ja b7 E W1 vw ps W){p:Part}(hp:p∈ps)(hn:0<p.2.1){ad:Addr}(had:p.1=some ad):ad.block<W.heap.size:=by
 obtain⟨b,off,hb,a0,_⟩:=(h.pp p hp).2.2.2.2 hn;rw[had]at hb;injection hb with hb;subst hb
 exact a0
theorem Ja.lts (h:Ja b7 E W1 vw ps W):∀k,Lg b7 E vw ps k->k<W.heap.size:=by
 have hs:=h.kp.size;rintro k (rfl|hk|hk|⟨p,hp,hn,ad,a0,rfl⟩)
 ·exact lt_of_block h.c7
 ·have:=(h.lt.2 k hk).1;omega
 ·exact(h.o7.lt k hk).2
 ·exact h.wlt hp hn a0
theorem Ja.nds (h:Ja b7 E W1 vw ps W)(hE:∀k,E k→∀x,W.heap[k]? ≠some (.deferred x)):∀k,Lg b7 E vw ps k→∀x,W.heap[k]? ≠some (.deferred x):=by
 rintro k (rfl|hk|hk|⟨p,hp,hn,ad,a0,rfl⟩) x hx
 ·rw[h.c7]at hx;cases hx
 ·exact hE k hk x hx
 ·obtain⟨cur,hc⟩:=Lv h.o7 hk;rw[hc]at hx;cases hx
 ·obtain⟨v,hv⟩:=Ps (h.pp p hp) hn a0;simp[World.cell?,hx]at hv
theorem Ja.keep (h:Ja b7 E W1 vw ps W)(hk:Aj (fun b=>W1.heap.size<=b∧¬Lg b7 E vw ps b) W W'):Ja b7 E W1 vw ps W':=by
 have hs:=h.kp.size;have a0:∀k,Lg b7 E vw ps k->W'.heap[k]? =W.heap[k]? :=fun k hT=>hk.block k (h.lts k hT) (fun e=>e.2 hT)
 refine⟨h.lt,(a0 _ (.inl rfl)).trans h.c7,B0 h.o7 fun k e=>a0 k (.inr (.inr (.inl e))),fun p hp=>(h.pp p hp).keep hk fun hn ad had e=>e.2 (.inr (.inr (.inr ⟨p,hp,hn,ad,had,rfl⟩))),h.pd, ?_⟩
 exact((h.kp.mono (S':=fun k=>(k=b7\/E k)\/W1.heap.size<=k) fun _ e=> .inl e).trans (hk.mono fun _ e=> .inr e.1)).old fun k hlt e=>e.resolve_right (by omega)
theorem Ja.beside (h:Ja b7 E W1 vw ps W)(hk:Aj E W W'):Ja b7 E W1 vw ps W':=by
 have hs:=h.kp.size;have a0:∀k,W1.heap.size<=k→¬E k:=fun k hl e=>by have:=(h.lt.2 k e).1;omega
 refine⟨h.lt,(hk.block _ (lt_of_block h.c7) (fun e=>(h.lt.2 _ e).2 rfl)).trans h.c7,B0 h.o7 fun k e=>hk.block k (h.o7.lt k e).2 (a0 k (h.o7.lt k e).1),fun p hp=>(h.pp p hp).keep hk fun hn ad had e=>a0 _ (h.pd p hp ad had).1 e,h.pd, ?_⟩
 exact h.kp.trans (hk.mono fun _ e=> .inr e)
theorem Ja.start (hb:b7<W1.heap.size)(hE:∀k,E k->k<W1.heap.size/\k≠b7)(hc:W1.heap[b7]? =some (.cells #[.slice none 0 0] 46 (0,0))):Ja b7 E W1 (.slice none 0 0) [] W1:=
 ⟨⟨hb,hE⟩,hc,World.ownsRow_nil _ _ _ _,fun p hp=>by simp at hp,fun p hp=>by simp at hp,Aj.refl _ _⟩
theorem Ja.push (h:Ja b7 E W1 vw ps W){w1 X2:World}{A':Option Addr}{n' c':Nat}{x:List Snd}{t:TypeId}(hb1:Below W.heap.size W w1)(hw1:Ad w1 A' n' c' x)
  (hf:∀ad,A'=some ad->W1.heap.size<=ad.block∧¬Lg b7 E vw ps ad.block)
  (hown:X2.ownsRow W1.heap.size 32 1 vw' (ps.length+1) (ps.map Part.val++[.slice A' n' c'])) (hg:(w1.alloc (.cells #[.slice A' n' c'] t)).grownBy X2 vw.ownBlock)
  (b2:vw'.ownBlock=vw.ownBlock\/vw'.ownBlock=some (w1.alloc (.cells #[.slice A' n' c'] t)).heap.size):
  Ja b7 E W1 vw' (ps++[(A',n',c',x)]) (X2.setCell ⟨b7,0,none⟩ vw')/\Aj (Lg b7 E vw ps) W (X2.setCell ⟨b7,0,none⟩ vw')∧
   ∀k,Lg b7 E vw' (ps++[(A',n',c',x)]) k->Lg b7 E vw ps k\/W.heap.size<=k\/(0<n'∧∃ad,A'=some ad/\ad.block=k):=by
 have b6:=h.kp.size;have b3:=hb1.size;have a9:=hg.size;simp only[World.size_alloc]at a9;have l7:=h.lt.1;have a2:∀k,some k=vw.ownBlock->W1.heap.size<=k/\k<W.heap.size:=fun k hk=>h.o7.lt k hk.symm
 have b1:∀k,k<w1.heap.size→¬vw.ownBlock=some k->X2.heap[k]? =w1.heap[k]? :=fun k hk hn=>(hg.block k (by simp;omega) (fun e=>hn e.symm)).trans (Below.heap_alloc _ _ _ hk)
 have b0:∀k,k≠b7->(X2.setCell ⟨b7,0,none⟩ vw').heap[k]? =X2.heap[k]? :=fun k hk=>Below.heap_setCell _ _ _ _ (by simpa using hk)
 have b4:Aj (fun k=>vw.ownBlock=some k) w1 X2:=((Aj.refl (fun k=>vw.ownBlock=some k) w1).alloc _).grown hg (fun k e=> .inl e);have a6:Aj (fun k=>vw.ownBlock=some k\/k=b7) w1 (X2.setCell ⟨b7,0,none⟩ vw'):=(b4.mono fun k e=> .inl e).setCell (p:=⟨b7,0,none⟩) (.inr rfl) _;have a7:Aj (fun k=>vw.ownBlock=some k\/k=b7) W (X2.setCell ⟨b7,0,none⟩ vw'):=(Bc hb1).trans a6;have b5:vw.ownBlock≠some b7:=fun e=>by have:=a2 b7 e.symm;omega
 have a8:∀k,vw'.ownBlock=some k->vw.ownBlock=some k\/w1.heap.size<k:=by
  intro k hk;rcases b2 with e|e
  ·exact .inl (e▸hk)
  ·rw[e]at hk;injection hk with hk;simp at hk;exact .inr (by omega)
 have a1:∀p∈ps++[(A',n',c',x)],Ad w1 p.1 p.2.1 p.2.2.1 p.2.2.2∧∀ad,p.1=some ad->W1.heap.size<=ad.block/\(0<p.2.1->ad.block<w1.heap.size∧¬vw.ownBlock=some ad.block):=by
  intro p hp
  have a4:Ad w1 p.1 p.2.1 p.2.2.1 p.2.2.2∧∀ad,p.1=some ad->W1.heap.size<=ad.block/\(0<p.2.1→¬vw.ownBlock=some ad.block):=by
   rcases List.mem_append.1 hp with hp|hp
   ·exact⟨(h.pp p hp).below hb1 rr,h.pd p hp⟩
   ·obtain rfl:p=(A',n',c',x):=by simpa using hp
    exact⟨hw1,fun ad a0=>⟨(hf ad a0).1,fun _ e=>(hf ad a0).2 (.inr (.inr (.inl e)))⟩⟩
  refine⟨a4.1,fun ad a0=>⟨(a4.2 ad a0).1,fun hn=>⟨?_,(a4.2 ad a0).2 hn⟩⟩⟩
  obtain⟨b,off,hb,a5,_⟩:=a4.1.2.2.2.2 hn;rw[a0]at hb;injection hb with hb
  subst hb;exact a5
 have a3:w1.heap[b7]? =some (.cells #[vw] 46 (0,0)):=(hb1.block _ (lt_of_block h.c7)).trans h.c7;refine⟨⟨h.lt,one_setCell ((b1 _ (lt_of_block a3) b5).trans a3),B0 (w:=X2) ?_ fun k e=>b0 k ?_,fun p hp=> ?_,fun p hp ad a0=> ?_, ?_⟩,a7.mono fun k e=> ?_,fun k hk=> ?_⟩
 ·rw[List.length_append,List.length_singleton,List.map_append,List.map_singleton];exact hown
 ·have:=(hown.lt k e).1;omega
 ·refine(a1 p hp).1.keep a6 fun hn ad a0 e=> ?_
  have h1:=(a1 p hp).2 ad a0;rcases e with e|e
  ·exact(h1.2 hn).2 e
  ·omega
 ·have h1:=(a1 p hp).2 ad a0;refine⟨h1.1,fun hn e=> ?_⟩
  rcases a8 _ e with e|e
  ·exact(h1.2 hn).2 e
  ·have:=(h1.2 hn).1;omega
 ·refine((h.kp.mono (S':=fun k=>(k=b7\/E k)\/W1.heap.size<=k) (fun _ e=> .inl e)).trans (a7.mono (S':=fun k=>(k=b7\/E k)\/W1.heap.size<=k) fun k e=> ?_)).old fun k a5 e=>e.resolve_right (by omega)
  rcases e with e|e
  ·exact .inr (a2 k e.symm).1
  ·exact .inl (.inl e)
 ·rcases e with e|e
  ·exact .inr (.inr (.inl e))
  ·exact .inl e
 ·rcases hk with e|e|e|⟨p,hp,hn,ad,a0,e⟩
  ·exact .inl (.inl e)
  ·exact .inl (.inr (.inl e))
  ·rcases a8 k e with e|e
   ·exact .inl (.inr (.inr (.inl e)))
   ·exact .inr (.inl (by omega))
  ·rcases List.mem_append.1 hp with hp|hp
   ·exact .inl (.inr (.inr (.inr ⟨p,hp,hn,ad,a0,e⟩)))
   ·obtain rfl:p=(A',n',c',x):=by simpa using hp
    exact .inr (.inr ⟨hn,ad,a0,e⟩)
end
end Go.Proofs.YtlgliddhideflaaGreatDoor
