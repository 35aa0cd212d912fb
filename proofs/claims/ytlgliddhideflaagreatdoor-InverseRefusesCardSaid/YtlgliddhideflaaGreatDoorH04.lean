/-
  inverse.words and its iterator: the words of an alphabet with so many sounds, in order.
  inverse.sources and its iterator: the words that are searched and become a word, in order.
  The iterator of inverse.sources.
  inverse.BackAll.
  inverse.Back.
-/
import Derived.Test.YtlgliddhideflaaGreatDoorH03
set_option linter.all false
set_option maxRecDepth 100000
set_option maxHeartbeats 4000000
namespace Go.Proofs.YtlgliddhideflaaGreatDoor
open Go.RowKit Go.Shelf
attribute [local go_sem] Oper.semAt_some
def plC (q:List Nat):Array Value:=((q++List.replicate (6-q.length) 0).map fun d:Nat=>Value.int .i64 d).toArray
theorem Wh {q:List Nat}{i d:Nat}(h:q[i]? =some d):(plC q)[i]? =some (.int .i64 d):=by
 have hi:=(List.getElem?_eq_some_iff.1 h).1;simp only[plC,List.getElem?_toArray,List.getElem?_map];rw[List.getElem?_append_left hi,h];rfl
theorem Xf (q:List Nat)(i d:Nat)(h:i<q.length):(plC q).setIfInBounds i (.int .i64 d)=plC (q.set i d):=by
 unfold plC;rw[List.setIfInBounds_toArray,←List.map_set,List.set_append_left _ _ h,List.length_set]
theorem Ul (k:Nat)(hk:k<=6):plC (List.replicate k 0)= #[.int .i64 0, .int .i64 0, .int .i64 0, .int .i64 0, .int .i64 0, .int .i64 0]:=by
 unfold plC;rw[List.length_replicate,List.replicate_append_replicate,show k+(6-k)=6 by omega];rfl
def Ada (w:World)(b k:Nat):List Nat:=(List.range k).map fun j=>match w.cell? ⟨b,j,none⟩with|some (.int _ v)=>v.toNat|_=>0
theorem Sn {w:World}{b k:Nat}{p:List Nat}{t:TypeId}(h:w.heap[b]? =some (.cells (plC p) t (0,0)))(hp:p.length=k):Ada w b k=p:=by
 subst hp;apply List.ext_getElem?;intro j;unfold Ada;rw[List.getElem?_map];rcases Nat.lt_or_ge j p.length with hj|hj
 ·have h1:p[j]? =some p[j]:=List.getElem?_eq_getElem hj;rw[List.getElem?_range hj,Option.map_some,Ac h (Wh h1),h1];simp
 ·rw[List.getElem?_eq_none (by simpa using hj),List.getElem?_eq_none hj];rfl
structure Abz (lr bn bs:Nat)(A:Option Addr)(n c:Nat)(ss:List Snd)(k B:Nat)(J:Nat->(Nat->Prop)->World->Prop)(Jx:World->Prop):Prop where
 hB:∀i T W,J i T W->B<=W.heap.size
 hlt:∀i T W,J i T W→∀b,T b->b<W.heap.size
 hst:∀i T W W',J i T W->Ae (fun b=>B<=b∧¬T b) W W'->J i T W'
 hrd:∀i T W,J i T W->W.heap[bs]? =some (.cells #[.slice A n c] 32 (0,0))/\W.heap[bn]? =some (.cells #[.int .i64 k] 3 (0,0))/\Ab W A n c ss
 hy:∀i T W A' c' x,(Cp (B3 ss) k)[i]? =some x->Ab W A' k c' x->(∀ad,A'=some ad->B<=ad.block∧¬T ad.block)->J i T W->YieldAt Fence.wide 0 Tryz.prog lr #[.slice A' k c'] W (fun e W''=>
  (e= .returned (.bool true)∧∃T',J (i+1) T' W''/\Ae T W W''∧∀b,T' b->T b\/W.heap.size<=b)\/(e= .returned (.bool false)/\Jx W''))
theorem M0 (m lr bn bs:Nat)(hm:1<=m)(A:Option Addr)(n c:Nat)(ss:List Snd)(k B:Nat)(W:World)(J:Nat->(Nat->Prop)->World->Prop)(Jx:World->Prop)(T0:Nat->Prop)
  (H:Abz lr bn bs A n c ss k B J Jx) (h0:J 0 T0 W) (hn:n<=5) (hk:k<=6) (hd:ss.Nodup):
  CallsIn Fence.wide m Tryz.prog 189 #[.func (.yield lr) #[] #[], .pointer (some ⟨bn,0,none⟩), .pointer (some ⟨bs,0,none⟩)] W fun e W'=>
   (∃v,e= .returned v)/\((∃T,J (Cp (B3 ss) k).length T W')\/Jx W'):=by
 have d0:=H.hlt _ _ _ h0;have m6:=H.hB _ _ _ h0;obtain⟨r1,r2,r3⟩:=H.hrd _ _ _ h0;have e1:=cell_of_one r2;have e2:=cell_of_one r1;have j5:=lt_of_block r1;have k1:=lt_of_block r2;have k0:=r3.len;have k3:=hI k0;clear k0;have j0:(B3 ss).length=n:=(Jv hd).trans k3.out;have b6:=hI j0;clear j0;have j7:=fun X (hX:Below W.heap.size W X)=>St X.heap.size A n c ss (X.alloc (.cells #[.slice A n c] 32)) (Ak rfl) (r3.below (B:=W.heap.size) (hX.alloc hX.size _) rr) hn hd
 have j9:=hI j7;clear j7;have HU:=hI H;clear H;have H0:=hI h0;clear h0;clear r1 r2 r3;have HD:=hI hd;clear hd;refine callsIn_of_wp Tryz.func189 rfl trivial ?_;simp only[Tryz.ntmps189,List.size_toArray,List.length_cons,List.length_nil,Nat.reduceAdd,Nat.reduceSub,Array.replicate_succ,Array.replicate_zero,List.push_toArray,List.append_toArray,List.nil_append,List.cons_append];by_cases hz:0<k/\n=0
 ·obtain⟨j4,rfl⟩:=hz;have g9:(0:Int)<(k:Int):=by omega
  gi_wp2;refine bodyPost_ret (results_none rfl _ _ _) rfl ⟨⟨_,rfl⟩, .inl ⟨T0, ?_⟩⟩;have h1:(Cp (B3 ss) k).length=0:=by rw[Gx,b6.out];exact Nat.zero_pow j4
  rw[h1];exact H0.out
 have j2:∀w:World,(Instr.makeSlice 32 (.int .i64 (k:Int)) (.int .i64 (k:Int))).run Tryz.prog w=_:=Py k (by omega);have HZ:=hI hz;clear hz;by_cases j4:0<k
 ·have g9:(0:Int)<(k:Int):=by omega
  have a1:((n:Int)==0)=false:=by have:=HZ.out;simp;omega
  gi_wp2;clear g9 a1;refine⟨trivial, ?_⟩;refine(callsIn_wide.2 (Sq A n c W)).mono ?_;rintro e w1 ⟨rfl,rfl⟩;gi_wp2;refine⟨trivial, ?_⟩;refine(callsIn_wide.2 (j9.out W (Below.refl _ _))).mono ?_;rintro e w2 ⟨A2,c2,rfl,d7,d5,d3⟩;have b0:Below W.heap.size W w2:=((Below.refl W.heap.size W).alloc rr _).trans (d5.mono (by simp));have e1:=(b0.cell (p:=⟨bn,0,none⟩) (lt_of_block (HU.out.hrd _ _ _ H0.out).2.1)).trans e1;have a6:=b0.size;have b5:bn<w2.heap.size:=Nat.lt_of_lt_of_le k1 a6;have b9:=hI d7;have i9:=hI (show∀ad,A2=some ad->W.heap.size<=ad.block from fun ad had=>by have:=d3 ad had;simp at this;omega);have d6:=hI (HU.out.hst _ _ _ _ H0.out (show Ae (fun b=>B<=b∧¬T0 b) W w2 from Aj b0));clear d7 d5 d3 b0 e2;gi_wp2;rw[←Ul k hk];obtain⟨bp,b7⟩:∃bp,bp=w2.heap.size:=⟨_,rfl⟩
  have f2:0<n→∀ad,A2=some ad→¬T0 ad.block/\ad.block<bp:=fun a1 ad had=>by
   obtain⟨b,off,hb,i6,_⟩:=b9.out.2.2.2.2 a1;have h1:=i9.out ad had;rw[had]at hb;injection hb with hb;subst hb
   simp only at h1 i6 ⊢;exact⟨fun h=>by have:=d0 _ h;omega,by omega⟩
  have f6:=hI f2;clear f2;have x1:((w2.alloc (.cells (plC (List.replicate k 0)) 226)).alloc (.cells (Bc (List.replicate k (0,0))).toArray 24)).heap[w2.heap.size]? =some (.cells (plC (List.replicate k 0)) 226 (0,0)):=hpt;have x2:((w2.alloc (.cells (plC (List.replicate k 0)) 226)).alloc (.cells (Bc (List.replicate k (0,0))).toArray 24)).heap[w2.heap.size+1]? =some (.cells (Bc (List.replicate k (0,0))).toArray 24 (0,0)):=hpt;have x3:Below w2.heap.size w2 ((w2.alloc (.cells (plC (List.replicate k 0)) 226)).alloc (.cells (Bc (List.replicate k (0,0))).toArray 24)):=bel;rw[←b7]at x1 x2 ⊢;generalize(w2.alloc (.cells (plC (List.replicate k 0)) 226)).alloc (.cells (Bc (List.replicate k (0,0))).toArray 24)=V at*;have f4:=HU.out.hst _ _ _ _ d6.out (show Ae (fun b=>B<=b∧¬T0 b) w2 V from Aj x3);have f8:=hI f4;have d9:=hI (b9.out.below x3 rr);have X1:=hI x1;have X2:=hI x2;have k6:B<=bp/\W.heap.size<=bp:=by omega
  have k5:=hI b7;clear b7 x1 x2 x3 f4 d6 b9 e1 j2 b5 a6
  gi_loopw [7] (fun _ wr=>∃(p:List Nat) (T:Nat->Prop) (x:List Snd),Hid (p.length=k∧∀d∈p,d<n)/\Hid (x.length=k)/\Hid (J (E0 n p) T wr)/\Hid (wr.heap[bp]? =some (.cells (plC p) 226 (0,0)))∧
    Hid (wr.heap[bp+1]? =some (.cells (Bc x).toArray 24 (0,0)))/\Hid (¬T bp∧¬T (bp+1))/\Hid (Ab wr A2 n c2 (B3 ss))/\Hid (0<n→∀ad,A2=some ad→¬T ad.block/\ad.block<bp))
   (fun _ wr=>n^k-E0 n (Ada wr bp k))
  case atStart=>
   refine⟨List.replicate k 0,T0,List.replicate k (0,0),⟨by simp,fun d hd=> ?_⟩,(by simp:(List.replicate k ((0,0):Snd)).length=k), ?_,X1,X2,⟨fun h=>by have:=d0 _ h;omega,fun h=>by have:=d0 _ h;omega⟩,d9,f6⟩
   ·have h1:=List.eq_of_mem_replicate hd
    have h2:0<k:=by rcases Nat.eq_zero_or_pos k with h|h; · subst h;simp at hd
                    ·exact h
    have:=HZ.out;omega
   ·rw[Qr];exact f8
  case round=>
   clear X1 X2 d9 f6 f8;obtain⟨p,T,x,hp,hx,HJ,a5,d8,hT,hl,hA⟩:=hrel;obtain⟨q1,q2,q3⟩:=HU.out.hrd _ _ _ HJ.out;have b4:=cell_of_one q2;have Q2:=hI q2;clear q1 q2 q3;gi_wp2;obtain⟨wo,rfl⟩:∃wo:World,wo=wr:=⟨_,rfl⟩;clear b4
   gi_loopw [7,22] (fun _ i wr=>∃(j:Nat) (y:List Snd),i= .int .i64 j/\j<=k/\Hid (y.length=k/\y.take j=(Nx (B3 ss) p).take j)/\Hid (wr.heap[bp+1]? =some (.cells (Bc y).toArray 24 (0,0)))/\Hid (Ae (fun b=>b=bp+1) wo wr))
    (fun _ i _=>k-(intOf i).toNat)
   case atStart=>exact⟨0,x,rfl,Nat.zero_le _,⟨hx.out,by simp⟩,d8,Ae.refl _ _⟩
   case round=>
    obtain⟨j,y,rfl,hj,hy,a2,a4⟩:=hrel;by_cases hjk:j<k
    ·have k9:(j:Int)<(k:Int):=by omega
     obtain⟨d,hd⟩:∃d,p[j]? =some d:=⟨p[j]'(by rw[hp.out.1];exact hjk),List.getElem?_eq_getElem _⟩;have j6:d<n:=hp.out.2 d (List.mem_of_getElem? hd);have a1:0<n:=by omega
     have m5:=lt_of_block a2.out;have a0:wr.heap[bp]? =some (.cells (plC p) 226 (0,0)):=(a4.out.block _ (lt_of_block a5.out) (by omega)).trans a5.out;have c1:=Ac a0 (Wh hd);have b2:=hl.out.keep a4.out (fun a1 ad had h=>by have:=(hA.out a1 ad had).2;omega);obtain⟨b3,off3,p',q',rfl,m8,k2,o2,m9⟩:=b2.at_ j6;obtain⟨⟨yp,yq⟩,i5⟩:∃z,y[j]? =some z:=⟨y[j]'(by rw[hy.out.1];exact hjk),List.getElem?_eq_getElem _⟩
     have i2:(Bc y)[j*2]? =some (.int .u32 yp)/\(Bc y)[j*2+1]? =some (.int .u32 yq):=by
      rw[←Ei];exact⟨Hw J5 2 Et y j _ i5 0 _ rfl,Hw J5 2 Et y j _ i5 1 _ rfl⟩
     have o0:=Ac (j:=j*2) a2.out (by simpa using i2.1);have o1:=Ac (j:=j*2+1) a2.out (by simpa using i2.2);have f0:wr.frozen? ⟨bp+1,j*2,none⟩=false:=by simp[World.frozen?,a2.out]
     have f1:wr.frozen? ⟨bp+1,j*2+1,none⟩=false:=by simp[World.frozen?,a2.out]
     have m0:=hI k2;have HD:=hI hd;clear i2 i5 b2 a0 k2 hd
     have j1:(y.set j (p',q')).length=k/\(y.set j (p',q')).take (j+1)=(Nx (B3 ss) p).take (j+1):=by
      refine⟨by rw[List.length_set];exact hy.out.1, ?_⟩
      have h1:(Nx (B3 ss) p)[j]? =some (p',q'):=by
       unfold Nx;rw[List.getElem?_map,HD.out,Option.map_some,List.getD_eq_getElem?_getD,m0.out];rfl
      have h2:(y.set j (p',q'))[j]? =some (p',q'):=by rw[List.getElem?_set_self (by rw[hy.out.1];exact hjk)]
      rw[Ba _ j _ h1,Ba _ j _ h2,List.take_set_of_le rr,hy.out.2]
     have m4:=hI j1;clear j1;have i8:=Bq (o:=j*2+1) (u:= .int .u32 q') (Bq (o:=j*2) (u:= .int .u32 p') a2.out);rw[Vo y j p' q' (by rw[hy.out.1];exact hjk)]at i8;have m3:=hI i8;clear i8;gi_wp2
     go_roundw
     case rel=>exact⟨j+1,y.set j (p',q'),by go_num,by omega,m4,m3,(a4.out.setCell (p:=⟨bp+1,j*2,none⟩) rfl _).setCell (p:=⟨bp+1,j*2+1,none⟩) rfl _⟩
     case measure=>simp[intOf];omega
    ·obtain rfl:k=j:=by omega
     have f3:y=Nx (B3 ss) p:=by
      have h1:=hy.out.2;rw[List.take_of_length_le (by rw[hy.out.1];exact rr),List.take_of_length_le (by simp[Nx,hp.out.1])]at h1;exact h1
     have d4:(Cp (B3 ss) k)[E0 n p]? =some y:=by
      have h:=Ny (B3 ss) k p hp.out.1 (by rw[b6.out];exact hp.out.2);rw[b6.out]at h;rw[f3];exact h
     have f7:J (E0 n p) T wr:=HU.out.hst _ _ _ _ HJ.out (a4.out.mono (fun b hb=>by subst hb;exact⟨by omega,hT.out.2⟩));have f9:Ab wr (some ⟨bp+1,0,none⟩) k k y:=To a2.out hy.out.1 (by unfold maxLen;omega);obtain⟨fn,tmps,assign,body,i4,hR⟩:=D3 (m':=m-1) (HU.out.hy _ T _ _ _ y d4 f9 (fun ad had=>by cases had;exact⟨by simp only;omega,hT.out.2⟩) f7);have HR:=hI hR;have b2:=hI (hl.out.keep a4.out (fun a1 ad had h=>by have:=(hA.out a1 ad had).2;omega));have a0:=hI ((a4.out.block _ (lt_of_block a5.out) (by omega)).trans a5.out);have d2:=hI (Sn a5.out hp.out.1);clear hR f3 d4 f7 f9 a5 d8 hl;gi_wp2;refine HR.out.mono ?_;rintro e W4 (⟨rfl,T',b8,a7,b1⟩|⟨rfl,hx⟩)
     ·have g1:=(a7.block _ (lt_of_block a0.out) hT.out.1).trans a0.out;have g2:=(a7.block _ (lt_of_block a2.out) hT.out.2).trans a2.out;have g3:=b2.out.keep a7 (fun a1 ad had=>(hA.out a1 ad had).1);have g4:0<n→∀ad,A2=some ad→¬T' ad.block/\ad.block<bp:=fun a1 ad had=>⟨fun h=>(b1 _ h).elim (hA.out a1 ad had).1 (fun h2=>by have:=(hA.out a1 ad had).2;have:=lt_of_block a0.out;omega),(hA.out a1 ad had).2⟩
      have g5:¬T' bp∧¬T' (bp+1):=⟨fun h=>(b1 _ h).elim hT.out.1 (fun h2=>by have:=lt_of_block a0.out;omega),fun h=>(b1 _ h).elim hT.out.2 (fun h2=>by have:=lt_of_block a2.out;omega)⟩
      obtain⟨q1,q2,q3⟩:=HU.out.hrd _ _ _ b8;have b4:=cell_of_one q2;have G1:=hI g1;have G2:=hI g2;have G3:=hI g3;have G4:=hI g4;have G5:=hI g5;have g6:=hI b8;have j3:=hI hy.out.1;clear q1 q2 q3 g1 g2 g3 g4 g5 b8 a7 b1 i4 b2 a0 a2 a4 hy HR hA hT;gi_wp2;clear b4
      gi_loopw [8] (fun i wr=>∃(z:Int) (i0:Nat) (q:List Nat),i= .int .i64 z/\z=(i0:Int)-1/\i0<=k/\Hid (Back n k p i0 q)/\Hid (wr.heap[bp]? =some (.cells (plC q) 226 (0,0)))/\Hid (Ae (fun b=>b=bp) W4 wr))
       (fun i _=>(intOf i+1).toNat)
      case atStart=>exact⟨(k:Int)-1,k,p,rfl,rfl,rr,Back.start hp.out.1,G1,Ae.refl _ _⟩
      case round=>
       obtain⟨z,i0,q,rfl,hz,m2,d1,a9,a8⟩:=hrel;have i3:=hI (HU.out.hst _ _ _ _ g6.out (a8.out.mono (fun b hb=>by subst hb;exact⟨by omega,G5.out.1⟩):Ae (fun b=>B<=b∧¬T' b) W4 wr));rcases Nat.eq_zero_or_pos i0 with g0|g0
       ·have f5:z= -1:=by omega
        subst f5;subst g0;have a3:=d1.out.last;have i7:=hI a3;clear a3 hz;gi_wp2;refine bodyPost_ret (results_none rfl _ _ _) rfl ⟨⟨_,rfl⟩, .inl ⟨T', ?_⟩⟩;rw[Gx,b6.out,←i7.out];exact i3.out
       ·obtain⟨i1,rfl⟩:∃i1,i0=i1+1:=⟨i0-1,by omega⟩;have f5:z=(i1:Int):=by omega
        subst f5;have m1:i1<k:=by omega
        obtain⟨d,hd⟩:∃d,p[i1]? =some d:=⟨p[i1]'(by rw[hp.out.1];exact m1),List.getElem?_eq_getElem _⟩;have j6:d<n:=hp.out.2 d (List.mem_of_getElem? hd);have g7:q[i1]? =some d:=(d1.out.digit hp.out.1).trans hd;have j8:i1<q.length:=(List.getElem?_eq_some_iff.1 g7).1;have c1:=Ac a9.out (Wh g7);have f1:wr.frozen? ⟨bp,i1,none⟩=false:=by simp[World.frozen?,a9.out]
        have s1:=Bq (o:=i1) (u:= .int .i64 ((d+1:Nat):Int)) a9.out;rw[Xf q i1 (d+1) j8]at s1;have S1:=hI s1;have HD:=hI hd;have m7:=hI g7;clear s1 hd g7 hz;rw[show((d+1:Nat):Int)=(d:Int)+1 by omega]at S1;have g8:=hI (a8.out.setCell (p:=⟨bp,i1,none⟩) rfl (.int .i64 ((d:Int)+1)));by_cases hfull:d+1<n
        ·have k7:(d:Int)+1<(n:Int):=by omega
         obtain⟨n1,n2,n3⟩:=d1.out.next hp.out.1 HD.out hp.out.2 hfull;have N:=hI (And.intro n1 (And.intro n2 n3));clear n1 n2 n3;have k4:=hI (HU.out.hst _ _ _ _ g6.out (g8.out.mono (fun b hb=>by subst hb;exact⟨by omega,G5.out.1⟩):Ae (fun b=>B<=b∧¬T' b) W4 _));have k8:=lt_of_block G2.out;gi_wp2
         go_roundw
         case rel=>
          exact⟨q.set i1 (d+1),T',y,⟨N.out.1,N.out.2.1⟩,j3,by rw[N.out.2.2];exact k4,S1,(g8.out.block _ k8 (by omega)).trans G2.out,G5,G3.out.keep g8.out (fun a1 ad had h=>by have:=(G4.out a1 ad had).2;omega),G4⟩
         case measure=>
          rw[d2.out,Sn S1.out N.out.1,N.out.2.2]
          have:=Wu k p hp.out.1 hp.out.2
          omega
        ·have k7:¬(d:Int)+1<(n:Int):=by omega
         have j5:=hI (d1.out.step hp.out.1 HD.out (by omega));have s2:=Bq (o:=i1) (u:= .int .i64 ((0:Nat):Int)) S1.out;rw[Xf _ i1 0 (by rw[List.length_set];exact j8),List.set_set]at s2;have S2:=hI s2;clear s2;gi_wp2
         go_roundw
         case rel=>
          exact⟨(i1:Int)-1,i1,q.set i1 0,rfl,rfl,by omega,j5,S2,g8.out.setCell (p:=⟨bp,i1,none⟩) rfl _⟩
         case measure=>simp[intOf]
     ·have HX:=hI hx;clear hx;gi_wp2;refine bodyPost_ret (results_none rfl _ _ _) rfl ⟨⟨_,rfl⟩, .inr HX.out⟩
 ·have g9:¬(0:Int)<(k:Int):=by omega
  gi_wp2;clear g9;refine⟨trivial, ?_⟩;refine(callsIn_wide.2 (Sq A n c W)).mono ?_;rintro e w1 ⟨rfl,rfl⟩;gi_wp2;refine⟨trivial, ?_⟩;refine(callsIn_wide.2 (j9.out W (Below.refl _ _))).mono ?_;rintro e w2 ⟨A2,c2,rfl,d7,d5,d3⟩;have b0:Below W.heap.size W w2:=((Below.refl W.heap.size W).alloc rr _).trans (d5.mono (by simp));have e1:=(b0.cell (p:=⟨bn,0,none⟩) (lt_of_block (HU.out.hrd _ _ _ H0.out).2.1)).trans e1;have a6:=b0.size;have b5:bn<w2.heap.size:=Nat.lt_of_lt_of_le k1 a6;have b9:=hI d7;have i9:=hI (show∀ad,A2=some ad->W.heap.size<=ad.block from fun ad had=>by have:=d3 ad had;simp at this;omega);have d6:=hI (HU.out.hst _ _ _ _ H0.out (show Ae (fun b=>B<=b∧¬T0 b) W w2 from Aj b0));clear d7 d5 d3 b0 e2;gi_wp2;rw[←Ul k hk];obtain⟨bp,b7⟩:∃bp,bp=w2.heap.size:=⟨_,rfl⟩
  have f2:0<n→∀ad,A2=some ad→¬T0 ad.block/\ad.block<bp:=fun a1 ad had=>by
   obtain⟨b,off,hb,i6,_⟩:=b9.out.2.2.2.2 a1;have h1:=i9.out ad had;rw[had]at hb;injection hb with hb;subst hb
   simp only at h1 i6 ⊢;exact⟨fun h=>by have:=d0 _ h;omega,by omega⟩
  have f6:=hI f2;clear f2;have x1:((w2.alloc (.cells (plC (List.replicate k 0)) 226)).alloc (.cells (Bc (List.replicate k (0,0))).toArray 24)).heap[w2.heap.size]? =some (.cells (plC (List.replicate k 0)) 226 (0,0)):=hpt;have x2:((w2.alloc (.cells (plC (List.replicate k 0)) 226)).alloc (.cells (Bc (List.replicate k (0,0))).toArray 24)).heap[w2.heap.size+1]? =some (.cells (Bc (List.replicate k (0,0))).toArray 24 (0,0)):=hpt;have x3:Below w2.heap.size w2 ((w2.alloc (.cells (plC (List.replicate k 0)) 226)).alloc (.cells (Bc (List.replicate k (0,0))).toArray 24)):=bel;rw[←b7]at x1 x2 ⊢;generalize(w2.alloc (.cells (plC (List.replicate k 0)) 226)).alloc (.cells (Bc (List.replicate k (0,0))).toArray 24)=V at*;have f4:=HU.out.hst _ _ _ _ d6.out (show Ae (fun b=>B<=b∧¬T0 b) w2 V from Aj x3);have f8:=hI f4;have d9:=hI (b9.out.below x3 rr);have X1:=hI x1;have X2:=hI x2;have k6:B<=bp/\W.heap.size<=bp:=by omega
  have k5:=hI b7;clear b7 x1 x2 x3 f4 d6 b9 e1 j2 b5 a6
  gi_loopw [7] (fun _ wr=>∃(p:List Nat) (T:Nat->Prop) (x:List Snd),Hid (p.length=k∧∀d∈p,d<n)/\Hid (x.length=k)/\Hid (J (E0 n p) T wr)/\Hid (wr.heap[bp]? =some (.cells (plC p) 226 (0,0)))∧
    Hid (wr.heap[bp+1]? =some (.cells (Bc x).toArray 24 (0,0)))/\Hid (¬T bp∧¬T (bp+1))/\Hid (Ab wr A2 n c2 (B3 ss))/\Hid (0<n→∀ad,A2=some ad→¬T ad.block/\ad.block<bp))
   (fun _ wr=>n^k-E0 n (Ada wr bp k))
  case atStart=>
   refine⟨List.replicate k 0,T0,List.replicate k (0,0),⟨by simp,fun d hd=> ?_⟩,(by simp:(List.replicate k ((0,0):Snd)).length=k), ?_,X1,X2,⟨fun h=>by have:=d0 _ h;omega,fun h=>by have:=d0 _ h;omega⟩,d9,f6⟩
   ·have h1:=List.eq_of_mem_replicate hd
    have h2:0<k:=by rcases Nat.eq_zero_or_pos k with h|h; · subst h;simp at hd
                    ·exact h
    have:=HZ.out;omega
   ·rw[Qr];exact f8
  case round=>
   clear X1 X2 d9 f6 f8;obtain⟨p,T,x,hp,hx,HJ,a5,d8,hT,hl,hA⟩:=hrel;obtain⟨q1,q2,q3⟩:=HU.out.hrd _ _ _ HJ.out;have b4:=cell_of_one q2;have Q2:=hI q2;clear q1 q2 q3;gi_wp2;obtain⟨wo,rfl⟩:∃wo:World,wo=wr:=⟨_,rfl⟩;clear b4
   gi_loopw [7,22] (fun _ i wr=>∃(j:Nat) (y:List Snd),i= .int .i64 j/\j<=k/\Hid (y.length=k/\y.take j=(Nx (B3 ss) p).take j)/\Hid (wr.heap[bp+1]? =some (.cells (Bc y).toArray 24 (0,0)))/\Hid (Ae (fun b=>b=bp+1) wo wr))
    (fun _ i _=>k-(intOf i).toNat)
   case atStart=>exact⟨0,x,rfl,Nat.zero_le _,⟨hx.out,by simp⟩,d8,Ae.refl _ _⟩
   case round=>
    obtain⟨j,y,rfl,hj,hy,a2,a4⟩:=hrel;by_cases hjk:j<k
    ·exfalso;omega
    ·obtain rfl:k=j:=by omega
     have f3:y=Nx (B3 ss) p:=by
      have h1:=hy.out.2;rw[List.take_of_length_le (by rw[hy.out.1];exact rr),List.take_of_length_le (by simp[Nx,hp.out.1])]at h1;exact h1
     have d4:(Cp (B3 ss) k)[E0 n p]? =some y:=by
      have h:=Ny (B3 ss) k p hp.out.1 (by rw[b6.out];exact hp.out.2);rw[b6.out]at h;rw[f3];exact h
     have f7:J (E0 n p) T wr:=HU.out.hst _ _ _ _ HJ.out (a4.out.mono (fun b hb=>by subst hb;exact⟨by omega,hT.out.2⟩));have f9:Ab wr (some ⟨bp+1,0,none⟩) k k y:=To a2.out hy.out.1 (by unfold maxLen;omega);obtain⟨fn,tmps,assign,body,i4,hR⟩:=D3 (m':=m-1) (HU.out.hy _ T _ _ _ y d4 f9 (fun ad had=>by cases had;exact⟨by simp only;omega,hT.out.2⟩) f7);have HR:=hI hR;have b2:=hI (hl.out.keep a4.out (fun a1 ad had h=>by have:=(hA.out a1 ad had).2;omega));have a0:=hI ((a4.out.block _ (lt_of_block a5.out) (by omega)).trans a5.out);have d2:=hI (Sn a5.out hp.out.1);clear hR f3 d4 f7 f9 a5 d8 hl;gi_wp2;refine HR.out.mono ?_;rintro e W4 (⟨rfl,T',b8,a7,b1⟩|⟨rfl,hx⟩)
     ·have g1:=(a7.block _ (lt_of_block a0.out) hT.out.1).trans a0.out;have g2:=(a7.block _ (lt_of_block a2.out) hT.out.2).trans a2.out;have g3:=b2.out.keep a7 (fun a1 ad had=>(hA.out a1 ad had).1);have g4:0<n→∀ad,A2=some ad→¬T' ad.block/\ad.block<bp:=fun a1 ad had=>⟨fun h=>(b1 _ h).elim (hA.out a1 ad had).1 (fun h2=>by have:=(hA.out a1 ad had).2;have:=lt_of_block a0.out;omega),(hA.out a1 ad had).2⟩
      have g5:¬T' bp∧¬T' (bp+1):=⟨fun h=>(b1 _ h).elim hT.out.1 (fun h2=>by have:=lt_of_block a0.out;omega),fun h=>(b1 _ h).elim hT.out.2 (fun h2=>by have:=lt_of_block a2.out;omega)⟩
      obtain⟨q1,q2,q3⟩:=HU.out.hrd _ _ _ b8;have b4:=cell_of_one q2;have G1:=hI g1;have G2:=hI g2;have G3:=hI g3;have G4:=hI g4;have G5:=hI g5;have g6:=hI b8;have j3:=hI hy.out.1;clear q1 q2 q3 g1 g2 g3 g4 g5 b8 a7 b1 i4 b2 a0 a2 a4 hy HR hA hT;gi_wp2;clear b4
      gi_loopw [8] (fun i wr=>∃(z:Int) (i0:Nat) (q:List Nat),i= .int .i64 z/\z=(i0:Int)-1/\i0<=k/\Hid (Back n k p i0 q)/\Hid (wr.heap[bp]? =some (.cells (plC q) 226 (0,0)))/\Hid (Ae (fun b=>b=bp) W4 wr))
       (fun i _=>(intOf i+1).toNat)
      case atStart=>exact⟨(k:Int)-1,k,p,rfl,rfl,rr,Back.start hp.out.1,G1,Ae.refl _ _⟩
      case round=>
       obtain⟨z,i0,q,rfl,hz,m2,d1,a9,a8⟩:=hrel;have i3:=hI (HU.out.hst _ _ _ _ g6.out (a8.out.mono (fun b hb=>by subst hb;exact⟨by omega,G5.out.1⟩):Ae (fun b=>B<=b∧¬T' b) W4 wr));rcases Nat.eq_zero_or_pos i0 with g0|g0
       ·have f5:z= -1:=by omega
        subst f5;subst g0;have a3:=d1.out.last;have i7:=hI a3;clear a3 hz;gi_wp2;refine bodyPost_ret (results_none rfl _ _ _) rfl ⟨⟨_,rfl⟩, .inl ⟨T', ?_⟩⟩;rw[Gx,b6.out,←i7.out];exact i3.out
       ·exfalso;omega
     ·have HX:=hI hx;clear hx;gi_wp2;refine bodyPost_ret (results_none rfl _ _ _) rfl ⟨⟨_,rfl⟩, .inr HX.out⟩
theorem Xg (A:Option Addr)(n c:Nat)(k:Int)(w:World):Calls Tryz.prog 161 #[.slice A n c, .int .i64 k] w fun e w'=>
  e= .returned (.func (.func 189) #[] #[.pointer (some ⟨w.heap.size+1,0,none⟩), .pointer (some ⟨w.heap.size,0,none⟩)])/\w'.heap[w.heap.size+1]? =some (.cells #[.int .i64 k] 3 (0,0))∧
   w'.heap[w.heap.size]? =some (.cells #[.slice A n c] 32 (0,0))/\Below w.heap.size w w'/\w'.heap.size=w.heap.size+2:=by
 go_enter Tryz.func161,Tryz.ntmps161;go_wp2;go_ret;exact⟨rfl,hpt,hpt,bel,by simp⟩
end Go.Proofs.YtlgliddhideflaaGreatDoor
namespace Go.Proofs.YtlgliddhideflaaGreatDoor
open Go.RowKit Go.Shelf
attribute [local go_sem] Oper.semAt_some
structure Aeg (lr bs bl bw:Nat)(A:Option Addr)(n c:Nat)(xs:List Bu)(Aw:Option Addr)(nw cw:Nat)(ws:List Snd)(As:Option Addr)(ns cs:Nat)(ss:List Snd)(B:Nat)(J:Nat->(Nat->Prop)->World->Prop)(Jx:(Nat->Prop)->World->Prop):Prop where
 hB:∀i T W,J i T W->B<=W.heap.size
 hlt:∀i T W,J i T W→∀b,T b->b<W.heap.size
 hst:∀i T W W',J i T W->Ae (fun b=>B<=b∧¬T b) W W'->J i T W'
 hsx:∀T W W',Jx T W->Ae (fun b=>B<=b∧¬T b) W W'->Jx T W'
 hrd:∀i T W,J i T W->W.heap[bs]? =some (.cells #[.slice As ns cs] 32 (0,0))/\W.heap[bl]? =some (.cells #[.slice A n c] 35 (0,0))/\W.heap[bw]? =some (.cells #[.slice Aw nw cw] 32 (0,0))∧
  Bw W A n c xs/\Ab W Aw nw cw ws/\Ab W As ns cs ss/\B7 W
 hnd:∀i T W,J i T W→∀b,T b→∀x,W.heap[b]? ≠some (.deferred x)
 hnx:∀T W,Jx T W→∀b,T b→∀x,W.heap[b]? ≠some (.deferred x)
 hy:∀i T W A' k c' x,(Ca (Am xs) ws ss)[i]? =some x->Ab W A' k c' x->(∀ad,A'=some ad->B<=ad.block∧¬T ad.block)->J i T W->YieldAt Fence.wide 0 Tryz.prog lr #[.slice A' k c'] W (fun e W''=>
  Ae T W W''/\((e= .returned (.bool true)∧∃T',J (i+1) T' W''∧∀b,T' b->T b\/W.heap.size<=b)\/(e= .returned (.bool false)∧∃T',Jx T' W''∧∀b,T' b->T b\/W.heap.size<=b)))
def Aeh (w:World)(A:Option Addr)(n c:Nat)(Aw:Option Addr)(nw cw:Nat)(As:Option Addr)(ns cs:Nat)(e:Ending)(w':World):Prop:=
 ∃bs bl bw:Nat,e= .returned (.func (.func 180) #[] #[.pointer (some ⟨bs,0,none⟩), .pointer (some ⟨bl,0,none⟩), .pointer (some ⟨bw,0,none⟩)])∧
  w'.heap[bs]? =some (.cells #[.slice As ns cs] 32 (0,0))/\w'.heap[bl]? =some (.cells #[.slice A n c] 35 (0,0))/\w'.heap[bw]? =some (.cells #[.slice Aw nw cw] 32 (0,0))∧
  w.heap.size<=bs/\w.heap.size<=bl/\w.heap.size<=bw/\Below w.heap.size w w'
theorem Mn (A:Option Addr)(n c:Nat)(Aw:Option Addr)(nw cw:Nat)(As:Option Addr)(ns cs:Nat)(w:World):Calls Tryz.prog 141 #[.slice A n c, .slice Aw nw cw, .slice As ns cs] w (Aeh w A n c Aw nw cw As ns cs):=by
 go_enter Tryz.func141,Tryz.ntmps141;go_wp2;go_ret;exact⟨w.heap.size+1+1,w.heap.size,w.heap.size+1,rfl,hpt,hpt,hpt,by omega,rr,by omega,bel⟩
end Go.Proofs.YtlgliddhideflaaGreatDoor
namespace Go.Proofs.YtlgliddhideflaaGreatDoor
open Go.RowKit Go.Shelf
attribute [local go_sem] Oper.semAt_some
theorem Gn (m lr bs bl bw:Nat)(hm:3<=m)(A:Option Addr)(n c:Nat)(xs:List Bu)(Aw:Option Addr)(nw cw:Nat)(ws:List Snd)(As:Option Addr)(ns cs:Nat)(ss:List Snd)(W:World)(J:Nat->(Nat->Prop)->World->Prop)(Jx:(Nat->Prop)->World->Prop)(T0:Nat->Prop)(B:Nat)
  (H:Aeg lr bs bl bw A n c xs Aw nw cw ws As ns cs ss B J Jx) (h0:J 0 T0 W) (hr:B2 ss=0) (hnw:nw<=4096):
  CallsIn Fence.wide m Tryz.prog 180 #[.func (.yield lr) #[] #[], .pointer (some ⟨bs,0,none⟩), .pointer (some ⟨bl,0,none⟩), .pointer (some ⟨bw,0,none⟩)] W fun e W'=>
   (∃v,e= .returned v)/\((∃T,J (Ca (Am xs) ws ss).length T W')∨∃T,Jx T W'):=by
 have j0:=H.hlt _ _ _ h0;have o4:=H.hB _ _ _ h0;obtain⟨r1,r2,r3,r4,r5,r6,r7⟩:=H.hrd _ _ _ h0;have o2:=lt_of_block r1;have d1:=lt_of_block r2;have m6:=lt_of_block r3;obtain⟨i3,f6,i0⟩:=Bz hr;have k5:ns<=5:=by rw[←r6.len];exact i3
 have m7:=hI f6;clear f6;have j4:=hI i0;clear i0;have HU:=hI H;clear H;have H0:=hI h0;clear h0;clear r1 r2 r3 r4 r5 r6 r7 hr i3;refine callsIn_of_wp_marks Tryz.func180 rfl trivial ?_ rfl;simp only[Tryz.ntmps180,List.size_toArray,List.length_cons,List.length_nil,Nat.reduceAdd,Nat.reduceSub,Array.replicate_succ,Array.replicate_zero,List.push_toArray,List.append_toArray,List.nil_append,List.cons_append];gi_wp2;have g5:(W.alloc (.cells #[.func (.yield lr) #[] #[]] 90)).heap[W.heap.size]? =some (.cells #[.func (.yield lr) #[] #[]] 90 (0,0)):=hpt;have g7:Below W.heap.size W (W.alloc (.cells #[.func (.yield lr) #[] #[]] 90)):=bel;generalize(W.alloc (.cells #[.func (.yield lr) #[] #[]] 90))=W0 at*;have J0:=hI (HU.out.hst _ T0 W W0 H0.out (Aj g7));have o8:=lt_of_block g5;have G5:=hI g5;clear g5;clear g7
 refine wpIn_loop (fun a' wr=>∃(k:Nat) (T:Nat->Prop) (ds:List Deferred) (u5 u6 u7 u8 u10 u11 u12 u13 u14 u15 u16 u17 u18 u19 u20 u21 u22 u23 u24 u25 u26 u27 u28 u29 u30 u31 u32 u33 u34 u35:Value),
   a'={tmps:= #[.func (.yield lr) #[] #[], .pointer (some ⟨bs,0,none⟩), .pointer (some ⟨bl,0,none⟩), .pointer (some ⟨bw,0,none⟩), .pointer (some ⟨W.heap.size,0,none⟩),u5,u6,u7,u8, .int .i64 k,u10,u11,u12,u13,u14,u15,u16,u17,u18,u19,u20,u21,u22,u23,u24,u25,u26,u27,u28,u29,u30,u31,u32,u33,u34,u35],defers:=ds}∧
   k<=7/\Hid (J (Gm (Am xs) ws ss k 0).length T wr)/\Hid (Cm W.heap.size wr ds)/\Hid (∀D,D7 D∈ds→¬T D)/\Hid (¬T W.heap.size)/\Hid (wr.heap[W.heap.size]? =some (.cells #[.func (.yield lr) #[] #[]] 90 (0,0))))
  (fun a' _=>7-(intOf (a'.tmps.getD 9 undef)).toNat) ?start ?round
 case start=>
  exact⟨0,T0,[],_,_,_,_,_,_,_,_,_,_,_,_,_,_,_,_,_,_,_,_,_,_,_,_,_,_,_,_,_,_,rfl,by omega,by rw[Abl];exact J0,trivial,fun D h=>by simp at h,fun h=>by have:=j0 _ h;omega,G5⟩
 case round=>
  rintro _ wr ⟨k,T,ds,u5,u6,u7,u8,u10,u11,u12,u13,u14,u15,u16,u17,u18,u19,u20,u21,u22,u23,u24,u25,u26,u27,u28,u29,u30,u31,u32,u33,u34,u35,rfl,hk,HJ,HM,j5,j1,HG⟩;have m3:=lt_of_block HG.out;by_cases hlt:k<7
  ·obtain⟨r1,r2,r3,r4,r5,r6,r7⟩:=HU.out.hrd _ _ _ HJ.out;have c1:=cell_of_one r1;have j6:=lt_of_block r1;clear r1 r2 r3 r4 r5 r7;have R6:=hI r6;clear r6;gi_wp2;refine⟨trivial,fun _=>by omega, ?_⟩
   refine(callsIn_wide.2 (Xg As ns cs k wr)).mono ?_;rintro e w1 ⟨rfl,k2,k1,g9,k6⟩;have b4:=hI (HU.out.hlt _ _ _ HJ.out);have K1:=hI k1;have K2:=hI k2;clear k1 k2 c1;gi_wp2;refine Cv (gf:=189) (lb:= #[.pointer (some ⟨wr.heap.size+1,0,none⟩), .pointer (some ⟨wr.heap.size,0,none⟩)]) rfl (enters_of Tryz.func189 (by kernel_rfl) rfl) fun fn D l rc W1 hrc hD hl hK2 hD1 hl1 hs2=> ?_
   have k9:=hI hrc;clear hrc;have m8:D<l:=by omega
   have d9:l<W1.heap.size:=by omega
   have m9:wr.heap.size+1<D:=by omega
   clear hs2 hD hl k6;have b0:Ae (fun _=>False) wr W1:=(Aj g9).trans hK2;have o6:=b0.size;have j3:=hI b0;have k11:=(hK2.block _ (lt_of_block K1.out) (by simp)).trans K1.out;have k21:=(hK2.block _ (lt_of_block K2.out) (by simp)).trans K2.out;have f3:=(b0.block _ m3 (by simp)).trans HG.out;have k4:=hI (HU.out.hst _ _ _ _ HJ.out (b0.mono fun _ h=>h.elim));clear g9 b0 hK2;obtain⟨Mine,a0⟩:∃Mine:Nat->Prop,Mine=fun b=>W.heap.size<=b/\b<W1.heap.size∧¬T b:=⟨_,rfl⟩
   have d4:Mine l:=by rw[a0];exact⟨by omega,d9,fun h=>by have:=b4.out _ h;omega⟩
   have f2:Mine D:=by rw[a0];exact⟨by omega,by omega,fun h=>by have:=b4.out _ h;omega⟩
   have f7:Mine wr.heap.size:=by rw[a0];exact⟨by omega,by omega,fun h=>by have:=b4.out _ h;omega⟩
   have g8:Mine (wr.heap.size+1):=by rw[a0];exact⟨by omega,by omega,fun h=>by have:=b4.out _ h;omega⟩
   have f0:Mine W.heap.size:=by rw[a0];exact⟨rr,by omega,j1.out⟩
   have f9:∀D',D7 D'∈ds->Mine D'/\D'<D/\W1.heap[D']? =some (.deferred (some [])):=fun D' h=>by
    obtain⟨h1,h2⟩:=HM.out.at_ D' h;have h3:=(Array.getElem?_eq_some_iff.1 h1).1;rw[a0];exact⟨⟨h2,by omega,j5.out D' h⟩,by omega,(j3.out.block _ h3 (by simp)).trans h1⟩
   have b1:∀b,Mine b->W.heap.size<=b/\b<W1.heap.size∧¬T b:=fun b h=>by rw[a0]at h;exact h
   clear a0;have a6:=hI d4;have b7:=hI f2;have k8:=hI f7;have k7:=hI g8;have b5:=hI f0;have a2:=hI f9;have a1:=hI b1;clear d4 f2 f7 g8 f0 f9 b1
   obtain⟨JJ,d6⟩:∃JJ:Nat->(Nat->Prop)->World->Prop,JJ=fun i T' X=>∃T1:Nat->Prop,T'=(fun b=>T1 b\/b=l)/\J (Gm (Am xs) ws ss k i).length T1 X/\(∀b,Mine b→¬T1 b)/\(∀b,Mine b->b≠l->X.heap[b]? =W1.heap[b]?)∧
     X.heap[l]? =some (.loop (rc .ready none))/\W1.heap.size<=X.heap.size:=⟨_,rfl⟩
   have a4:=hI d6;clear d6;obtain⟨JX,f4⟩:∃JX:World->Prop,JX=fun X=>∃T1:Nat->Prop,Jx T1 X/\(∀b,Mine b→¬T1 b)/\(∀b,Mine b->b≠l->X.heap[b]? =W1.heap[b]?)/\X.heap[l]? =some (.loop (rc .done (some .ret))):=⟨_,rfl⟩
   have f5:=hI f4;clear f4;have m1:=hI k11;have j9:=hI k21;have d2:=hI f3;have i5:=hI hD1;have i9:=hI hl1;clear k11 k21 f3 hD1 hl1;refine(M0 (m-1) l (wr.heap.size+1) wr.heap.size (by omega) As ns cs ss k W1.heap.size W1 JJ JX (fun b=>T b\/b=l) ?hu ?h0 k5 (by omega) j4.out).mono ?_
   case h0=>
    rw[a4.out];exact⟨T,rfl,k4.out,fun b hb=>(a1.out b hb).2.2,fun b _ _=>rfl,i9.out,rr⟩
   case hu=>
    refine⟨?hB, ?hlt, ?hst, ?hrd, ?hy⟩
    case hB=>
     intro i T' X hx;rw[a4.out]at hx;obtain⟨T1,rfl,h1,h2,h3,h4,h5⟩:=hx;exact h5
    case hlt=>
     intro i T' X hx b hb;rw[a4.out]at hx;obtain⟨T1,rfl,h1,h2,h3,h4,h5⟩:=hx;rcases hb with hb|rfl
     ·exact HU.out.hlt _ _ _ h1 b hb
     ·exact lt_of_block h4
    case hst=>
     intro i T' X X' hx b8;rw[a4.out]at hx ⊢;obtain⟨T1,rfl,h1,h2,h3,h4,h5⟩:=hx;have ho:∀b,b<W1.heap.size->X'.heap[b]? =X.heap[b]? :=fun b hb=>b8.block b (by omega) (fun h=>by have:=h.1;omega)
     exact⟨T1,rfl,HU.out.hst _ _ _ _ h1 (b8.mono fun b hb=>⟨by have:=hb.1;omega,fun h=>hb.2 (.inl h)⟩),h2,fun b hb hne=>(ho b (a1.out b hb).2.1).trans (h3 b hb hne),(ho l d9).trans h4,Nat.le_trans h5 b8.size⟩
    case hrd=>
     intro i T' X hx;rw[a4.out]at hx;obtain⟨T1,rfl,h1,h2,h3,h4,h5⟩:=hx;obtain⟨q1,q2,q3,q4,q5,q6,q7⟩:=HU.out.hrd _ _ _ h1;exact⟨(h3 _ k8.out (by omega)).trans m1.out,(h3 _ k7.out (by omega)).trans j9.out,q6⟩
    case hy=>
     intro i T' X A' c' x g3 g1 d8 hx;rw[a4.out]at hx;obtain⟨T1,rfl,h1,h2,h3,h4,h5⟩:=hx;refine Cw k9.out h4 rfl ?_;have b3:=hI g3;clear g3;have j8:=hI g1;clear g1;have b6:=hI d8;clear d8;have m2:=hI h1;have a7:=hI h2;have m4:=hI h3;have d7:=hI h4;clear h1 h2 h3 h4;gi_wp2;refine⟨d7.out, ?_⟩;have p4:(X.putObj l (.loop (rc .busy none))).heap[l]? =some (.loop (rc .busy none)):=World.putObj_heap_same (lt_of_block d7.out);have pK:Ae (fun b=>b=l) X (X.putObj l (.loop (rc .busy none))):=(Ae.refl (fun b=>b=l) X).putObj rfl _;have pJ:J (Gm (Am xs) ws ss k i).length T1 (X.putObj l (.loop (rc .busy none))):=HU.out.hst _ _ _ _ m2.out (pK.mono (fun b hb=>by subst hb;exact⟨by omega,a7.out _ a6.out⟩));have p3:∀b,Mine b->b≠l->(X.putObj l (.loop (rc .busy none))).heap[b]? =W1.heap[b]? :=fun b hb hne=>(World.putObj_heap_other hne).trans (m4.out b hb hne)
     have pw:Ab (X.putObj l (.loop (rc .busy none))) A' k c' x:=j8.out.keep pK fun _ ad had e=>(b6.out ad had).2 (.inr e)
     have ps:(X.putObj l (.loop (rc .busy none))).heap.size=X.heap.size:=by simp
     generalize X.putObj l (.loop (rc .busy none))=V at*;have o9:W1.heap.size<=V.heap.size:=by omega
     obtain⟨q1,q2,q3,q4,q5,q6,q7⟩:=HU.out.hrd _ _ _ pJ;have e2:=cell_of_one q2;have e3:=cell_of_one q3;have o7:=lt_of_block q2;have k0:=lt_of_block q3;have P4:=hI p4;have PK:=hI pK;have PJ:=hI pJ;have P3:=hI p3;have PW:=hI pw;have Q2:=hI q2;have Q3:=hI q3;have Q4:=hI q4;have Q5:=hI q5;have Q7:=hI q7;clear p4 pK pJ p3 pw q1 q2 q3 q4 q5 q6 q7;gi_wp2;refine⟨trivial,rfl,(CallsIn.inRound l (callsIn_wide.2 (S8 A n c xs A' k c' x V Q4.out PW.out Q7.out))).mono ?_⟩;rintro e V2 ⟨A2,n2,c2,rfl,i4,d5,i8⟩;have j7:=hI i4;clear i4;have a3:=hI d5;clear d5 i8;have o0:=a3.out.cell (p:=⟨bw,0,none⟩) k0;have g4:V.heap[W.heap.size]? =some (.cells #[.func (.yield lr) #[] #[]] 90 (0,0)):=(P3.out _ b5.out (by omega)).trans d2.out;have g0:=lt_of_block g4;have e4:=cell_of_one g4;have o3:=a3.out.cell (p:=⟨W.heap.size,0,none⟩) g0;clear g4
     have d0:Hid (∀(Y:World) (T2:Nat->Prop),J (Gm (Am xs) ws ss k (i+1)).length T2 Y->Ae T1 V Y->(∀b,T2 b->T1 b\/V.heap.size<=b)→
       ∃T'',JJ (i+1) T'' (Y.putObj l (.loop (rc .ready none)))/\Ae (fun b=>T1 b\/b=l) X (Y.putObj l (.loop (rc .ready none)))∧∀b,T'' b->(fun b=>T1 b\/b=l) b\/X.heap.size<=b):=by
      intro Y T2 y1 y2 y3;have o1:=y2.size
      have i2:∀b,Mine b→¬T2 b:=fun b hb h=>by
       rcases y3 b h with h|h
       ·exact a7.out b hb h
       ·have:=(a1.out b hb).2.1;omega
      have m0:l<Y.heap.size:=by omega
      refine⟨fun b=>T2 b\/b=l, ?_, ?_,fun b h=> ?_⟩
      ·rw[a4.out];refine⟨T2,rfl,HU.out.hst _ _ _ _ y1 (((Ae.refl (fun b=>b=l) Y).putObj rfl _).mono fun b hb=>by subst hb;exact⟨by omega,i2 _ a6.out⟩),i2,fun b hb hne=> ?_,World.putObj_heap_same m0,by simp;omega⟩
       have d1:=(a1.out b hb).2.1;exact(World.putObj_heap_other hne).trans ((y2.block b (by omega) (a7.out b hb)).trans (P3.out b hb hne))
      ·exact((PK.out.mono fun _ h=> .inr h).trans (y2.mono fun _ h=> .inl h)).putObj (.inr rfl) _
      ·rcases h with h|h
       ·rcases y3 b h with h|h
        ·exact .inl (.inl h)
        ·exact .inr (by omega)
       ·exact .inl (.inr h)
     have JV2:=hI (HU.out.hst _ _ _ _ PJ.out (Aj a3.out));have PL2:=hI ((a3.out.block l (lt_of_block P4.out)).trans P4.out);by_cases hd0:(Bl (Am xs) x).1=0
     ·gi_wp2;refine⟨trivial,rfl,(CallsIn.inRound l (callsIn_wide.2 (K8 A2 Aw n2 nw c2 cw _ ws V2 j7.out (Q5.out.below a3.out rr)))).mono ?_⟩;rintro e V3 ⟨rfl,i1⟩;have a5:=hI (a3.out.trans (i1.mono a3.out.size));clear i1;have m5:=a5.out.cell (p:=⟨W.heap.size,0,none⟩) g0;have JV3:=hI (HU.out.hst _ _ _ _ PJ.out (Aj a5.out));have PL3:=hI ((a5.out.block l (lt_of_block P4.out)).trans P4.out);by_cases hd1:(Bl (Am xs) x).2=ws
      ·have a9:Hid (Bl (Am xs) x=(0,ws)):=by show _=_;rw[Prod.ext_iff];exact⟨hd0,hd1⟩
       have i7:=hI (Xc b3.out a9.out);rw[decide_eq_true hd1];clear hd0 hd1;obtain⟨fn',tmps',assign',body',d3,hR⟩:=D3 (m':=0) (HU.out.hy _ T1 V3 A' k c' x (Aef (by omega) b3.out a9.out) (PW.out.below a5.out rr) (fun ad had=>⟨by have:=(b6.out ad had).1;omega,fun h=>(b6.out ad had).2 (.inl h)⟩) JV3.out);have HR:=hI hR;clear hR;gi_wp2;refine⟨rfl, ?_⟩;refine RoundIn.mono (F:=Fence.wide.inRound l) (by exact HR.out) ?_;have o5:=a5.out.size;rintro e W6 ⟨a8,⟨rfl,T6,f8,f1⟩|⟨rfl,T8,hx,g6⟩⟩
       ·have b2:=(a8.block l (lt_of_block PL3.out) (a7.out _ a6.out)).trans PL3.out;obtain⟨T7,z1,z2,z3⟩:=d0.out W6 T6 (by rw[i7.out,List.length_append];exact f8) (Ae.trans (Aj a5.out) a8) (fun b h=>(f1 b h).imp id fun h=>by omega);have Z1:=hI (And.intro b2 (And.intro z1 (And.intro z2 z3)));clear a8 f8 f1 b2 z1 z2 z3 d3;gi_wp2;exact⟨Z1.out.1, .inl ⟨rfl,T7,Z1.out.2.1,Z1.out.2.2.1,Z1.out.2.2.2⟩⟩
       ·have b2:=(a8.block l (lt_of_block PL3.out) (a7.out _ a6.out)).trans PL3.out;have g2:∀b,Mine b→¬T8 b:=fun b hb h=>(g6 b h).elim (a7.out b hb) fun h=>by have:=(a1.out b hb).2.1;omega
        have HP:=hI b2;have HX:=hI hx;have k3:=hI a8;have i6:=hI g2;clear a8 b2 hx d3 g2 g6;gi_wp2;refine⟨HP.out, .inr ⟨rfl, ?_⟩⟩;rw[f5.out]
        exact⟨T8,HU.out.hsx _ _ _ HX.out (((Ae.refl (fun b=>b=l) W6).putObj rfl _).mono fun b hb=>by subst hb;exact⟨by omega,i6.out _ a6.out⟩),i6.out,fun b hb hne=>by
         have d1:=(a1.out b hb).2.1;exact(World.putObj_heap_other hne).trans ((k3.out.block b (by omega) (a7.out b hb)).trans ((a5.out.block b (by omega)).trans (P3.out b hb hne))),World.putObj_heap_same (lt_of_block HP.out)⟩
      ·have a9:Hid (¬Bl (Am xs) x=(0,ws)):=by show¬_;rw[Prod.ext_iff];exact fun h=>hd1 h.2
       have b9:=hI (Abo b3.out a9.out);rw[decide_eq_false hd1];clear hd0 hd1;gi_wp2;refine⟨fun _ h=>(by cases h), ?_⟩
       gi_wp2;obtain⟨T7,z1,z2,z3⟩:=d0.out V3 T1 (by rw[b9.out];exact JV3.out) (Aj a5.out) (fun b h=> .inl h);exact⟨PL3.out, .inl ⟨rfl,T7,z1,z2,z3⟩⟩
     ·have j2:((Bl (Am xs) x).1==0)=false:=by simpa using hd0
      have a9:Hid (¬Bl (Am xs) x=(0,ws)):=by show¬_;rw[Prod.ext_iff];exact fun h=>hd0 h.1
      have b9:=hI (Abo b3.out a9.out);clear hd0;gi_wp2;refine⟨trivial, ?_⟩;gi_wp2;refine⟨fun _ h=>(by cases h), ?_⟩
      gi_wp2;obtain⟨T7,z1,z2,z3⟩:=d0.out V2 T1 (by rw[b9.out];exact JV2.out) (Aj a3.out) (fun b h=> .inl h);exact⟨PL2.out, .inl ⟨rfl,T7,z1,z2,z3⟩⟩
   ·rintro e W2 ⟨⟨v,rfl⟩,⟨T9,hj⟩|hx⟩
    ·rw[a4.out]at hj;obtain⟨T1,rfl,h1,h2,h3,h4,h5⟩:=hj;refine .inl ⟨h4, ?_⟩;rw[Abn]at h1;have xJ:J (Gm (Am xs) ws ss (k+1) 0).length T1 (W2.putObj l (.loop (rc .exhausted none))):=HU.out.hst _ _ _ _ h1 (((Ae.refl (fun b=>b=l) W2).putObj rfl _).mono fun b hb=>by subst hb;exact⟨by omega,h2 _ a6.out⟩)
     have x3:∀b,Mine b->b≠l->(W2.putObj l (.loop (rc .exhausted none))).heap[b]? =W1.heap[b]? :=fun b hb hne=>(World.putObj_heap_other hne).trans (h3 b hb hne)
     generalize W2.putObj l (.loop (rc .exhausted none))=X at*;have XM:Hid (Cm W.heap.size X (D7 D::ds)):=⟨D,rfl,by omega,(x3 D b7.out (by omega)).trans i5.out,fun D' hm=>(a2.out D' hm).2.1,HM.out.mono fun D' hm _=>(x3 D' (a2.out D' hm).1 (by have:=(a2.out D' hm).2.1;omega)).trans (a2.out D' hm).2.2⟩
     have XT:Hid (∀D',D7 D'∈D7 D::ds→¬T1 D'):=fun D' hm=>by
      rcases List.mem_cons.1 hm with e|e
      ·have he:D'=D:=by simpa[D7]using e
       subst he;exact h2 _ b7.out
      ·exact h2 _ (a2.out D' e).1
     have XW:=hI (h2 _ b5.out);have XG:=hI ((x3 _ b5.out (by omega)).trans d2.out);have XJ:=hI xJ;clear xJ x3 h1 h2 h3 h4 h5;gi_wp2;exact⟨⟨k+1,T1,D7 D::ds,⟨by omega,rfl⟩,by omega,XJ.out,XM.out,XT.out,XW.out⟩,by simp[intOf];omega⟩
    ·rw[f5.out]at hx;obtain⟨T1,h1,h2,h3,h4⟩:=hx;refine .inr ⟨.ret,h4, ?_⟩;have xJ:Jx T1 (W2.putObj l (.loop (rc .exhausted (some .ret)))):=HU.out.hsx _ _ _ h1 (((Ae.refl (fun b=>b=l) W2).putObj rfl _).mono fun b hb=>by subst hb;exact⟨by omega,h2 _ a6.out⟩)
     have x3:∀b,Mine b->b≠l->(W2.putObj l (.loop (rc .exhausted (some .ret)))).heap[b]? =W1.heap[b]? :=fun b hb hne=>(World.putObj_heap_other hne).trans (h3 b hb hne)
     generalize W2.putObj l (.loop (rc .exhausted (some .ret)))=X at*;have XM:Hid (Cm W.heap.size X (D7 D::ds)):=⟨D,rfl,by omega,(x3 D b7.out (by omega)).trans i5.out,fun D' hm=>(a2.out D' hm).2.1,HM.out.mono fun D' hm _=>(x3 D' (a2.out D' hm).1 (by have:=(a2.out D' hm).2.1;omega)).trans (a2.out D' hm).2.2⟩
     have XJ:=hI xJ;clear xJ x3 h1 h2 h3 h4;gi_wp2;exact Dd (B:=W.heap.size) XM.out fun w' hw'=>⟨_,results_none rfl _ _ _,⟨_,rfl⟩, .inr ⟨T1,HU.out.hsx _ _ _ XJ.out ((Di hw' (HU.out.hnx _ _ XJ.out)).mono fun b hb=>⟨by have:=hb.1;omega,hb.2⟩)⟩⟩
  ·obtain rfl:k=7:=by omega
   gi_wp2;exact Tf (B:=W.heap.size) HM.out fun w' hw'=>⟨_,results_none rfl _ _ _,⟨_,rfl⟩, .inl ⟨T,by have h:=HU.out.hst _ _ _ _ HJ.out ((Di hw' (HU.out.hnd _ _ _ HJ.out)).mono fun b hb=>⟨by have:=hb.1;omega,hb.2⟩);rwa[Abm]at h⟩⟩
end Go.Proofs.YtlgliddhideflaaGreatDoor
namespace Go.Proofs.YtlgliddhideflaaGreatDoor
open Go.RowKit Go.Shelf
attribute [local go_sem] Oper.semAt_some
theorem Zp {ls:List Av}{w ss:List Snd}{most:Int}(h:Bg ls w ss≠0):Eo ls w ss most=(Bg ls w ss,[]):=by unfold Eo;rw[if_pos h]
theorem Ux {ls:List Av}{w ss:List Snd}{most:Int}(h:Bg ls w ss=0)(hm:most<0):Eo ls w ss most=(3,[]):=by unfold Eo;rw[if_neg (by simpa using h),if_pos hm]
theorem Acd {ls:List Av}{w ss:List Snd}{most:Int}(h:Bg ls w ss=0)(hm:¬most<0):Eo ls w ss most=(0,(Ca ls w ss).take most.toNat):=by unfold Eo;rw[if_neg (by simpa using h),if_neg hm]
theorem Qo (A:Option Addr)(n c:Nat)(xs:List Bu)(Aw:Option Addr)(nw cw:Nat)(ws:List Snd)(As:Option Addr)(ns cs:Nat)(ss:List Snd)(most:Int)(w:World)(hx:Bw w A n c xs)(hw:Ab w Aw nw cw ws)(hs:Ab w As ns cs ss)(hT:B7 w)(hnw:nw<=4096):
  Calls Tryz.prog 62 #[.slice A n c, .slice Aw nw cw, .slice As ns cs, .int .i64 most] w (Rt w (Eo (Am xs) ws ss most)):=by
 have HX:=hI hx;have HW:=hI hw;have HS:=hI hs;have HT:=hI hT;clear hx hw hs hT;refine(callsIn_wide (n:=9)).1 (callsIn_of_wp_marks Tryz.func62 rfl trivial ?_ rfl);simp only[Tryz.ntmps62,List.size_toArray,List.length_cons,List.length_nil,Nat.reduceAdd,Nat.reduceSub,Array.replicate_succ,Array.replicate_zero,List.push_toArray,List.append_toArray,List.nil_append,List.cons_append];gi_wp2;have k5:(w.alloc (.cells #[.int .i64 most] 3)).heap[w.heap.size]? =some (.cells #[.int .i64 most] 3 (0,0)):=hpt;have kB:Below w.heap.size w (w.alloc (.cells #[.int .i64 most] 3)):=bel;generalize(w.alloc (.cells #[.int .i64 most] 3))=V0 at*;refine⟨trivial, ?_⟩;refine(callsIn_wide.2 (Ng A n c xs Aw nw cw ws As ns cs ss V0 (HX.out.below kB rr) (HW.out.below kB rr) (HS.out.below kB rr))).mono ?_;rintro e w1 ⟨rfl,d5⟩;have K5:=hI ((d5.block _ (lt_of_block k5)).trans k5);have a1:=hI (kB.trans (d5.mono kB.size));clear k5 kB d5;obtain⟨b5,d1⟩:∃b5,b5=w.heap.size:=⟨_,rfl⟩;rw[←d1]at K5 ⊢;have l5:=lt_of_block K5.out;have j8:w.heap.size<=b5:=Nat.le_of_eq d1.symm;clear d1;obtain⟨er,d7⟩:∃er,er=Bg (Am xs) ws ss:=⟨_,rfl⟩;rw[←d7];have d8:=hI d7;clear d7;by_cases h0:er=0
 case neg=>
  have h1:(er !=0)=true:=by simpa using h0
  have HM:Hid (Eo (Am xs) ws ss most=(er,[])):=by show Eo _ _ _ _=_;rw[Zp (by rw[←d8.out];exact h0),d8.out]
  clear h0;gi_wp2;exact E6 (B:=w.heap.size) Tryz.results62 _ _ rfl rfl trivial fun w' hw'=>⟨none,0,0,by rw[HM.out];rfl,by rw[HM.out];exact B5.nil _,a1.out.trans hw'.below⟩
 have h1:(er !=0)=false:=by simpa using h0
 have a7:Hid (Bg (Am xs) ws ss=0):=by show _=_;rw[←d8.out];exact h0
 clear h0;have c5:=cell_of_one K5.out;by_cases hm0:most<0
 ·have HM:Hid (Eo (Am xs) ws ss most=(3,[])):=Ux a7.out hm0;gi_wp2;exact E6 (B:=w.heap.size) Tryz.results62 _ _ rfl rfl trivial fun w' hw'=>⟨none,0,0,by rw[HM.out];rfl,by rw[HM.out];exact B5.nil _,a1.out.trans hw'.below⟩
 have HM:Hid (Eo (Am xs) ws ss most=(0,(Ca (Am xs) ws ss).take most.toNat)):=Acd a7.out hm0;by_cases hm1:most=0
 ·subst hm1;have g2:Hid (Eo (Am xs) ws ss 0=(0,[])):=by show _=_;rw[HM.out];rfl
  clear hm0;gi_wp2;exact E6 (B:=w.heap.size) Tryz.results62 _ _ rfl rfl trivial fun w' hw'=>⟨none,0,0,by rw[g2.out];rfl,by rw[g2.out];exact B5.nil _,(a1.out.alloc a1.out.size _).trans hw'.below⟩
 have m5:(most==0)=false:=by simpa using hm1
 have m4:decide (most<0)=false:=by simpa using hm0
 gi_wp2;refine⟨trivial, ?_⟩;have gA:(w1.alloc (.cells #[.slice none 0 0] 46)).heap[w1.heap.size]? =some (.cells #[.slice none 0 0] 46 (0,0)):=hpt;have g5:(w1.alloc (.cells #[.slice none 0 0] 46)).heap[b5]? =some (.cells #[.int .i64 most] 3 (0,0)):=(Ah l5).trans K5.out;have gB:Below w.heap.size w (w1.alloc (.cells #[.slice none 0 0] 46)):=a1.out.alloc a1.out.size _;have k8:=a1.out.size;generalize(w1.alloc (.cells #[.slice none 0 0] 46))=WA at*;have i8:=lt_of_block gA;have GA:=hI gA;have G5:=hI g5;have GB:=hI gB;clear gA g5 gB c5;refine(callsIn_wide.2 (Mn A n c Aw nw cw As ns cs WA)).mono ?_;rintro e w2 ⟨bs,bl,bw,rfl,k1,k2,k3,i5,i3,j5,f0⟩;have K1:=hI k1;have K2:=hI k2;have K3:=hI k3;have b0:=hI f0;clear k1 k2 k3 f0;gi_wp2;refine Cv (gf:=180) (lb:= #[.pointer (some ⟨bs,0,none⟩), .pointer (some ⟨bl,0,none⟩), .pointer (some ⟨bw,0,none⟩)]) rfl (enters_of Tryz.func180 (by kernel_rfl) rfl) fun fn D l rc W1 hrc hD hl hK2 hD1 hl1 hs2=> ?_
 have j7:=hI hrc;clear hrc;have k6:w2.heap.size<=D:=by omega
 have j9:D<l:=by omega
 clear hs2 hD hl;have a4:=hI hK2;have i0:=hI hD1;have d9:=hI hl1;clear hK2 hD1 hl1;have m1:=b0.out.size;have q1:=(a4.out.block _ (lt_of_block K1.out) (by simp)).trans K1.out;have q2:=(a4.out.block _ (lt_of_block K2.out) (by simp)).trans K2.out;have q3:=(a4.out.block _ (lt_of_block K3.out) (by simp)).trans K3.out;have q4:=(a4.out.block w1.heap.size (by omega) (by simp)).trans ((b0.out.block _ i8).trans GA.out);have q5:=(a4.out.block b5 (by omega) (by simp)).trans ((b0.out.block b5 (by omega)).trans G5.out);have b9:=lt_of_block q1;have d2:=lt_of_block q2;have d4:=lt_of_block q3;have m2:=lt_of_block K1.out;have k4:=lt_of_block K2.out;have m0:=lt_of_block K3.out;have k0:=lt_of_block d9.out;have Q1:=hI q1;have Q2:=hI q2;have Q3:=hI q3;have Q4:=hI q4;have Q5:=hI q5;clear q1 q2 q3 q4 q5;have a5:Hid (Below w.heap.size w W1):=(GB.out.trans (b0.out.mono GB.out.size)).trans ((a4.out.to_below (B:=w.heap.size) (fun b hb=>hb.elim) (by have:=GB.out.size;omega)));obtain⟨E,hE⟩:∃E:Nat->Prop,E=fun b=>b=l:=⟨_,rfl⟩
 have g0:∀b,E b↔b=l:=fun b=>by rw[hE]
 clear hE;have HE:=hI g0;clear g0;obtain⟨J,hJ⟩:∃J:Nat->(Nat->Prop)->World->Prop,J=fun i T X=>∃vw ps,T=Gs w1.heap.size E vw ps/\ps.map Part.word=(Ca (Am xs) ws ss).take i/\ps.length=i/\(i:Int)<most/\E9 w1.heap.size E W1 vw ps X/\X.heap[l]? =some (.loop (rc .ready none)):=⟨_,rfl⟩
 have HJ:=hI hJ;clear hJ;obtain⟨Jx,f6⟩:∃Jx:(Nat->Prop)->World->Prop,Jx=fun T X=>∃vw ps,T=Gs w1.heap.size E vw ps/\ps.map Part.word=(Ca (Am xs) ws ss).take most.toNat/\(ps.length:Int)=most/\E9 w1.heap.size E W1 vw ps X/\X.heap[l]? =some (.loop (rc .done (some (.exit 0)))):=⟨_,rfl⟩
 have b7:=hI f6;clear f6;have j1:0<most:=by omega
 refine(Gn (9-1) l bs bl bw (by omega) A n c xs Aw nw cw ws As ns cs ss W1 J Jx (Gs w1.heap.size E (.slice none 0 0) []) W1.heap.size ?hu ?h0 (C4 a7.out).2.2 hnw).mono ?_
 case h0=>
  rw[HJ.out];exact⟨_,[],rfl,by simp,rfl,by simpa using j1,E9.start (by omega) (fun k hk=>by have:=(HE.out k).1 hk;omega) Q4.out,d9.out⟩
 case hu=>
  have d0:Hid (∀vw ps X,E9 w1.heap.size E W1 vw ps X->X.heap[b5]? =some (.cells #[.int .i64 most] 3 (0,0))/\X.heap[bs]? =some (.cells #[.slice As ns cs] 32 (0,0))/\X.heap[bl]? =some (.cells #[.slice A n c] 35 (0,0))/\X.heap[bw]? =some (.cells #[.slice Aw nw cw] 32 (0,0))∧
    Bw X A n c xs/\Ab X Aw nw cw ws/\Ab X As ns cs ss/\B7 X):=by
   intro vw ps X h;have hX:Below w.heap.size w X:=a5.out.trans (h.kp.to_below (B:=w.heap.size) (fun b hb=>hb.elim (fun hb=>by omega) (fun hb=>by have:=(HE.out b).1 hb;omega)) a5.out.size)
   have b3:∀b,b≠w1.heap.size->b<l→¬(b=w1.heap.size\/E b):=fun b h1 h2 h3=>by
    rcases h3 with h3|h3
    ·exact h1 h3
    ·have:=(HE.out b).1 h3;omega
   exact⟨(h.kp.block b5 (by omega) (b3 _ (by omega) (by omega))).trans Q5.out,(h.kp.block bs b9 (b3 _ (by omega) (by omega))).trans Q1.out,(h.kp.block bl d2 (b3 _ (by omega) (by omega))).trans Q2.out,(h.kp.block bw d4 (b3 _ (by omega) (by omega))).trans Q3.out,
    HX.out.below hX rr,HW.out.below hX rr,HS.out.below hX rr,HT.out.below hX rr⟩
  refine⟨?hB, ?hlt, ?hst, ?hsx, ?hrd, ?hnd, ?hnx, ?hy⟩
  case hB=>
   intro i T X hx;rw[HJ.out]at hx;obtain⟨vw,ps,rfl,h1,h2,h3,h4,h5⟩:=hx;exact h4.kp.size
  case hlt=>
   intro i T X hx;rw[HJ.out]at hx;obtain⟨vw,ps,rfl,h1,h2,h3,h4,h5⟩:=hx;exact h4.lts
  case hst=>
   intro i T X X' hx hk;rw[HJ.out]at hx ⊢;obtain⟨vw,ps,rfl,h1,h2,h3,h4,h5⟩:=hx;exact⟨vw,ps,rfl,h1,h2,h3,h4.keep hk,(hk.block l (lt_of_block h5) (fun e=>e.2 (.inr (.inl ((HE.out l).2 rfl))))).trans h5⟩
  case hsx=>
   intro T X X' hx hk;rw[b7.out]at hx ⊢;obtain⟨vw,ps,rfl,h1,h2,h4,h5⟩:=hx;exact⟨vw,ps,rfl,h1,h2,h4.keep hk,(hk.block l (lt_of_block h5) (fun e=>e.2 (.inr (.inl ((HE.out l).2 rfl))))).trans h5⟩
  case hrd=>
   intro i T X hx;rw[HJ.out]at hx;obtain⟨vw,ps,rfl,h1,h2,h3,h4,h5⟩:=hx;exact(d0.out _ _ _ h4).2
  case hnd=>
   intro i T X hx;rw[HJ.out]at hx;obtain⟨vw,ps,rfl,h1,h2,h3,h4,h5⟩:=hx
   exact h4.nds fun k hk x e=>by
    rw[(HE.out k).1 hk,h5]at e;cases e
  case hnx=>
   intro T X hx;rw[b7.out]at hx;obtain⟨vw,ps,rfl,h1,h2,h4,h5⟩:=hx
   exact h4.nds fun k hk x e=>by
    rw[(HE.out k).1 hk,h5]at e;cases e
  case hy=>
   intro i T X A' k' c' x b2 d3 f3 hx;rw[HJ.out]at hx;obtain⟨vw,ps,rfl,h1,h2,h3,h4,h5⟩:=hx;refine Cw j7.out h5 rfl ?_
   have j0:k'<=4096:=by
    have hm:=((Vk _ _ _ _).1 (List.mem_of_getElem? b2)).1.1
    have:=d3.len
    omega
   have b8:=Hn (ls:=Am xs) (w:=ws) (Bz (C4 a7.out).2.2).2.2 (Bz (C4 a7.out).2.2).1;have m3:i<20000:=by have:=(List.getElem?_eq_some_iff.1 b2).1;omega
   clear b8;have j3:=hI b2;have i9:=hI d3;have j2:=hI f3;have i4:=hI h1;have b1:=hI h2;have H3:=hI h3;have HC:=hI h4;have H5:=hI h5;clear b2 d3 f3 h1 h2 h3 h4 h5;gi_wp2;refine⟨H5.out, ?_⟩;have b4:Ae E X (X.putObj l (.loop (rc .busy none))):=(Ae.refl E X).putObj ((HE.out l).2 rfl) _;have b6:E9 w1.heap.size E W1 vw ps (X.putObj l (.loop (rc .busy none))):=HC.out.beside b4;have f5:Ab (X.putObj l (.loop (rc .busy none))) A' k' c' x:=i9.out.keep b4 fun _ ad a6 e=>(j2.out ad a6).2 (.inr (.inl e))
   have g9:(X.putObj l (.loop (rc .busy none))).heap[l]? =some (.loop (rc .busy none)):=World.putObj_heap_same (lt_of_block H5.out);have f4:(X.putObj l (.loop (rc .busy none))).heap.size=X.heap.size:=by simp
   generalize X.putObj l (.loop (rc .busy none))=V at*;obtain⟨r5, -⟩:=d0.out _ _ _ b6;have c7:=cell_of_one b6.c7;have a2:=hI b6;have i7:=hI f5;have i6:=hI b4;have f9:=hI g9;have f1:=hI f4;have R5:=hI r5;clear b6 f5 b4 g9 f4 r5;gi_wp2;refine Ep (fun W'=>W'.cell? ⟨w1.heap.size,0,none⟩=some vw) (by kernel_rfl) (by kernel_rfl) (fun _ _ h=>by exact h) c7 (fun hHeld=> ?_)
   (refine' Aa 0 rfl ?_;(try simp only[Act.put,nY,nX]));(refine' Aa 1 rfl ?_;(try simp only[Act.put,nY,nX]))
   (refine Agz 2 rfl (fun K' hK'=> ?_);simp only[nY];go_simp)
   refine(L4 A' k' c' x _ (i7.out.below (B:=V.heap.size) ((Below.refl V.heap.size V).drew) rr) j0).mono ?_;rintro e w3 ⟨A3,n3,c3,rfl,g4,g8,a9⟩;have a0:Below V.heap.size V w3:=(Below.refl V.heap.size V).drew.trans g8;have g7:=(a0.block _ (lt_of_block a2.out.c7)).trans a2.out.c7;refine hK' _ _ ⟨.inr (cell_of_one g7),fun _=> ?_⟩
   clear hK' K'
   (try simp only[Act.put,nY,nX])
   (refine Agz 3 rfl (fun K' hK'=> ?_);simp only[nY];go_simp)
   have z1:(w3.alloc (.cells #[.slice A3 n3 c3] 32)).heap[w3.heap.size]? =some (.cells #[.slice A3 n3 c3] 32 (0,0)):=Ak rfl;have g7':=(Ah (o:= .cells #[.slice A3 n3 c3] 32) (lt_of_block g7)).trans g7;have o7:=(Gt a2.out.o7 a0 rr).alloc (.cells #[.slice A3 n3 c3] 32);refine hK' _ _ ⟨.inr (cell_of_one g7'),fun _=> ?_⟩
   clear hK' K' c7 hHeld
   (try simp only[Act.put,nY,nX])
   have k7:W1.heap.size<=V.heap.size:=a2.out.kp.size;have m6:=a0.size;have j4:ps.length<20000:=by have:=b1.out;omega
   refine Agz 4 rfl (fun K' hK'=> ?_);rw[if_pos (by rfl)];refine Cf (.tmp 29) (.tmp 32) 46 rfl W1.heap.size 32 (.slice none 0 0) 1 24 Tryz.underlying46 F2 rfl (by decide) vw ps.length (ps.map Part.val) (by rfl) o7 ⟨w3.heap.size,0,none⟩ 1 1 [.slice A3 n3 c3] (by rfl) rfl (E8 z1) (by intro u hu;simp at hu;subst hu;rfl) (by unfold maxLen;omega) (by omega) (by simp;omega) ?_;intro vw' X2 a3 hg _ f2;obtain⟨A9,k9,rfl⟩:=B1 a3;have g3:some w1.heap.size≠vw.ownBlock:=fun e=>by have:=(a2.out.o7.lt w1.heap.size e.symm).1;omega
   have x7:=(hg.block w1.heap.size (lt_of_block g7') g3).trans g7';have c7:=cell_of_one x7;have f7:=free_of_one x7;have gl:=(a0.block _ (lt_of_block f9.out)).trans f9.out;have gl':=(Ah (o:= .cells #[.slice A3 n3 c3] 32) (lt_of_block gl)).trans gl;have a8:some l≠vw.ownBlock:=fun e=>by have:=(a2.out.o7.lt l e.symm).1;omega
   have xl:=(hg.block l (lt_of_block gl') a8).trans gl';have YL:=hI ((Below.heap_setCell X2 ⟨w1.heap.size,0,none⟩ (.slice A9 (ps.length+1) k9) l (by simp;omega)).trans xl);clear gl gl' a8 xl;refine hK' _ _ ⟨.inr c7,fun _=> ?_⟩
   clear hK' K';have g1:V.drew.heap.size=V.heap.size:=rfl;rw[g1]at a9;clear g1;obtain⟨p1,p2,p3⟩:=a2.out.push a0 g4 (fun ad a6=>⟨by have:=a9 ad a6;omega,fun h=>by have:=a2.out.lts _ h;have:=a9 ad a6;omega⟩) a3 hg f2;have P1:=hI p1;clear p1;have P2:=hI p2;clear p2
   have i1:∀b,Gs w1.heap.size E (.slice A9 (ps.length+1) k9) (ps++[(A3,n3,c3,x)]) b->Gs w1.heap.size E vw ps b\/X.heap.size<=b:=fun b hb=>by
    rcases p3 b hb with h|h|⟨_,ad,a6,h⟩
    ·exact .inl h
    ·exact .inr (by rw[←f1.out];exact h)
    ·exact .inr (by rw[←f1.out,←h];exact a9 ad a6)
   have P3:=hI i1;clear p3 i1;clear a3 hg f2 g7 g7' z1 o7 x7 g3 g4 a9 g8 a0
   (try simp only[Act.put,nY,nX])
   (refine Agz 5 rfl (fun K' hK'=> ?_);simp only[nY];go_simp)
   refine hK' _ _ ⟨.inl (by kernel_rfl),fun _=>Be (by kernel_rfl) ?_ _⟩
   clear hK' K' c7 f7;generalize X2.setCell ⟨w1.heap.size,0,none⟩ (.slice A9 (ps.length+1) k9)=Y at*;have y7:=cell_of_one P1.out.c7;have y5:=cell_of_one (d0.out _ _ _ P1.out).1;have f8:Hid (Ae (Gs w1.heap.size E vw ps) X Y):=(i6.out.mono fun b hb=> .inr (.inl hb)).trans P2.out
   have g6:Hid ((ps++[(A3,n3,c3,x)]).map Part.word=(Ca (Am xs) ws ss).take (i+1)):=by
    show _=_;rw[List.map_append,i4.out,Ba _ i x j3.out];rfl
   by_cases he:(ps.length:Int)+1=most
   ·have j6:((ps.length:Int)+1==most)=true:=by simpa using he
    gi_wp2;refine⟨YL.out,f8.out.putObj (.inr (.inl ((HE.out l).2 rfl))) _, .inr ⟨rfl,_, ?_,P3.out⟩⟩;rw[b7.out];have i2:most.toNat=i+1:=by have:=b1.out;omega
    exact⟨_,_,rfl,by rw[i2];exact g6.out,by rw[List.length_append];simp;omega,P1.out.beside ((Ae.refl E Y).putObj ((HE.out l).2 rfl) _),World.putObj_heap_same (lt_of_block YL.out)⟩
   ·have j6:((ps.length:Int)+1==most)=false:=by simpa using he
    gi_wp2;refine⟨YL.out,f8.out.putObj (.inr (.inl ((HE.out l).2 rfl))) _, .inl ⟨rfl,_, ?_,P3.out⟩⟩;rw[HJ.out];exact⟨_,_,rfl,g6.out,by rw[List.length_append,b1.out];rfl,by have:=b1.out;have:=H3.out;omega,P1.out.beside ((Ae.refl E Y).putObj ((HE.out l).2 rfl) _),World.putObj_heap_same (lt_of_block YL.out)⟩
 rintro e W' ⟨⟨v,rfl⟩,⟨T,hj⟩|⟨T,hx⟩⟩
 ·rw[HJ.out]at hj;obtain⟨vw,ps,rfl,h1,h2,h3,h4,h5⟩:=hj;refine .inl ⟨h5, ?_⟩;have xC:=h4.beside ((Ae.refl E W').putObj ((HE.out l).2 rfl) (.loop (rc .exhausted none)));generalize W'.putObj l (.loop (rc .exhausted none))=X at*;obtain⟨A9,k9,rfl⟩:=B1 xC.o7;have c7:=cell_of_one xC.c7;have XC:=hI xC
  have d6:Hid (ps.map Part.word=(Ca (Am xs) ws ss).take most.toNat):=by
   show _=_;rw[h1,List.take_of_length_le rr,List.take_of_length_le (by omega)]
  clear h1 h2 h4 h5 xC;gi_wp2;have hM:Cm w.heap.size X [D7 D]:=⟨D,rfl,by have:=a1.out.size;omega,(XC.out.kp.block D (by omega) (fun h=>h.elim (fun h=>by omega) (fun h=>by have:=(HE.out D).1 h;omega))).trans i0.out,by simp,trivial⟩;have hX:Below w.heap.size w X:=a5.out.trans (XC.out.kp.to_below (B:=w.heap.size) (fun b hb=>hb.elim (fun hb=>by omega) (fun hb=>by have:=(HE.out b).1 hb;omega)) a5.out.size);exact E6 (B:=w.heap.size) Tryz.results62 _ _ rfl rfl hM fun w' hw'=>⟨A9,ps.length,k9,by rw[HM.out];rfl,by rw[HM.out];exact⟨ps,d6.out,Bb.of_own (Hb XC.out.o7 hw') (by decide),fun p hp=>(XC.out.pp p hp).shut hw'⟩,hX.trans hw'.below⟩
 ·rw[b7.out]at hx;obtain⟨vw,ps,rfl,h1,h2,h4,h5⟩:=hx;refine .inr ⟨.exit 0,h5, ?_⟩;have xC:=h4.beside ((Ae.refl E W').putObj ((HE.out l).2 rfl) (.loop (rc .exhausted (some (.exit 0)))));generalize W'.putObj l (.loop (rc .exhausted (some (.exit 0))))=X at*;obtain⟨A9,k9,rfl⟩:=B1 xC.o7;have c7:=cell_of_one xC.c7;have XC:=hI xC
  have d6:Hid (ps.map Part.word=(Ca (Am xs) ws ss).take most.toNat):=by
   show _=_;exact h1
  clear h1 h2 h4 h5 xC;gi_wp2;have hM:Cm w.heap.size X [D7 D]:=⟨D,rfl,by have:=a1.out.size;omega,(XC.out.kp.block D (by omega) (fun h=>h.elim (fun h=>by omega) (fun h=>by have:=(HE.out D).1 h;omega))).trans i0.out,by simp,trivial⟩;have hX:Below w.heap.size w X:=a5.out.trans (XC.out.kp.to_below (B:=w.heap.size) (fun b hb=>hb.elim (fun hb=>by omega) (fun hb=>by have:=(HE.out b).1 hb;omega)) a5.out.size);exact E6 (B:=w.heap.size) Tryz.results62 _ _ rfl rfl hM fun w' hw'=>⟨A9,ps.length,k9,by rw[HM.out];rfl,by rw[HM.out];exact⟨ps,d6.out,Bb.of_own (Hb XC.out.o7 hw') (by decide),fun p hp=>(XC.out.pp p hp).shut hw'⟩,hX.trans hw'.below⟩
end Go.Proofs.YtlgliddhideflaaGreatDoor
namespace Go.Proofs.YtlgliddhideflaaGreatDoor
open Go.RowKit Go.Shelf
theorem Zq (x:Bu)(Aw:Option Addr)(nw cw:Nat)(ws:List Snd)(As:Option Addr)(ns cs:Nat)(ss:List Snd)(most:Int)(w:World)(hx:Df w x.l x.a)(hw:Ab w Aw nw cw ws)(hs:Ab w As ns cs ss)(hT:B7 w)(hnw:nw<=4096):
  Calls Tryz.prog 43 #[C3 x.l x.a, .slice Aw nw cw, .slice As ns cs, .int .i64 most] w (Rt w (Eo [x.l] ws ss most)):=by
 have HX:=hI hx;have HW:=hI hw;have HS:=hI hs;have HT:=hI hT;clear hx hw hs hT;obtain⟨Wb,a8,a2,a7,a0,a9⟩:=Er w x.l x.a;have HL:=hI (HX.out.below a0 rr);go_enter Tryz.func43,Tryz.ntmps43;go_wp2_with(first|(refine Dn rfl (.tmp 4) rfl w.heap.size x.l x.a rfl a2 ?_)|(refine Aak rfl (.tmp 10) rfl x rfl HL.out ?hk))
 case hk=>
  intro X a1 hb a4 _;clear a4;have hB:Below w.heap.size w X:=a0.trans (hb.mono a0.size);have HB:=hI hB;have a5:=hI a1;clear a1 hb hB;go_wp2_with fail;refine(Qo _ 1 1 [x] Aw nw cw ws As ns cs ss most X a5.out (HW.out.below HB.out rr) (HS.out.below HB.out rr) (HT.out.below HB.out rr) hnw).mono ?_;rintro e X2 ⟨A9,n9,c9,rfl,a3,a6⟩;go_wp2;exact bodyPost_ret (v:= .tuple #[.slice A9 n9 c9, .int .i64 (Eo [x.l] ws ss most).1]) (results_tmp2 Tryz.results43 _ _ _) rfl ⟨A9,n9,c9,rfl,a3,HB.out.trans (a6.mono HB.out.size)⟩
end Go.Proofs.YtlgliddhideflaaGreatDoor
