/-
  ablautref01.Order; ablautref11.sorted.
  Rows of words: many words more.
  ablautref02.Copy: a row of one's own.
  ablautref11.Words: the words of an alphabet with so many sounds.
  ablautref11: Searched, before.
-/
import Derived.Test.YtlgliddhideflaaGreatDoorG30
import Derived.Test.YtlgliddhideflaaGreatDoorH02
import Derived.Test.YtlgliddhideflaaGreatDoorG33
set_option linter.all false
set_option maxRecDepth 100000
set_option maxHeartbeats 4000000
namespace Go.Proofs.YtlgliddhideflaaGreatDoor
open Go.RowKit Go.Shelf
def Mf (a b:Snd):Int:=if Cw a b=true then-1 else if a=b then 0 else 1
theorem Alu (a b:Snd):decide (Mf a b<0)=Cw a b:=by
 unfold Mf;by_cases h:Cw a b=true
 ·rw[if_pos h,h];rfl
 ·rw[if_neg h,Bool.eq_false_iff.2 h];split<;>rfl
theorem Agg (p m p' m':Int)(w:World):Calls Tryz.prog 204 #[C6 p m,C6 p' m'] w fun e w'=>e= .returned (.int .i64 (Mf (p,m) (p',m')))/\Below w.heap.size w w':=by
 by_cases h1:p<p'
 ·have HR:Hid (Mf (p,m) (p',m')= -1):=by show Mf _ _=_;unfold Mf Cw;simp[h1]
  go_enter Tryz.func204,Tryz.ntmps204;go_wp2;go_ret;exact⟨by rw[HR.out];rfl,bel⟩
 ·by_cases h2:p=p'
  ·subst h2;have h2:(p==p)=true:=by simp
   by_cases h3:m<m'
   ·have HR:Hid (Mf (p,m) (p,m')= -1):=by show Mf _ _=_;unfold Mf Cw;simp[h3]
    go_enter Tryz.func204,Tryz.ntmps204;go_wp2;go_ret;exact⟨by rw[HR.out];rfl,bel⟩
   ·by_cases h4:m=m'
    ·subst h4;have HR:Hid (Mf (p,m) (p,m)=0):=by show Mf _ _=_;unfold Mf Cw;simp
     have h5:(p==p && m==m)=true:=by simp
     go_enter Tryz.func204,Tryz.ntmps204;go_wp2;go_ret;exact⟨by rw[HR.out];rfl,bel⟩
    ·have HR:Hid (Mf (p,m) (p,m')=1):=by show Mf _ _=_;unfold Mf Cw;simp[h3,h4]
     have h5:(p==p && m==m')=false:=by simp[h4]
     go_enter Tryz.func204,Tryz.ntmps204;go_wp2;go_ret;exact⟨by rw[HR.out];rfl,bel⟩
  ·have HR:Hid (Mf (p,m) (p',m')=1):=by show Mf _ _=_;unfold Mf Cw;simp[h1,h2]
   have h3:(p==p')=false:=by simpa using h2
   have h5:(p==p' && m==m')=false:=by simp[h2]
   clear h2;go_enter Tryz.func204,Tryz.ntmps204;go_wp2;go_ret;exact⟨by rw[HR.out];rfl,bel⟩
theorem Abt (A:Option Addr)(n c:Nat)(ss:List Snd)(w:World)(hx:Ad w A n c ss)(hd:ss.Nodup)(hn:n<=5):
  Calls Tryz.prog 167 #[.slice A n c] w (Er w (Ba ss)):=by
 have HL:Hid (ss.length=n):=hx.len;have HX:=hI hx;clear hx;have HD:=hI hd;clear hd;go_enter Tryz.func167,Tryz.ntmps167;go_wp2
 go_loopw [3,4] (fun v i wr=>∃(k:Nat) (A1:Option Addr) (c1:Nat),i= .int .i64 k/\v= .slice A1 k c1/\k<=n/\Hid (Ad wr A1 k c1 (Ba (ss.take k)))/\Hid (∀ad,A1=some ad->w.heap.size<=ad.block)/\Below w.heap.size w wr) (fun _ i _=>n-(intOf i).toNat)
 case atStart=>exact⟨0,none,0,rfl,rfl,Nat.zero_le _,Bd.nil _ _,fun ad h=>(by cases h),Below.refl _ _⟩
 case round=>
  obtain⟨k,A1,c1,rfl,rfl,hk,g3,j4,hB⟩:=hrel;have i7:=hB.size;have j5:=g3.out.2.1;have j1:=g3.out.2.2.1;unfold maxLen at j1;by_cases hlt:k<n
  ·obtain⟨b,off,p,m,rfl,hb,i8,j3,j2⟩:=(HX.out.below hB rr).at_ hlt;have i9:(k:Int)<(n:Int):=by omega
   have HK:=hI i8;clear i8 j3 j2;obtain⟨wo,i1⟩:∃wo:World,wo=wr:=⟨_,rfl⟩;rw[←i1]at hB i7 g3;have HB:=hI hB;clear hB;go_wp2
   go_loopw [5] (fun j wr=>∃i:Nat,j= .int .i64 i/\i<=k/\Hid (∀y∈(Ba (ss.take k)).take i,Cw y (p,m)=true)/\Below wo.heap.size wo wr) (fun j _=>k-(intOf j).toNat)
   case atStart=>exact⟨0,rfl,Nat.zero_le _,fun y hy=>by simp at hy,by rw[i1];exact Below.refl _ _⟩
   case round=>
    clear i1;obtain⟨i,rfl,hi,g4,d6⟩:=hrel;have g1:=HB.out.trans (d6.mono i7);have f2:=g1.size;have d7:=hI (g3.out.below d6 rr);have j7:(i:Int)<=(c1:Int):=by omega
    have d0:Hid ((∀y,(Ba (ss.take k))[i]? =some y->Cw y (p,m)=false)→∀wx:World,Below wo.heap.size wo wx->Ba (ss.take (k+1))=(Ba (ss.take k)).take i++(p,m)::(Ba (ss.take k)).drop i):=
     fun h2 wx _=>Ag2 HD.out HK.out g4.out h2 (by rw[d7.out.len];exact hi)
    by_cases hik:i<k
    ·obtain⟨b0,off0,p0,m0,e0,i5,d9,f9,f5⟩:=(HX.out.below g1 rr).at_ hlt;cases e0;have e3:(p0,m0)=(p,m):=Option.some.inj (d9.symm.trans HK.out);cases e3;obtain⟨b1,off1,p1,m1,rfl,i4,i6,f4,f3⟩:=d7.out.at_ hik;have j6:(i:Int)<(k:Int):=by omega
     have i3:=hI i6;clear i6 d9;go_wp2;refine Bj (fun X=>X.cell? ⟨b1,off1+i*2,none⟩=some (.int .u32 p1)/\X.cell? ⟨b1,off1+i*2+1,none⟩=some (.int .u32 m1)/\X.cell? ⟨b,off+k*2,none⟩=some (.int .u32 p)/\X.cell? ⟨b,off+k*2+1,none⟩=some (.int .u32 m)) (by kernel_rfl) ⟨f4,f3,f9,f5⟩ (fun hHeld=> ?_)
     (refine' Aa 0 rfl ?_;(try simp only[Act.put,nY,nX]));(refine' Aa 1 rfl ?_;(try simp only[Act.put,nY,nX]));(refine' Aa 2 rfl ?_;(try simp only[Act.put,nY,nX]));(refine' Aa 3 rfl ?_;(try simp only[Act.put,nY,nX]));(refine' Aa 4 rfl ?_;(try simp only[Act.put,nY,nX]));(refine' Aa 5 rfl ?_;(try simp only[Act.put,nY,nX]));(refine' Aa 6 rfl ?_;(try simp only[Act.put,nY,nX]));(refine' Aa 7 rfl ?_;(try simp only[Act.put,nY,nX]));(refine' Aa 8 rfl ?_;(try simp only[Act.put,nY,nX]));(refine' Aa 9 rfl ?_;(try simp only[Act.put,nY,nX]));(refine' Aa 10 rfl ?_;(try simp only[Act.put,nY,nX]));(refine' Aa 11 rfl ?_;(try simp only[Act.put,nY,nX]));(refine' Aa 12 rfl ?_;(try simp only[Act.put,nY,nX]))
     clear f4 f3 f9 f5
     (refine Aqq 13 rfl (fun K' hK'=> ?_);simp only[nY];go_simp)
     refine(Agg p1 m1 p m _).mono ?_;obtain⟨v,hv⟩:∃v,v=Mf (p1,m1) (p,m):=⟨_,rfl⟩;have HV:Hid (decide (v<0)=Cw (p1,m1) (p,m)):=by show _=_;rw[hv];exact Alu _ _
     rw[←hv];clear hv;rintro e w5 ⟨rfl,i2⟩;have d3:Below wr.heap.size wr w5:=(Below.refl wr.heap.size wr).drew.trans i2;obtain⟨q1,q2,q3,q4⟩:=hHeld;have g8:=And.intro ((d3.cell (p:=⟨b1,off1+i*2,none⟩) i4).trans q1) (And.intro ((d3.cell (p:=⟨b1,off1+i*2+1,none⟩) i4).trans q2) (And.intro ((d3.cell (p:=⟨b,off+k*2,none⟩) i5).trans q3) ((d3.cell (p:=⟨b,off+k*2+1,none⟩) i5).trans q4)));refine hK' _ _ ⟨.inr g8,fun _=> ?_⟩
     clear hK' K' i2 q1 q2 q3 q4
     (try simp only[Act.put,nY,nX])
     (refine Aqq 14 rfl (fun K' hK'=> ?_);simp only[nY];go_simp)
     refine hK' _ _ ⟨.inr g8,fun _=> ?_⟩
     clear hK' K'
     (try simp only[Act.put,nY,nX])
     (refine Aqq 15 rfl (fun K' hK'=> ?_);simp only[nY];go_simp)
     refine hK' _ _ ⟨.inl (by kernel_rfl),fun _=>Be (by kernel_rfl) ?_ _⟩
     clear hK' K' g8;have a9:Below w.heap.size w w5:=g1.trans (d3.mono f2);have f8:Below wo.heap.size wo w5:=d6.trans (d3.mono d6.size);have g5:=hI (d7.out.below d3 rr);obtain⟨d,hd⟩:∃d,d=decide (v<0):=⟨_,rfl⟩
     (try rw[←hd])
     cases d with
     |true=>
      have g9:Hid (∀y∈(Ba (ss.take k)).take (i+1),Cw y (p,m)=true):=fun y hy=>by
       rw[Bb _ i _ i3.out]at hy;rcases List.mem_append.1 hy with hy|hy
       ·exact g4.out y hy
       ·obtain rfl:y=(p1,m1):=by simpa using hy
        rw[←HV.out,←hd]
      clear hd;go_wp2
      go_roundw
      case rel=>exact⟨i+1,by go_num,by omega,g9,f8⟩
      case measure=>simp[intOf];omega
     |false=>
      have f0:Hid (Ba (ss.take (k+1))=(Ba (ss.take k)).take i++(p,m)::(Ba (ss.take k)).drop i):=by
       refine d0.out (fun y hy=> ?_) w5 f8;rw[i3.out]at hy;injection hy with hy
       rw[←hy,←HV.out,←hd]
      clear hd d0;have f7:Hid (Ad w5 (some ⟨b1,off1,none⟩) i c1 ((Ba (ss.take k)).take i)):=g5.out.take hi;have d5:=g5;have b2:World.ownsRow w5 (World.heap w5).size 24 2 (.slice none 0 0) 0 (Bl []):=World.ownsRow_nil _ _ _ _;have a2:=hI b2;clear b2;go_wp2_with(at_builtin;refine Cs rfl (.tmp 31) (.tmp 34) rfl (World.heap w5).size (.slice none 0 0) 0 [] rfl a2.out _ i c1 ((Ba (ss.take k)).take i) rfl f7.out (by omega) rr ?h6)
      case h6=>
       intro v6 w6 a7 d8 _;obtain⟨A6,c6,rfl⟩:=Bh a7;have b8:=hI ((Below.refl (World.heap w5).size w5).grown d8 rr (fun q hq=>(a2.out.lt q hq).1));have a4:=hI a7;clear d8 a7 f7 a2;have d2:=b8.out.size;obtain⟨b9,off9,p9,m9,e9,g6,g2,g7,i0⟩:=(HX.out.below (a9.trans (b8.out.mono (Below.size a9))) rr).at_ hlt;cases e9;have e8:(p9,m9)=(p,m):=Option.some.inj (g2.symm.trans HK.out);cases e8;clear g2;go_wp2_with(at_builtin;refine Cs rfl (.tmp 36) (.tmp 41) rfl _ _ _ _ rfl (a4.out.alloc _) (some ⟨w6.heap.size,0,none⟩) 1 1 [(p,m)] rfl (E3 w6 p m 24) (by omega) (by first|(simp;omega)|(simp at d2 ⊢;omega)) ?h8)
       case h8=>
        intro v8 w8 a5 f6 _;obtain⟨A8,c8,rfl⟩:=Bh a5;have b4:=hI ((b8.out.alloc b8.out.size (.cells #[.int .u32 p, .int .u32 m] 24)).grown f6 (by first|(simp;omega)|(simp at d2 ⊢;omega)) (fun q hq=>(a4.out.lt q hq).1));have a1:=hI a5;clear f6 a5 b8 a4 d2 g6 g7 i0;have g0:=b4.out.size;have a8:=hI (Ad.below (d5.out) b4.out rr);by_cases hci:c1=i
        ·have d4:i=k:=by omega
         have d1:Hid (Ad w8 (some ⟨b1,off1,none⟩) (k-i) (c1-i) ((Ba (ss.take k)).drop i)):=by
          have h:=a8.out.drop (k:=i) (by omega);rwa[if_pos hci]at h
         (try subst d4)
         subst hci;rw[Nat.sub_self]at d1;go_wp2_with(at_builtin;go_loud (refine Cs rfl (.tmp 43) (.tmp 46) rfl _ _ _ _ rfl a1.out (some ⟨b1,off1,none⟩) 0 0 _ rfl d1.out (by omega) (by omega) ?h10))
         case h10=>
          intro v10 w10 a0 a6 _;obtain⟨A10,c10,rfl⟩:=Bh a0;have a3:=hI (b4.out.grown a6 b4.out.size (fun q hq=>(a1.out.lt q hq).1))
          have b7:Hid (Ad w10 A10 (c1+1) c10 (Ba (ss.take (c1+1)))):=by
           have h:=Bd.of_own a0 (by decide);rw[f0.out]
           first|exact h|(rw[show c1+1+(c1-c1)=c1+1 from by omega]at h;exact h)
          have b6:Hid (∀ad,A10=some ad->w.heap.size<=ad.block):=fun ad had=>by
           subst had;have h1:=(a0.lt ad.block rfl).1;have h2:=Below.size a9
           first|omega|(simp at h1 h2;omega)
          have b5:Below w.heap.size w w10:=Below.trans a9 (a3.out.mono (Below.size a9));clear a6 a0 a8 a1 b4 g0 a3;go_wp2
          go_roundw
          case rel=>exact⟨c1+1,A10,c10,by go_num,by first|rfl|rw[show c1+1+(c1-c1)=c1+1 from by omega],by omega,b7,b6,b5⟩
          case measure=>simp[intOf]<;>omega
        ·have d1:Hid (Ad w8 (some ⟨b1,off1+i*2,none⟩) (k-i) (c1-i) ((Ba (ss.take k)).drop i)):=by
          have h:=a8.out.drop (k:=i) (by omega);rw[if_neg hci]at h
          first|exact h|(rw[Nat.sub_self]at h;exact h)|(show Ad _ _ _ _ _;simpa[Gm]using h)
         go_wp2_with(at_builtin;go_loud (refine Cs rfl (.tmp 43) (.tmp 46) rfl _ _ _ _ rfl a1.out _ (k-i) (c1-i) _ rfl d1.out (by omega) (by omega) ?h10))
         case h10=>
          intro v10 w10 a0 a6 _;obtain⟨A10,c10,rfl⟩:=Bh a0;have a3:=hI (b4.out.grown a6 b4.out.size (fun q hq=>(a1.out.lt q hq).1))
          have b7:Hid (Ad w10 A10 (k+1) c10 (Ba (ss.take (k+1)))):=by
           have h:=Bd.of_own a0 (by decide);rw[f0.out]
           first|exact h|(rw[show i+1+(k-i)=k+1 from by omega]at h;exact h)
          have b6:Hid (∀ad,A10=some ad->w.heap.size<=ad.block):=fun ad had=>by
           subst had;have h1:=(a0.lt ad.block rfl).1;have h2:=Below.size a9
           first|omega|(simp at h1 h2;omega)
          have b5:Below w.heap.size w w10:=Below.trans a9 (a3.out.mono (Below.size a9));clear a6 a0 a8 a1 b4 g0 a3;go_wp2
          go_roundw
          case rel=>exact⟨k+1,A10,c10,by go_num,by first|rfl|rw[show i+1+(k-i)=k+1 from by omega],by omega,b7,b6,b5⟩
          case measure=>simp[intOf]<;>omega
    ·obtain rfl:i=k:=by omega
     have f0:Hid (Ba (ss.take (i+1))=(Ba (ss.take i)).take i++(p,m)::(Ba (ss.take i)).drop i):=by
      refine d0.out (fun y hy=> ?_) wr d6;rw[List.getElem?_eq_none (by rw[d7.out.len];exact rr)]at hy;cases hy
     clear d0;go_wp2;refine Bj (fun _=>True) (by kernel_rfl) trivial (fun hS=> ?_)
     (refine' Aa 0 rfl ?_;(try simp only[Act.put,nY,nX]));(refine' Aa 1 rfl ?_;(try simp only[Act.put,nY,nX]));(refine' Aa 2 rfl ?_;(try simp only[Act.put,nY,nX]));(refine' Aa 3 rfl ?_;(try simp only[Act.put,nY,nX]));(refine' Aa 4 rfl ?_;(try simp only[Act.put,nY,nX]))
     refine' Ct (i:=5) (v:=undef) rfl (by as_aux_lemma=>kernel_rfl) (by as_aux_lemma=>kernel_rfl) (by as_aux_lemma=>kernel_rfl) (by as_aux_lemma=>kernel_rfl) (fun _ _ _ h=>h) (Or.inr ⟨by as_aux_lemma=>kernel_rfl,rfl⟩) hS ?_
     (try simp only[Act.put,nY,nX])
     refine' Ct (i:=6) (v:=undef) rfl (by as_aux_lemma=>kernel_rfl) (by as_aux_lemma=>kernel_rfl) (by as_aux_lemma=>kernel_rfl) (by as_aux_lemma=>kernel_rfl) (fun _ _ _ h=>h) (Or.inr ⟨by as_aux_lemma=>kernel_rfl,rfl⟩) hS ?_
     (try simp only[Act.put,nY,nX])
     refine' Ct (i:=7) (v:=undef) rfl (by as_aux_lemma=>kernel_rfl) (by as_aux_lemma=>kernel_rfl) (by as_aux_lemma=>kernel_rfl) (by as_aux_lemma=>kernel_rfl) (fun _ _ _ h=>h) (Or.inr ⟨by as_aux_lemma=>kernel_rfl,rfl⟩) hS ?_
     (try simp only[Act.put,nY,nX])
     refine' Ct (i:=8) (v:=undef) rfl (by as_aux_lemma=>kernel_rfl) (by as_aux_lemma=>kernel_rfl) (by as_aux_lemma=>kernel_rfl) (by as_aux_lemma=>kernel_rfl) (fun _ _ _ h=>h) (Or.inr ⟨by as_aux_lemma=>kernel_rfl,rfl⟩) hS ?_
     (try simp only[Act.put,nY,nX])
     refine' Ct (i:=9) (v:=undef) rfl (by as_aux_lemma=>kernel_rfl) (by as_aux_lemma=>kernel_rfl) (by as_aux_lemma=>kernel_rfl) (by as_aux_lemma=>kernel_rfl) (fun _ _ _ h=>h) (Or.inr ⟨by as_aux_lemma=>kernel_rfl,rfl⟩) hS ?_
     (try simp only[Act.put,nY,nX])
     refine' Ct (i:=10) (v:=undef) rfl (by as_aux_lemma=>kernel_rfl) (by as_aux_lemma=>kernel_rfl) (by as_aux_lemma=>kernel_rfl) (by as_aux_lemma=>kernel_rfl) (fun _ _ _ h=>h) (Or.inr ⟨by as_aux_lemma=>kernel_rfl,rfl⟩) hS ?_
     (try simp only[Act.put,nY,nX])
     refine' Ct (i:=11) (v:=undef) rfl (by as_aux_lemma=>kernel_rfl) (by as_aux_lemma=>kernel_rfl) (by as_aux_lemma=>kernel_rfl) (by as_aux_lemma=>kernel_rfl) (fun _ _ _ h=>h) (Or.inr ⟨by as_aux_lemma=>kernel_rfl,rfl⟩) hS ?_
     (try simp only[Act.put,nY,nX])
     refine' Ct (i:=12) (v:=undef) rfl (by as_aux_lemma=>kernel_rfl) (by as_aux_lemma=>kernel_rfl) (by as_aux_lemma=>kernel_rfl) (by as_aux_lemma=>kernel_rfl) (fun _ _ _ h=>h) (Or.inr ⟨by as_aux_lemma=>kernel_rfl,rfl⟩) hS ?_
     (try simp only[Act.put,nY,nX])
     refine' Ct (i:=13) (v:=undef) rfl (by as_aux_lemma=>kernel_rfl) (by as_aux_lemma=>kernel_rfl) (by as_aux_lemma=>kernel_rfl) (by as_aux_lemma=>kernel_rfl) (fun _ _ _ h=>h) (Or.inr ⟨by as_aux_lemma=>kernel_rfl,rfl⟩) hS ?_
     (try simp only[Act.put,nY,nX])
     refine' Ct (i:=14) (v:=undef) rfl (by as_aux_lemma=>kernel_rfl) (by as_aux_lemma=>kernel_rfl) (by as_aux_lemma=>kernel_rfl) (by as_aux_lemma=>kernel_rfl) (fun _ _ _ h=>h) (Or.inr ⟨by as_aux_lemma=>kernel_rfl,rfl⟩) hS ?_
     (try simp only[Act.put,nY,nX])
     (refine Aqq 15 rfl (fun K' hK'=> ?_);simp only[nY];go_simp)
     refine hK' _ _ ⟨.inl (by kernel_rfl),fun _=>Be (by kernel_rfl) ?_ _⟩
     clear hK' K' hS;have b3:=g1.drew;have f1:=hI (d7.out.below (Below.refl wr.heap.size wr).drew rr);clear g1 d6 d7 f2;generalize wr.drew=wd at*;have f7:Hid (Ad wd A1 i c1 ((Ba (ss.take i)).take i)):=f1.out.take hi;have d5:=f1;have b2:World.ownsRow wd (World.heap wd).size 24 2 (.slice none 0 0) 0 (Bl []):=World.ownsRow_nil _ _ _ _;have a2:=hI b2;clear b2;go_wp2_with(at_builtin;refine Cs rfl (.tmp 31) (.tmp 34) rfl (World.heap wd).size (.slice none 0 0) 0 [] rfl a2.out _ i c1 ((Ba (ss.take i)).take i) rfl f7.out (by omega) rr ?h6)
     case h6=>
      intro v6 w6 a7 d8 _;obtain⟨A6,c6,rfl⟩:=Bh a7;have b8:=hI ((Below.refl (World.heap wd).size wd).grown d8 rr (fun q hq=>(a2.out.lt q hq).1));have a4:=hI a7;clear d8 a7 f7 a2;have d2:=b8.out.size;obtain⟨b9,off9,p9,m9,e9,g6,g2,g7,i0⟩:=(HX.out.below (b3.trans (b8.out.mono (Below.size b3))) rr).at_ hlt;cases e9;have e8:(p9,m9)=(p,m):=Option.some.inj (g2.symm.trans HK.out);cases e8;clear g2;go_wp2_with(at_builtin;refine Cs rfl (.tmp 36) (.tmp 41) rfl _ _ _ _ rfl (a4.out.alloc _) (some ⟨w6.heap.size,0,none⟩) 1 1 [(p,m)] rfl (E3 w6 p m 24) (by omega) (by first|(simp;omega)|(simp at d2 ⊢;omega)) ?h8)
      case h8=>
       intro v8 w8 a5 f6 _;obtain⟨A8,c8,rfl⟩:=Bh a5;have b4:=hI ((b8.out.alloc b8.out.size (.cells #[.int .u32 p, .int .u32 m] 24)).grown f6 (by first|(simp;omega)|(simp at d2 ⊢;omega)) (fun q hq=>(a4.out.lt q hq).1));have a1:=hI a5;clear f6 a5 b8 a4 d2 g6 g7 i0;have g0:=b4.out.size;have a8:=hI (Ad.below (d5.out) b4.out rr);by_cases hci:c1=i
       ·have d4:i=i:=by omega
        have d1:Hid (Ad w8 A1 (i-i) (c1-i) ((Ba (ss.take i)).drop i)):=by
         have h:=a8.out.drop (k:=i) (by omega);rwa[if_pos hci]at h
        (try subst d4)
        subst hci;rw[Nat.sub_self]at d1;go_wp2_with(at_builtin;go_loud (refine Cs rfl (.tmp 43) (.tmp 46) rfl _ _ _ _ rfl a1.out A1 0 0 _ rfl d1.out (by omega) (by omega) ?h10))
        case h10=>
         intro v10 w10 a0 a6 _;obtain⟨A10,c10,rfl⟩:=Bh a0;have a3:=hI (b4.out.grown a6 b4.out.size (fun q hq=>(a1.out.lt q hq).1))
         have b7:Hid (Ad w10 A10 (c1+1) c10 (Ba (ss.take (c1+1)))):=by
          have h:=Bd.of_own a0 (by decide);rw[f0.out]
          first|exact h|(rw[show c1+1+(c1-c1)=c1+1 from by omega]at h;exact h)
         have b6:Hid (∀ad,A10=some ad->w.heap.size<=ad.block):=fun ad had=>by
          subst had;have h1:=(a0.lt ad.block rfl).1;have h2:=Below.size b3
          first|omega|(simp at h1 h2;omega)
         have b5:Below w.heap.size w w10:=Below.trans b3 (a3.out.mono (Below.size b3));clear a6 a0 a8 a1 b4 g0 a3;go_wp2
         go_roundw
         case rel=>exact⟨c1+1,A10,c10,by go_num,by first|rfl|rw[show c1+1+(c1-c1)=c1+1 from by omega],by omega,b7,b6,b5⟩
         case measure=>simp[intOf]<;>omega
       ·have d1:Hid (Ad w8 (Option.map (fun x:Addr=>x.add (i*2)) A1) 0 (c1-i) ((Ba (ss.take i)).drop i)):=by
         have h:=a8.out.drop (k:=i) (by omega);rw[if_neg hci]at h
         first|exact h|(rw[Nat.sub_self]at h;exact h)|(show Ad _ _ _ _ _;simpa[Gm]using h)
        go_wp2_with(at_builtin;go_loud (refine Cs rfl (.tmp 43) (.tmp 46) rfl _ _ _ _ rfl a1.out _ 0 (c1-i) _ rfl d1.out (by omega) (by omega) ?h10))
        case h10=>
         intro v10 w10 a0 a6 _;obtain⟨A10,c10,rfl⟩:=Bh a0;have a3:=hI (b4.out.grown a6 b4.out.size (fun q hq=>(a1.out.lt q hq).1))
         have b7:Hid (Ad w10 A10 (i+1) c10 (Ba (ss.take (i+1)))):=by
          have h:=Bd.of_own a0 (by decide);rw[f0.out]
          first|exact h|(rw[show i+1+(i-i)=i+1 from by omega]at h;exact h)
         have b6:Hid (∀ad,A10=some ad->w.heap.size<=ad.block):=fun ad had=>by
          subst had;have h1:=(a0.lt ad.block rfl).1;have h2:=Below.size b3
          first|omega|(simp at h1 h2;omega)
         have b5:Below w.heap.size w w10:=Below.trans b3 (a3.out.mono (Below.size b3));clear a6 a0 a8 a1 b4 g0 a3;go_wp2
         go_roundw
         case rel=>exact⟨i+1,A10,c10,by go_num,by first|rfl|rw[show i+1+(i-i)=i+1 from by omega],by omega,b7,b6,b5⟩
         case measure=>simp[intOf]<;>omega
  ·obtain rfl:k=n:=by omega
   have HW:=g3.out;rw[List.take_of_length_le (by rw[HL.out];exact rr)]at HW;have j0:=hI HW;clear HW;go_wp2;go_ret;exact⟨A1,k,c1,rfl,j0.out,hB,j4.out⟩
theorem Ji {o:Oper}{a:Act}{K:Act->World->Prop}{Q:Exit->Act->World->Prop}(w:World)(s x:Operand)
  (ho:o.op= .call {callee:= .builtin .append,args:= #[s,x],argTypes:= #[46,46]})
  (base:Nat) (v:Value) (n:Nat) (xs:List Value) (hs:a.eval s=v) (hown:w.ownsRow base 32 1 v n xs)
  (A:Option Addr) (m c:Nat) (ys:List Part) (hx:a.eval x= .slice A m c) (hr:Bd w A m c 1 (ys.map Part.val)) (hl:n+m<=100000) (hbase:base<=w.heap.size)
  (h:∀v' w',w'.ownsRow base 32 1 v' (n+m) (xs++ys.map Part.val)->w.grownBy w' v.ownBlock->(v'.ownBlock=v.ownBlock\/v'.ownBlock=some w.heap.size)→
   K (a.put o.dst v') w'):o.wp Tryz.prog a w K Q:=by
 obtain⟨i0,hi,a3,a2,a1⟩:=info_parts Hw
 obtain⟨v',w',a0,h2,h3,h4⟩:=Jk (P:=Tryz.prog) w base 46 o.type 32 i0 _ 1 24 Tryz.underlying46 hi a3 a2 a1 rfl (by decide) v n xs hown A m c (ys.map Part.val) hr
  (by intro u hu;obtain⟨p,_,rfl⟩:=List.mem_map.1 hu;rfl) (by unfold maxLen;omega) (by omega) hbase
 unfold Oper.wp execOp;simp only[ho,resolve,invoke,builtin,Sem.run_bind,Sem.run_pure,Result.andThen_ok,List.map_toArray,List.map_cons,List.map_nil,hs,hx,a0];exact h v' w' h2 h3 h4
theorem D9 {ops:Array Oper}{rest:List Oper}{o:Oper}{a:Act}{w:World}{Q:Exit->Act->World->Prop}(hgd:o.guard=none)(s x:Operand)
  (ho:o.op= .call {callee:= .builtin .append,args:= #[s,x],argTypes:= #[46,46]})
  (base:Nat) (v:Value) (n:Nat) (xs:List Value) (hs:a.eval s=v) (hown:w.ownsRow base 32 1 v n xs)
  (A:Option Addr) (m c:Nat) (ys:List Part) (hx:a.eval x= .slice A m c) (hr:Bd w A m c 1 (ys.map Part.val)) (hl:n+m<=100000) (hbase:base<=w.heap.size)
  (h:∀v' w',w'.ownsRow base 32 1 v' (n+m) (xs++ys.map Part.val)->w.grownBy w' v.ownBlock->(v'.ownBlock=v.ownBlock\/v'.ownBlock=some w.heap.size)→
   wpList Tryz.prog ops Q rest (a.put o.dst v') w'):wpList Tryz.prog ops Q (o::rest) a w:=
 wpList_plain hgd fun _ hK=>Ji w s x ho base v n xs hs hown A m c ys hx hr hl hbase fun v' w' h1 h2 h3=>hK _ _ (h v' w' h1 h2 h3)
theorem Jd {w:World}{b:Nat}{p:Part}{t:TypeId}(h:w.heap[b]? =some (.cells #[p.val] t (0,0))):Bd w (some ⟨b,0,none⟩) 1 1 1 ([p].map Part.val):=
 ⟨rfl,rr,by decide,(fun h=>by cases h),fun _=>⟨b,0,rfl,lt_of_block h,fun j v hv=>by
  rw[Nat.zero_add];exact Ab h (by simpa using hv)⟩⟩
theorem Dh.pushAll {w X:World}{B m:Nat}{v v':Value}{ps qs:List Part}(h:Dh w B v ps)(hq:∀q∈qs,D7 v w q)(hm:qs.length=m)(hown:X.ownsRow B 32 1 v' (ps.length+m) (ps.map Part.val++qs.map Part.val))(hg:w.grownBy X v.ownBlock)
  (hat:v'.ownBlock=v.ownBlock\/v'.ownBlock=some w.heap.size):Dh X B v' (ps++qs):=by
 refine⟨?_,fun p hp=> ?_,Nat.le_trans h.sz hg.size⟩
 ·rw[List.length_append,hm,List.map_append];exact hown
 ·rcases List.mem_append.1 hp with hp|hp
  ·exact(h.pp p hp).grown hg hat
  ·exact(hq p hp).grown hg hat
theorem Dh.lts {w:World}{B:Nat}{v:Value}{ps:List Part}(h:Dh w B v ps):∀k,v.ownBlock=some k->B<=k/\k<w.heap.size:=fun k e=>h.own.lt k e
theorem Dh.form {w:World}{B:Nat}{v:Value}{ps:List Part}(h:Dh w B v ps):∃A c,v= .slice A ps.length c:=Bh h.own
theorem Dh.cells {w:World}{B n c:Nat}{A:Option Addr}{ps:List Part}(h:Dh w B (.slice A n c) ps)(hn:ps.length=n):Bd w A n c 1 (ps.map Part.val):=by
 subst hn;exact Bd.of_own h.own (by decide)
theorem Dh.old {w w0:World}{B:Nat}{v:Value}{ps:List Part}{q:Part}(h:Dh w B v ps)(hb:Below w0.heap.size w0 w)(hB:w0.heap.size<=B)(hq:Ad w0 q.1 q.2.1 q.2.2.1 q.2.2.2):D7 v w q:=
 ⟨hq.below hb rr,fun ad had hn e=>by have h1:=(h.own.lt _ e).1;have h2:=Nc hq had hn;omega⟩
theorem Dh.grow {w X:World}{B:Nat}{v:Value}{w0:World}(hb:Below w0.heap.size w0 w)(hg:w.grownBy X v.ownBlock)(hv:∀k,v.ownBlock=some k->w0.heap.size<=k):Below w0.heap.size w0 X:=
 hb.grown hg hb.size hv
theorem Xw (A:Option Addr)(n c:Nat)(xs:List Snd)(w:World)(hx:Ad w A n c xs)(hn:n<=4000):
  Calls Tryz.prog 127 #[.slice A n c] w fun e w'=>∃v,e= .returned v/\w'.ownsRow w.heap.size 24 2 v n (Bl xs)/\Below w.heap.size w w':=by
 have HX:=hI hx;clear hx;go_enter Tryz.func127,Tryz.ntmps127;go_wp2
 go_loopw [3,4] (fun v i wr=>∃k:Nat,k<=n/\i= .int .i64 k/\Hid (wr.ownsRow w.heap.size 24 2 v k (Bl (xs.take k)))/\Below w.heap.size w wr) (fun _ i _=>n-(intOf i).toNat)
 case atStart=>exact⟨0,Nat.zero_le _,rfl,World.ownsRow_nil _ _ _ _,Below.refl _ _⟩
 case round=>
  obtain⟨k,hk,rfl,a1,hB⟩:=hrel;have a4:=hB.size;by_cases hlt:k<n
  ·obtain⟨b,off,p,m,rfl,hb,a3,a8,a9⟩:=(HX.out.below hB rr).at_ hlt;have a7:(k:Int)<(n:Int):=by omega
   have HS:=hI (Bb xs k (p,m) a3);clear a3;go_wp2_with(at_builtin;refine Cs rfl (.tmp 11) (.tmp 16) rfl w.heap.size u3 k (xs.take k) rfl (a1.out.alloc _) (some ⟨wr.heap.size,0,none⟩) 1 1 [(p,m)] rfl (E3 wr p m 24) (by omega) (by simp;omega) ?_;intro v' w9 a2 a5 _);have a6:Below w.heap.size w w9:=(hB.alloc a4 _).grown a5 (by simp;omega) (fun q hq=>(a1.out.lt _ hq).1)
   go_roundw
   case rel=>exact⟨k+1,by omega,by go_num,by show w9.ownsRow _ _ _ _ _ _;rw[HS.out];exact a2,a6⟩
   case measure=>simp[intOf];omega
  ·obtain rfl:k=n:=by omega
   have a0:=a1.out;rw[List.take_of_length_le (by rw[HX.out.len];exact rr)]at a0;go_wp2;go_ret;exact⟨_,rfl,a0,hB⟩
def Zq (w:World)(wss:List (List Snd))(e:Ending)(w':World):Prop:=
 ∃A n c,∃ps:List Part,e= .returned (.slice A n c)/\ps.map Part.word=wss/\ps.length=n/\Bd w' A n c 1 (ps.map Part.val)/\Ki w' ps/\(∀p∈ps,∀ad,p.1=some ad->w.heap.size<=ad.block)/\(∀ad,A=some ad->w.heap.size<=ad.block)/\Below w.heap.size w w'
theorem Zq.words {w:World}{wss:List (List Snd)}{w':World}{A:Option Addr}{n c:Nat}{ps:List Part}(h1:ps.map Part.word=wss)(h2:Bd w' A n c 1 (ps.map Part.val))(h3:Ki w' ps):Bx w' A n c wss:=⟨ps,h1,h2,h3⟩
theorem Agh {l:List Snd}(hl:l.length<=5){i:Nat}(hi:i<=6):(Bp l i).length<=15625:=by
 rw[Hk];have h1:l.length^i<=5^i:=Nat.pow_le_pow_left hl i;have h2:5^i<=5^6:=Nat.pow_le_pow_right (by decide) hi;omega
theorem Mg (A:Option Addr)(n c:Nat)(ss:List Snd)(k:Nat)(w:World)(hx:Ad w A n c ss)(hd:ss.Nodup)(hn:n<=5)(hk:k<=6):
  Calls Tryz.prog 122 #[.slice A n c, .int .i64 k] w (Zq w (Bp (Ba ss) k)):=by
 have i7:=Fk hd;rw[hx.len]at i7;have k0:=hI i7;clear i7;have f5:=Abt A n c ss w hx hd hn;clear hx hd;go_enter Tryz.func122,Tryz.ntmps122;go_wp2_with fail;refine f5.mono ?_;rintro e w1 ⟨Al,nl,cl,rfl,j0,m1,m6⟩;obtain rfl:n=nl:=by rw[←j0.len];exact k0.out.symm
 have i3:=hI j0;have i1:=hI m1;clear f5 j0 m1 m6;go_wp2;have k8:Below w.heap.size w (w1.alloc (.cells #[.slice none 0 0] 32)):=i1.out.alloc i1.out.size _;have j8:(w1.alloc (.cells #[.slice none 0 0] 32)).heap[w1.heap.size]? =some (.cells #[Part.val (none,0,0,[])] 32 (0,0)):=Ak rfl;have k2:=i3.out.below ((Below.refl w1.heap.size w1).alloc rr (.cells #[.slice none 0 0] 32)) rr;have k6:w.heap.size<=w1.heap.size:=i1.out.size;obtain⟨b6,b7⟩:∃b6,b6=w1.heap.size:=⟨_,rfl⟩;rw[←b7]at j8 k6 ⊢;clear b7 i1 i3;generalize(w1.alloc (.cells #[.slice none 0 0] 32))=V0 at*;have HZ:=hI (Jd j8);have i3:=hI k2;have j1:=hI k8;have k7:=j1.out.size;clear k8 j8 k2
 go_loopw [6,7] (fun v6 v7 wr=>∃(i:Nat) (A6:Option Addr) (n6 c6:Nat) (ps:List Part),v7= .int .i64 i/\v6= .slice A6 n6 c6/\i<=k/\Hid (Bd wr A6 n6 c6 1 (ps.map Part.val))/\Hid (Ki wr ps)/\Hid (ps.map Part.word=Bp (Ba ss) i)∧
   Hid (∀p∈ps,∀ad,p.1=some ad->w.heap.size<=ad.block)/\Hid (∀ad,A6=some ad->w.heap.size<=ad.block)/\Below V0.heap.size V0 wr) (fun _ v7 _=>k-(intOf v7).toNat)
 case atStart=>
  refine⟨0,_,1,1,[(none,0,0,[])],rfl,rfl,Nat.zero_le _,HZ,fun p hp=> ?_,rfl,fun p hp ad had=> ?_,fun ad had=>by cases had;exact k6,Below.refl _ _⟩
  ·obtain rfl:p=(none,0,0,[]):=by simpa using hp
   exact Bd.nil _ _
  ·obtain rfl:p=(none,0,0,[]):=by simpa using hp
   cases had
 case round=>
  obtain⟨i,A6,n6,c6,ps,rfl,rfl,hi,i4,j2,i2,o3,m2,g9⟩:=hrel;have g8:ps.length=n6:=by have:=i4.out.1;simpa using this
  have o8:n6<=15625:=by
   rw[←g8,←List.length_map (f:=Part.word),i2.out];exact Agh (by rw[k0.out];exact hn) (by omega)
  by_cases hik:i<k
  ·have m4:(i:Int)<(k:Int):=by omega
   obtain⟨wo,i5⟩:∃wo:World,wo=wr:=⟨_,rfl⟩;rw[←i5]at i4 j2 g9;have g7:=hI g9;clear g9;have HB:Hid (Below w.heap.size w wo):=j1.out.trans (g7.out.mono k7);have f6:=hI (i3.out.below g7.out rr);have o5:=hI g8;clear g8;go_wp2
   go_loopw [8,9,10] (fun v8 v9 _ wr=>∃(kk:Nat) (qs:List Part),v9= .int .i64 kk/\kk<=n6/\Hid (Dh wr wo.heap.size v8 qs)/\Hid (qs.map Part.word=((Bp (Ba ss) i).take kk).flatMap (fun v=>(Ba ss).map fun s=>v++[s]))/\qs.length<=5*kk∧
     Hid (∀p∈qs,∀ad,p.1=some ad->w.heap.size<=ad.block)/\Below wo.heap.size wo wr) (fun _ v9 _ _=>n6-(intOf v9).toNat)
   case atStart=>exact⟨0,[],rfl,Nat.zero_le _,by rw[i5];exact Dh.nil _,by simp[Hid],Nat.zero_le _,fun p hp=>by simp at hp,by rw[i5];exact Below.refl _ _⟩
   case round=>
    clear i5;obtain⟨kk,qs,rfl,o7,b1,d3,k1,f1,a3⟩:=hrel;by_cases hlt:kk<n6
    ·have m3:(kk:Int)<(n6:Int):=by omega
     obtain⟨b5,off5,px,rfl,i6,j9,g4⟩:=Gw i4.out hlt;obtain⟨Ap,np,cp,x⟩:=px;have j6:(Bp (Ba ss) i)[kk]? =some x:=by rw[←i2.out,List.getElem?_map,j9];rfl
     have i8:Ad wo Ap np cp x:=j2.out _ (List.mem_of_getElem? j9);have o6:x.length<=6:=by have:=((Eu _ _ _).1 (List.mem_of_getElem? j6)).1;omega
     obtain rfl:np=x.length:=i8.len.symm;have j3:=hI j6;have m7:=hI i8;have k9:=hI g4;clear j9 j6 i8 g4;have k5:∀X:World,Below wo.heap.size wo X->Ad X Ap x.length cp x:=fun X h=>m7.out.below h rr
     have k3:=hI k5;clear k5;have j4:=hI d3.out;have i9:=a3.size;go_wp2
     go_loopw [8,10] (fun v8 v10 wr=>∃(j:Nat) (qs:List Part),v10= .int .i64 j/\j<=n/\Hid (Dh wr wo.heap.size v8 qs)/\Hid (qs.map Part.word=((Bp (Ba ss) i).take kk).flatMap (fun v=>(Ba ss).map fun s=>v++[s])++((Ba ss).take j).map (fun s=>x++[s]))/\qs.length<=5*kk+j∧
       Hid (∀p∈qs,∀ad,p.1=some ad->w.heap.size<=ad.block)/\Below wo.heap.size wo wr) (fun _ v10 _=>n-(intOf v10).toNat)
     case atStart=>exact⟨0,qs,rfl,Nat.zero_le _,b1,by show _=_;rw[d3.out];simp,by omega,f1,a3⟩
     case round=>
      clear b1 d3 k1 f1 a3 j4 i9;obtain⟨j,qs,rfl,hj,b1,d3,k1,f1,a3⟩:=hrel;by_cases hjn:j<n
      ·have m5:(j:Int)<(n:Int):=by omega
       obtain⟨bl,ofl,p,m,rfl,k4,m0,j5,j7⟩:=(f6.out.below a3 rr).at_ hjn;have HJ:=hI m0;clear m0;have g4:=(a3.cell (p:=⟨b5,off5+kk,none⟩) i6).trans k9.out;obtain⟨SS,b0⟩:∃SS:World->Prop,SS=fun X=>X.cell? ⟨b5,off5+kk,none⟩=some (.slice Ap x.length cp)/\X.cell? ⟨bl,ofl+j*2,none⟩=some (.int .u32 p)/\X.cell? ⟨bl,ofl+j*2+1,none⟩=some (.int .u32 m):=⟨_,rfl⟩
       have d1:bl<wo.heap.size:=by
        obtain⟨b',o',_,_,e',m9,_⟩:=f6.out.at_ hjn;cases e';exact m9
       have d4:Hid (∀X:World,Below wr.heap.size wr X->SS X):=fun X h=>by
        rw[b0];exact⟨(h.cell (p:=⟨b5,off5+kk,none⟩) (Nat.lt_of_lt_of_le i6 a3.size)).trans g4,(h.cell (p:=⟨bl,ofl+j*2,none⟩) k4).trans j5,(h.cell (p:=⟨bl,ofl+j*2+1,none⟩) k4).trans j7⟩
       have f9:Hid (∀X:World,Below wo.heap.size wo X->SS X):=fun X h=>by
        rw[b0];have g0:=(a3.cell (p:=⟨bl,ofl+j*2,none⟩) d1).symm.trans j5;have g1:=(a3.cell (p:=⟨bl,ofl+j*2+1,none⟩) d1).symm.trans j7;exact⟨(h.cell (p:=⟨b5,off5+kk,none⟩) i6).trans k9.out,(h.cell (p:=⟨bl,ofl+j*2,none⟩) d1).trans g0,(h.cell (p:=⟨bl,ofl+j*2+1,none⟩) d1).trans g1⟩
       go_wp2;refine Bj (fun W'=>W'.cell? ⟨b5,off5+kk,none⟩=some (.slice Ap x.length cp)/\W'.cell? ⟨bl,ofl+j*2,none⟩=some (.int .u32 p)/\W'.cell? ⟨bl,ofl+j*2+1,none⟩=some (.int .u32 m)) (by kernel_rfl) ⟨g4,j5,j7⟩ (fun hHeld=> ?_)
       (refine' Aa 0 rfl ?_;(try simp only[Act.put,nY,nX]));(refine' Aa 1 rfl ?_;(try simp only[Act.put,nY,nX]));(refine' Aa 2 rfl ?_;(try simp only[Act.put,nY,nX]));(refine' Aa 3 rfl ?_;(try simp only[Act.put,nY,nX]));(refine' Aa 4 rfl ?_;(try simp only[Act.put,nY,nX]));(refine' Aa 6 rfl ?_;(try simp only[Act.put,nY,nX]));(refine' Aa 7 rfl ?_;(try simp only[Act.put,nY,nX]));(refine' Aa 8 rfl ?_;(try simp only[Act.put,nY,nX]));(refine' Aa 9 rfl ?_;(try simp only[Act.put,nY,nX]))
       clear hHeld;have i0:Below wr.heap.size wr wr.drew:=(Below.refl wr.heap.size wr).drew;refine M0 (i:=5) (j:=10) (by kernel_rfl) rfl rfl (fun K' hK'=> ?_) (fun K' hK'=> ?_)
       ·simp only[nY];go_simp;refine(Xw Ap x.length cp x _ (k3.out _ (a3.trans (i0.mono a3.size))) (by omega)).mono ?_;rintro e X6 ⟨vC,rfl,a4,b7⟩;have d2:Below wr.heap.size wr X6:=i0.trans b7;have b2:X6.ownsRow wr.heap.size 24 2 vC x.length (Bl x):=by simpa using a4
        have a6:=d4.out X6 d2;rw[b0]at a6;refine hK' _ _ ⟨.inr a6,fun _=> ?_⟩
        clear hK' K' a6 a4 b7
        (try simp only[Act.put,nY,nX])
        (refine Aqq 10 rfl (fun K' hK'=> ?_);simp only[nY];go_simp)
        have d0:=d2.alloc d2.size (.cells #[.int .u32 p, .int .u32 m] 24);have a6:=d4.out _ d0;rw[b0]at a6;have d7:=hI (b2.alloc (.cells #[.int .u32 p, .int .u32 m] 24));have a1:=hI (E3 X6 p m 24);have d5:=hI d0;have g6:=hI d0.size;refine hK' _ _ ⟨.inr a6,fun _=> ?_⟩
        clear hK' K' a6 d0 d2 b2
        (try simp only[Act.put,nY,nX])
        obtain⟨b10,a9⟩:∃b,b=X6.heap.size:=⟨_,rfl⟩;rw[←a9]at a1 ⊢;clear a9;generalize(X6.alloc (.cells #[.int .u32 p, .int .u32 m] 24))=X7 at*;refine Aqq 11 rfl (fun K' hK'=> ?_);rw[if_pos (by rfl)];refine Ex X7 (.tmp 36) (.tmp 41) rfl wr.heap.size vC x.length x (by rfl) d7.out (some ⟨b10,0,none⟩) 1 1 [(p,m)] (by rfl) a1.out (by omega) g6.out ?_;intro v8 X8 a0 g3 _;obtain⟨A8,c8,rfl⟩:=Bh a0;have b9:Hid (Below wr.heap.size wr X8):=d5.out.grown g3 d5.out.size (fun q hq=>(d7.out.lt q hq).1);have g2:Hid (Ad X8 A8 (x.length+1) c8 (x++[(p,m)])):=Bd.of_own a0 (by decide);have f4:Hid (∀ad,A8=some ad->wr.heap.size<=ad.block):=fun ad had=>by subst had;exact(a0.lt ad.block rfl).1
        have d9:=hI (d4.out X8 b9.out);rw[b0]at d9;clear a0 g3 d7 a1 d5 g6;refine hK' _ _ ⟨.inr d9.out,fun _=> ?_⟩
        clear hK' K'
        (try simp only[Act.put,nY,nX])
        (refine Aqq 12 rfl (fun K' hK'=> ?_);simp only[nY];go_simp)
        have b3:Below X8.heap.size X8 (X8.alloc (.cells #[.slice A8 (x.length+1) c8] 32)):=(Below.refl _ _).alloc rr _;have b8:Below wr.heap.size wr (X8.alloc (.cells #[.slice A8 (x.length+1) c8] 32)):=b9.out.alloc b9.out.size _;have f8:Hid (D7 u8 (X8.alloc (.cells #[.slice A8 (x.length+1) c8] 32)) (A8,x.length+1,c8,x++[(p,m)])):=b1.out.fresh (g2.out.below b3 rr) f4.out;have b4:=hI (b1.out.below b8);have g5:Hid (Bd (X8.alloc (.cells #[.slice A8 (x.length+1) c8] 32)) (some ⟨X8.heap.size,0,none⟩) 1 1 1 ([((A8,x.length+1,c8,x++[(p,m)]):Part)].map Part.val)):=Jd (Ak rfl);have f3:=hI b8;have d8:=hI (d4.out _ b8);rw[b0]at d8;refine hK' _ _ ⟨.inr d8.out,fun _=> ?_⟩
        clear hK' K' d9 d8 b8 b3 g2 b9
        (try simp only[Act.put,nY,nX])
        refine Aqq 13 rfl (fun K' hK'=> ?_);rw[if_pos (by rfl)];refine Ji _ (.tmp 31) (.tmp 43) rfl wo.heap.size u8 qs.length (qs.map Part.val) (by rfl) b4.out.own (some ⟨X8.heap.size,0,none⟩) 1 1 [(A8,x.length+1,c8,x++[(p,m)])] (by rfl) g5.out (by omega) b4.out.sz ?_;intro v10 X10 a2 a7 a5;have f0:=hI (b4.out.pushAll (qs:=[(A8,x.length+1,c8,x++[(p,m)])]) (fun q hq=>by rw[List.mem_singleton.1 hq];exact f8.out) rfl a2 a7 a5);have a1:Hid (Below wo.heap.size wo X10):=(a3.trans (f3.out.mono a3.size)).grown a7 (by have:=a3.size;have:=f3.out.size;omega) (fun q hq=>(b4.out.lts q hq).1);clear a2 a7 a5 g5 f8 b4 f3;have a8:=hI (f9.out X10 a1.out);rw[b0]at a8;refine hK' _ _ ⟨.inr a8.out,fun _=> ?_⟩
        clear a8;clear hK' K'
        (try simp only[Act.put,nY,nX])
        (refine Aqq 14 rfl (fun K' hK'=> ?_);simp only[nY];go_simp)
        refine hK' _ _ ⟨.inl (by kernel_rfl),fun _=>Be (by kernel_rfl) ?_ _⟩
        clear hK' K'
        have d6:Hid (∀q∈qs++[((A8,x.length+1,c8,x++[(p,m)]):Part)],∀ad,q.1=some ad->w.heap.size<=ad.block):=fun q hq ad had=>by
         rcases List.mem_append.1 hq with hq|hq
         ·exact f1.out q hq ad had
         ·obtain rfl:q=(A8,x.length+1,c8,x++[(p,m)]):=by simpa using hq
          have h1:=f4.out ad had;have h2:=a3.size;have h3:=HB.out.size;omega
        have f2:Hid ((qs++[((A8,x.length+1,c8,x++[(p,m)]):Part)]).map Part.word=((Bp (Ba ss) i).take kk).flatMap (fun v=>(Ba ss).map fun s=>v++[s])++((Ba ss).take (j+1)).map (fun s=>x++[s])):=by
         show List.map _ _=_;rw[Yu _ _ _ j3.out j HJ.out,List.map_append,d3.out];rfl
        go_wp2
        go_roundw
        case rel=>exact⟨j+1,_,by go_num,by omega,f0,f2,by simp;omega,d6,a1.out⟩
        case measure=>simp[intOf];omega
       ·simp only[nY];go_simp;have d0:=i0.alloc i0.size (.cells #[.int .u32 p, .int .u32 m] 24);have a6:=d4.out _ d0;rw[b0]at a6;have f7:=E3 wr.drew p m 24;refine hK' _ _ ⟨.inr a6,fun _=> ?_⟩
        clear hK' K' a6
        (try simp only[Act.put,nY,nX])
        (refine Aqq 5 rfl (fun K' hK'=> ?_);simp only[nY];go_simp)
        refine(Xw Ap x.length cp x _ (k3.out _ (a3.trans (d0.mono a3.size))) (by omega)).mono ?_;rintro e X7 ⟨vC,rfl,a4,b7⟩;have d2:Below wr.heap.size wr X7:=d0.trans (b7.mono (by simp));have d7:Hid (X7.ownsRow wr.heap.size 24 2 vC x.length (Bl x)):=Aeu a4 (by simp);have a6:=d4.out X7 d2;rw[b0]at a6;have a1:=hI (f7.below b7 rr);have d5:=hI d2;have g6:=hI d2.size;refine hK' _ _ ⟨.inr a6,fun _=> ?_⟩
        clear hK' K' a6 d0 d2 a4 b7 f7
        (try simp only[Act.put,nY,nX])
        obtain⟨b10,a9⟩:∃b,b=wr.drew.heap.size:=⟨_,rfl⟩;rw[←a9]at a1;rw[show wr.heap.size=b10 from a9.symm];clear a9;refine Aqq 11 rfl (fun K' hK'=> ?_);rw[if_pos (by rfl)];refine Ex X7 (.tmp 36) (.tmp 41) rfl wr.heap.size vC x.length x (by rfl) d7.out (some ⟨b10,0,none⟩) 1 1 [(p,m)] (by rfl) a1.out (by omega) g6.out ?_;intro v8 X8 a0 g3 _;obtain⟨A8,c8,rfl⟩:=Bh a0;have b9:Hid (Below wr.heap.size wr X8):=d5.out.grown g3 d5.out.size (fun q hq=>(d7.out.lt q hq).1);have g2:Hid (Ad X8 A8 (x.length+1) c8 (x++[(p,m)])):=Bd.of_own a0 (by decide);have f4:Hid (∀ad,A8=some ad->wr.heap.size<=ad.block):=fun ad had=>by subst had;exact(a0.lt ad.block rfl).1
        have d9:=hI (d4.out X8 b9.out);rw[b0]at d9;clear a0 g3 d7 a1 d5 g6;refine hK' _ _ ⟨.inr d9.out,fun _=> ?_⟩
        clear hK' K'
        (try simp only[Act.put,nY,nX])
        (refine Aqq 12 rfl (fun K' hK'=> ?_);simp only[nY];go_simp)
        have b3:Below X8.heap.size X8 (X8.alloc (.cells #[.slice A8 (x.length+1) c8] 32)):=(Below.refl _ _).alloc rr _;have b8:Below wr.heap.size wr (X8.alloc (.cells #[.slice A8 (x.length+1) c8] 32)):=b9.out.alloc b9.out.size _;have f8:Hid (D7 u8 (X8.alloc (.cells #[.slice A8 (x.length+1) c8] 32)) (A8,x.length+1,c8,x++[(p,m)])):=b1.out.fresh (g2.out.below b3 rr) f4.out;have b4:=hI (b1.out.below b8);have g5:Hid (Bd (X8.alloc (.cells #[.slice A8 (x.length+1) c8] 32)) (some ⟨X8.heap.size,0,none⟩) 1 1 1 ([((A8,x.length+1,c8,x++[(p,m)]):Part)].map Part.val)):=Jd (Ak rfl);have f3:=hI b8;have d8:=hI (d4.out _ b8);rw[b0]at d8;refine hK' _ _ ⟨.inr d8.out,fun _=> ?_⟩
        clear hK' K' d9 d8 b8 b3 g2 b9
        (try simp only[Act.put,nY,nX])
        refine Aqq 13 rfl (fun K' hK'=> ?_);rw[if_pos (by rfl)];refine Ji _ (.tmp 31) (.tmp 43) rfl wo.heap.size u8 qs.length (qs.map Part.val) (by rfl) b4.out.own (some ⟨X8.heap.size,0,none⟩) 1 1 [(A8,x.length+1,c8,x++[(p,m)])] (by rfl) g5.out (by omega) b4.out.sz ?_;intro v10 X10 a2 a7 a5;have f0:=hI (b4.out.pushAll (qs:=[(A8,x.length+1,c8,x++[(p,m)])]) (fun q hq=>by rw[List.mem_singleton.1 hq];exact f8.out) rfl a2 a7 a5);have a1:Hid (Below wo.heap.size wo X10):=(a3.trans (f3.out.mono a3.size)).grown a7 (by have:=a3.size;have:=f3.out.size;omega) (fun q hq=>(b4.out.lts q hq).1);clear a2 a7 a5 g5 f8 b4 f3;have a8:=hI (f9.out X10 a1.out);rw[b0]at a8;refine hK' _ _ ⟨.inr a8.out,fun _=> ?_⟩
        clear a8;clear hK' K'
        (try simp only[Act.put,nY,nX])
        (refine Aqq 14 rfl (fun K' hK'=> ?_);simp only[nY];go_simp)
        refine hK' _ _ ⟨.inl (by kernel_rfl),fun _=>Be (by kernel_rfl) ?_ _⟩
        clear hK' K'
        have d6:Hid (∀q∈qs++[((A8,x.length+1,c8,x++[(p,m)]):Part)],∀ad,q.1=some ad->w.heap.size<=ad.block):=fun q hq ad had=>by
         rcases List.mem_append.1 hq with hq|hq
         ·exact f1.out q hq ad had
         ·obtain rfl:q=(A8,x.length+1,c8,x++[(p,m)]):=by simpa using hq
          have h1:=f4.out ad had;have h2:=a3.size;have h3:=HB.out.size;omega
        have f2:Hid ((qs++[((A8,x.length+1,c8,x++[(p,m)]):Part)]).map Part.word=((Bp (Ba ss) i).take kk).flatMap (fun v=>(Ba ss).map fun s=>v++[s])++((Ba ss).take (j+1)).map (fun s=>x++[s])):=by
         show List.map _ _=_;rw[Yu _ _ _ j3.out j HJ.out,List.map_append,d3.out];rfl
        go_wp2
        go_roundw
        case rel=>exact⟨j+1,_,by go_num,by omega,f0,f2,by simp;omega,d6,a1.out⟩
        case measure=>simp[intOf];omega
      ·obtain rfl:n=j:=by omega
       have o4:Hid (qs.map Part.word=((Bp (Ba ss) i).take (kk+1)).flatMap (fun v=>(Ba ss).map fun s=>v++[s])):=by
        show _=_;rw[d3.out,←Ag3 _ _ _ j3.out,k0.out]
       go_wp2
       go_roundw
       case rel=>exact⟨kk+1,qs,by go_num,by omega,b1,o4,by omega,f1,a3⟩
       case measure=>simp[intOf];omega
    ·obtain rfl:n6=kk:=by omega
     obtain⟨A8,c8,rfl⟩:=Bh b1.out.own
     have m8:Hid (qs.map Part.word=Bp (Ba ss) (i+1)):=by
      show _=_;rw[d3.out,List.take_of_length_le (by rw[←i2.out,List.length_map,o5.out];exact rr)];rfl
     have o0:Hid (Below V0.heap.size V0 wr):=g7.out.trans (a3.mono g7.out.size);have o2:qs.length<=78125:=by omega
     go_wp2
     go_roundw
     case rel=>exact⟨i+1,A8,_,c8,qs,by go_num,rfl,by omega,b1.out.cells rfl,fun p hp=>(b1.out.pp p hp).1,m8,f1,(fun ad had=>by subst had;have h1:=(b1.out.lts _ rfl).1;have h2:=HB.out.size;omega),o0.out⟩
     case measure=>simp[intOf];omega
  ·obtain rfl:i=k:=by omega
   have o1:Hid (Below w.heap.size w wr):=j1.out.trans (g9.mono k7);go_wp2;go_ret;exact⟨A6,n6,c6,ps,rfl,i2.out,g8,i4.out,j2.out,o3.out,m2.out,o1.out⟩
theorem Adu (f:Nat->List (List Snd))(k:Nat):(List.range (k+1)).flatMap f=(List.range k).flatMap f++f k:=by
 rw[List.range_succ,List.flatMap_append,List.flatMap_singleton]
theorem Nj {l:List Snd}(hl:l.length<=5)(i:Nat):(Bp l i).length<=5^i:=by
 rw[Hk];exact Nat.pow_le_pow_left hl i
theorem Xn (A:Option Addr)(n c:Nat)(ss:List Snd)(w:World)(hx:Ad w A n c ss)(hd:ss.Nodup)(hn:n<=5):
  Calls Tryz.prog 184 #[.slice A n c] w (Zq w (C0 ss)):=by
 have a6:=Fk hd;rw[hx.len]at a6;have f1:=hI a6;clear a6;have HX:=hI hx;clear hx;have HD:=hI hd;clear hd;go_enter Tryz.func184,Tryz.ntmps184;go_wp2
 go_loopw [3,4] (fun v i wr=>∃(k:Nat) (ps:List Part),i= .int .i64 k/\k<=7/\Hid (Dh wr w.heap.size v ps)/\Hid (ps.map Part.word=(List.range k).flatMap (Bp (Ba ss)))/\Hid (ps.length*4+1<=5^k)/\Hid (∀p∈ps,∀ad,p.1=some ad->w.heap.size<=ad.block)/\Below w.heap.size w wr) (fun _ i _=>7-(intOf i).toNat)
 case atStart=>exact⟨0,[],rfl,by omega,Dh.nil w,rfl,by simp[Hid],fun p hp=>by simp at hp,Below.refl _ _⟩
 case round=>
  obtain⟨k,ps,rfl,hk,a1,b9,b8,d1,hB⟩:=hrel;have d5:=hB.size;obtain⟨A3,c3,rfl⟩:=Bh a1.out.own;by_cases hlt:k<7
  ·have f0:(k:Int)<=6:=by omega
   go_wp2_with fail;refine(Mg A n c ss k wr (HX.out.below hB rr) HD.out hn (by omega)).mono ?_;rintro e w1 ⟨A1,n1,c1,qs,rfl,b1,b0,d4,b3,b2,_,b5⟩
   have b6:Hid (n1*1<=5^k):=by
    have h:=Nj (l:=Ba ss) (by rw[f1.out];exact hn) k;rw[←b1,List.length_map,b0]at h;show _<=_;omega
   have f4:n1<=15625:=by
    have h2:5^k<=5^6:=Nat.pow_le_pow_right (by decide) (by omega)
    have:=b6.out;omega
   have f3:ps.length<=4000:=by
    have h2:5^k<=5^6:=Nat.pow_le_pow_right (by decide) (by omega)
    have:=b8.out;omega
   have a7:=hI b5;have a4:=hI (a1.out.below b5);have d3:Hid (∀q∈qs,D7 (Value.slice A3 ps.length c3) w1 q):=fun q hq=>a1.out.fresh (b3 q hq) (b2 q hq)
   have d2:=hI d4;have f2:=hI b3;have b7:=hI b2;have d0:=hI b1;have b4:=hI b0;clear d4 b3 b2 b1 b0 b5 a1;go_wp2_with(at_builtin;go_loud (refine D9 rfl (.tmp 9) (.tmp 12) rfl w.heap.size (.slice A3 ps.length c3) ps.length (ps.map Part.val) rfl a4.out.own A1 n1 c1 qs rfl d2.out (by omega) a4.out.sz ?h2))
   case h2=>
    intro v2 w2 a0 a9 a3;have a2:=a4.out.pushAll d3.out b4.out a0 a9 a3;have d7:Below w.heap.size w w2:=(hB.trans (a7.out.mono d5)).grown a9 (by have:=a7.out.size;omega) (fun q hq=>(a4.out.lts q hq).1)
    have d6:Hid (∀p∈ps++qs,∀ad,p.1=some ad->w.heap.size<=ad.block):=fun p hp ad a5=>by
     rcases List.mem_append.1 hp with hp|hp
     ·exact d1.out p hp ad a5
     ·have:=b7.out p hp ad a5;omega
    have d8:Hid ((ps++qs).length*4+1<=5^(k+1)):=by
     have h1:=b8.out;have h2:=b6.out;show _<=_;rw[List.length_append,b4.out,Nat.pow_succ];omega
    have d9:Hid ((ps++qs).map Part.word=(List.range (k+1)).flatMap (Bp (Ba ss))):=by
     show _=_;rw[List.map_append,b9.out,d0.out,Adu]
    have a8:=hI a2;clear a0 a9 a3 a2 a4 a7 d3 d2 f2 b7 d0 b4;go_wp2
    go_roundw
    case rel=>exact⟨k+1,_,by go_num,by omega,a8,d9,d8,d6,d7⟩
    case measure=>simp[intOf];omega
  ·obtain rfl:k=7:=by omega
   go_wp2;go_ret;refine⟨A3,_,c3,ps,rfl,b9.out,rfl,a1.out.cells rfl,fun p hp=>(a1.out.pp p hp).1,d1.out, ?_,hB⟩
   intro ad a5;subst a5;exact(a1.out.lts _ rfl).1
theorem V8 {α:Type}{f:α->Bool}{l:List α}{k:Nat}{x:α}(h:l[k]? =some x)(hx:f x=true):(l.take (k+1)).filter f=(l.take k).filter f++[x]:=by
 rw[Bb l k x h,List.filter_append,List.filter_cons_of_pos (by simpa using hx)];rfl
theorem Nk {α:Type}{f:α->Bool}{l:List α}{k:Nat}{x:α}(h:l[k]? =some x)(hx:f x=false):(l.take (k+1)).filter f=(l.take k).filter f:=by
 rw[Bb l k x h,List.filter_append,List.filter_cons_of_neg (by simpa using hx)];simp
theorem Adv {ss:List Snd}(h:Bq ss){x:List Snd}(hx:x∈C0 ss):Bq x:=fun s hs=>h s (((Qg ss x).1 hx).2 s hs)
theorem V9 {ss:List Snd}(hd:ss.Nodup)(hn:ss.length<=5):(C0 ss).length<=19531:=by
 rw[Qh hd];have hp:∀i,ss.length^i<=5^i:=fun i=>Nat.pow_le_pow_left hn i
 have h0:=hp 0;have h1:=hp 1;have h2:=hp 2;have h3:=hp 3;have h4:=hp 4;have h5:=hp 5;have h6:=hp 6;simp only[List.range,List.range.loop,List.map_cons,List.map_nil,List.sum_cons,List.sum_nil];omega
theorem To (A:Option Addr)(n c:Nat)(xs:List Co)(Aw:Option Addr)(nw cw:Nat)(ws:List Snd)(As:Option Addr)(ns cs:Nat)(ss:List Snd)(w:World)(hx:B4 w A n c xs)(hw:Ad w Aw nw cw ws)(hs:Ad w As ns cs ss)(hxu:Jj xs)(hsu:Bq ss)(hd:ss.Nodup)(hn:ns<=5):
  Calls Tryz.prog 143 #[.slice A n c, .slice Aw nw cw, .slice As ns cs] w (Zq w (Cl (Ah xs) ws ss)):=by
 have j6:=hx.max;have j2:=hw.max;have HX:=hI hx;have HW:=hI hw;have HS:=hI hs;have i3:=hI hxu;have g5:=hI hsu;have i4:Hid ((C0 ss).length<=19531):=V9 hd (by rw[hs.len];exact hn);have HD:=hI hd;clear hx hw hs hxu hsu hd;go_enter Tryz.func143,Tryz.ntmps143;go_wp2_with fail;refine(Xn As ns cs ss w HS.out HD.out hn).mono ?_;rintro e w1 ⟨A7,n7,c7,ps,rfl,f3,d6,d1,f9,g3,_,d9⟩;have g0:=hI f3;have g7:=hI d1;have g1:=hI f9;have i2:=hI g3;have f7:=hI d9;have b2:=d9.size;have h7:n7<=19531:=by have:=i4.out;rw[←f3,List.length_map,d6]at this;exact this
 have j3:n7<=c7/\c7<=9223372036854775807:=by have h1:=d1.2.1;have h2:=d1.2.2.1;unfold maxLen at h2;omega
 have i0:=hI d6;clear f3 d1 f9 g3 d9 d6;go_wp2
 go_loopw [8,9,10,11] (fun v i _ _ wr=>∃(k:Nat) (qs:List Part),i= .int .i64 k/\k<=n7/\Hid (Dh wr w1.heap.size v qs)/\qs.length<=k/\Hid (qs.map Part.word=((C0 ss).take k).filter fun v=>decide (Bm (Ah xs) v=(0,ws)))/\Hid (∀p∈qs,∀ad,p.1=some ad->w.heap.size<=ad.block)/\Below w1.heap.size w1 wr) (fun _ i _ _ _=>n7-(intOf i).toNat)
 case atStart=>exact⟨0,[],rfl,Nat.zero_le _,Dh.nil w1,rr,by simp[Hid],fun p hp=>by simp at hp,Below.refl _ _⟩
 case round=>
  obtain⟨k,qs,rfl,hk,a6,j4,b6,d0,hB⟩:=hrel;have j0:=hB.size;obtain⟨A8,c8,rfl⟩:=Bh a6.out.own;have g4:Hid (Below w.heap.size w wr):=f7.out.trans (hB.mono b2);by_cases hlt:k<n7
  ·have g6:(k:Int)<(n7:Int):=by omega
   obtain⟨b,off,px,rfl,d7,b1,b9⟩:=Gw (g7.out.below hB rr) hlt;obtain⟨Ax,nx,cx,x⟩:=px
   replace b9:wr.cell? ⟨b,off+k,none⟩=some (.slice Ax nx cx):=b9
   have f4:(C0 ss)[k]? =some x:=by rw[←g0.out,List.getElem?_map,b1];rfl
   have d5:=hI f4;have f1:Hid (Ad wr Ax nx cx x):=(g1.out _ (List.mem_of_getElem? b1)).below hB rr;have i1:Hid (∀ad,Ax=some ad->w.heap.size<=ad.block):=i2.out _ (List.mem_of_getElem? b1);have i6:Hid (∀ad,Ax=some ad->0<nx->ad.block<w1.heap.size):=fun ad a2 h0=>Nc (p:=(Ax,nx,cx,x)) (g1.out _ (List.mem_of_getElem? b1)) a2 h0
   have j1:Hid (Bq x):=Adv g5.out (List.mem_of_getElem? f4);clear b1 f4;go_wp2_with fail;refine(Me A n c xs Ax nx cx x wr (HX.out.below g4.out rr) f1.out i3.out j1.out).mono ?_;obtain⟨ea,f2⟩:∃ea,ea=Bm (Ah xs) x:=⟨_,rfl⟩;rw[←f2];have d8:=hI f2;clear f2;rintro e w3 ⟨A3,n3,c3,rfl,f8,a7,_⟩;have b8:=hB.trans (a7.mono j0);have a9:=(a7.cell (p:=⟨b,off+k,none⟩) d7).trans b9;have a5:b<w3.heap.size:=Nat.lt_of_lt_of_le d7 a7.size;have b3:Hid (Ad w3 Ax nx cx x):=f1.out.below a7 rr;have a4:=hI (a6.out.below a7);have d3:=hI f8;clear a6 a7 b9 d7 f1 f8;have j5:=d3.out.max;by_cases h0:ea.1=0
   ·have i8:(ea.1==0)=true:=by simpa using h0
    have b0:Hid (Below w.heap.size w w3):=f7.out.trans (b8.mono b2);go_wp2_with fail;refine(Gp A3 Aw n3 nw c3 cw ea.2 ws w3 d3.out (HW.out.below b0.out rr)).mono ?_;rintro e w4 ⟨rfl,a8⟩;have f5:=b8.trans (a8.mono b8.size);have i5:=(a8.cell (p:=⟨b,off+k,none⟩) a5).trans a9;have b4:Hid (Ad w4 Ax nx cx x):=b3.out.below a8 rr;have a1:=hI (a4.out.below a8);have g9:b<w4.heap.size:=Nat.lt_of_lt_of_le a5 a8.size;clear a8 a4 b3 d3 a9 a5 b0;by_cases he:ea.2=ws
    ·have HN:Hid (((C0 ss).take (k+1)).filter (fun v=>decide (Bm (Ah xs) v=(0,ws)))=((C0 ss).take k).filter (fun v=>decide (Bm (Ah xs) v=(0,ws)))++[x]):=V8 d5.out (decide_eq_true (by rw[←d8.out];exact Prod.ext h0 he));rw[decide_eq_true he];clear he h0;have f6:Hid (D7 (Value.slice A8 qs.length c8) w4 (Ax,nx,cx,x)):=⟨b4.out,fun ad a2 h0 e=>by have h1:=(a1.out.own.lt _ e).1;have h2:=i6.out ad a2 h0;omega⟩
     have b7:Below w4.heap.size w4 (w4.alloc (.cells #[.slice Ax nx cx] 32)):=(Below.refl _ _).alloc rr _;have a0:=hI (a1.out.below b7);have g2:=hI (f6.out.below b7);have d4:Hid (Below w1.heap.size w1 (w4.alloc (.cells #[.slice Ax nx cx] 32))):=f5.trans (b7.mono f5.size);clear b7 a1 f6 b4;go_wp2_with(at_builtin;go_loud (refine D9 rfl (.tmp 36) (.tmp 41) rfl w1.heap.size (.slice A8 qs.length c8) qs.length (qs.map Part.val) rfl a0.out.own (some ⟨w4.heap.size,0,none⟩) 1 1 [(Ax,nx,cx,x)] rfl (Jd (Ak rfl)) (by omega) a0.out.sz ?h6))
     case h6=>
      intro v6 w6 a3 d2 b5;have h6:=a0.out.pushAll (qs:=[(Ax,nx,cx,x)]) (fun q hq=>by rw[List.mem_singleton.1 hq];exact g2.out) rfl a3 d2 (b5.imp id (fun e=>e.trans (by simp)));have i9:Below w1.heap.size w1 w6:=d4.out.grown d2 d4.out.size (fun q hq=>(a0.out.lts q hq).1);have H6:=hI h6
      have i7:Hid (∀p∈qs++[((Ax,nx,cx,x):Part)],∀ad,p.1=some ad->w.heap.size<=ad.block):=fun p hp ad a2=>by
       rcases List.mem_append.1 hp with hp|hp
       ·exact d0.out p hp ad a2
       ·obtain rfl:p=(Ax,nx,cx,x):=by simpa using hp
        exact i1.out ad a2
      have g8:Hid ((qs++[((Ax,nx,cx,x):Part)]).map Part.word=((C0 ss).take (k+1)).filter fun v=>decide (Bm (Ah xs) v=(0,ws))):=by
       show _=_;rw[HN.out,List.map_append,b6.out];rfl
      clear h6 a3 d2 b5 a0 g2 d4 HN;go_wp2
      go_roundw
      case rel=>exact⟨k+1,_,by go_num,by omega,H6,by simp;omega,g8,i7,i9⟩
      case measure=>simp[intOf];omega
    ·have HN:Hid (((C0 ss).take (k+1)).filter (fun v=>decide (Bm (Ah xs) v=(0,ws)))=((C0 ss).take k).filter (fun v=>decide (Bm (Ah xs) v=(0,ws)))):=Nk d5.out (decide_eq_false (by rw[←d8.out];exact fun e=>he (by rw[e])));rw[decide_eq_false he];clear he h0;go_wp2
     go_roundw
     case rel=>exact⟨k+1,qs,by go_num,by omega,a1,by omega,by show _=_;rw[HN.out];exact b6.out,d0,f5⟩
     case measure=>simp[intOf];omega
   ·have i8:(ea.1==0)=false:=by simpa using h0
    have HN:Hid (((C0 ss).take (k+1)).filter (fun v=>decide (Bm (Ah xs) v=(0,ws)))=((C0 ss).take k).filter (fun v=>decide (Bm (Ah xs) v=(0,ws)))):=Nk d5.out (decide_eq_false (by rw[←d8.out];exact fun e=>h0 (by rw[e])));clear h0;go_wp2
    go_roundw
    case rel=>exact⟨k+1,qs,by go_num,by omega,a4,by omega,by show _=_;rw[HN.out];exact b6.out,d0,b8⟩
    case measure=>simp[intOf];omega
  ·obtain rfl:k=n7:=by omega
   have f0:Hid (qs.map Part.word=Cl (Ah xs) ws ss):=by
    have h:(C0 ss).length=k:=by rw[←g0.out,List.length_map,i0.out]
    show _=_;rw[b6.out,List.take_of_length_le (by rw[h];exact rr)];rfl
   go_wp2;go_ret;refine⟨A8,_,c8,qs,rfl,f0.out,rfl,a6.out.cells rfl,fun p hp=>(a6.out.pp p hp).1,d0.out, ?_,g4.out⟩
   intro ad a2;subst a2;have:=(a6.out.lts _ rfl).1;omega
end Go.Proofs.YtlgliddhideflaaGreatDoor
