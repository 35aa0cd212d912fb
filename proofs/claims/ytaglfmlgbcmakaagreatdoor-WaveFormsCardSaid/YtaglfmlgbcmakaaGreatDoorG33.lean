/-
  ablautref02.Equal, Same; ablautlaw10.numbers.
-/
import Derived.Test.YtaglfmlgbcmakaaGreatDoorG15
set_option linter.all false
set_option maxRecDepth 100000
set_option maxHeartbeats 4000000
namespace Go.Proofs.YtaglfmlgbcmakaaGreatDoor
open Go.RowKit Go.Shelf
theorem Xn (A A':Option Addr)(n n' c c':Nat)(xs ys:List (List Snd))(w:World)(hx:Bs w A n c xs)(hy:Bs w A' n' c' ys):
  Calls Tryz.prog 45 #[.slice A n c, .slice A' n' c'] w fun e w'=>e= .returned (.bool (decide (xs=ys)))/\Below w.heap.size w w':=by
 have hm:=hx.max;by_cases hn:n=n'
 ·subst hn;have HX:=hI hx;clear hx;have HY:=hI hy;clear hy;go_enter Tryz.func45,Tryz.ntmps45;go_wp2
  go_loopw [5] (fun i wr=>∃k:Nat,k<=n/\i= .int .i64 k/\xs.take k=ys.take k/\Below w.heap.size w wr) (fun i _=>n-(intOf i).toNat)
  case atStart=>exact⟨0,Nat.zero_le _,rfl,by simp,bel⟩
  case round=>
   obtain⟨k,hk,rfl,a1,hB⟩:=hrel;have HA:=hI a1;clear a1;have b4:=hB.size;by_cases hlt:k<n
   ·obtain⟨b,off,A5,n5,c5,x5,rfl,d0,a4,a9,b1⟩:=(HX.out.below hB rr).at_ hlt;obtain⟨b',off',A6,n6,c6,x6,rfl,b9,b0,a6,a3⟩:=(HY.out.below hB rr).at_ hlt;have HK:=hI a9;clear a9;have a8:=hI a6;clear a6;have b3:=hI b1;clear b1;have b6:=hI a3;clear a3;have b7:(k:Int)<(n:Int):=by omega
    go_wp2;refine Bg (fun W'=>W'.cell? ⟨b,off+k,none⟩=some (.slice A5 n5 c5)/\W'.cell? ⟨b',off'+k,none⟩=some (.slice A6 n6 c6)) (by kernel_rfl) ⟨a4,b0⟩ (fun hHeld=> ?_)
    (refine' Ae 0 rfl ?_;(try simp only[Act.put,nY,nX]));(refine' Ae 1 rfl ?_;(try simp only[Act.put,nY,nX]));(refine' Ae 2 rfl ?_;(try simp only[Act.put,nY,nX]));(refine' Ae 3 rfl ?_;(try simp only[Act.put,nY,nX]));(refine' Ae 4 rfl ?_;(try simp only[Act.put,nY,nX]));(refine' Ae 5 rfl ?_;(try simp only[Act.put,nY,nX]));(refine' Ae 6 rfl ?_;(try simp only[Act.put,nY,nX]));(refine' Ae 7 rfl ?_;(try simp only[Act.put,nY,nX]))
    clear a4 b0
    (refine Anv 8 rfl (fun K' hK'=> ?_);simp only[nY];go_simp)
    refine(Yd A5 A6 n5 n6 c5 c6 x5 x6 _ (b3.out.below (B:=wr.heap.size) ((Below.refl wr.heap.size wr).drew) rr) (b6.out.below (B:=wr.heap.size) ((Below.refl wr.heap.size wr).drew) rr)).mono ?_;rintro e w5 ⟨rfl,a0⟩;have a2:Below wr.heap.size wr w5:=(Below.refl wr.heap.size wr).drew.trans a0;obtain⟨q1,q2⟩:=hHeld;refine hK' _ _ ⟨.inr ⟨(a2.cell (p:=⟨b,off+k,none⟩) (by assumption)).trans q1,(a2.cell (p:=⟨b',off'+k,none⟩) (by assumption)).trans q2⟩,fun _=> ?_⟩
    clear hK' K' a0 q1 q2;have a7:Below w.heap.size w w5:=hB.trans (a2.mono b4);clear a2
    (try simp only[Act.put,nY,nX])
    (refine Anv 9 rfl (fun K' hK'=> ?_);simp only[nY];go_simp)
    refine hK' _ _ ⟨.inl (by kernel_rfl),fun _=>Bf (by kernel_rfl) ?_ _⟩
    clear hK' K';obtain⟨d,hd⟩:∃d,d=decide (x5=x6):=⟨_,rfl⟩;rw[←hd];have a5:=hI hd;clear hd
    cases d with
    |true=>
     have b2:x5=x6:=of_decide_eq_true a5.out.symm;subst b2;have HS:=hI (Bd xs k x5 HK.out);have b5:=hI (Bd ys k x5 a8.out);go_wp2
     go_roundw
     case rel=>exact⟨k+1,by omega,by go_num,by rw[HS.out,b5.out,HA.out],a7⟩
     case measure=>simp[intOf];omega
    |false=>
     have hf:decide (xs=ys)=false:=by
      apply decide_eq_false;rintro rfl;have h1:=HK.out.symm.trans a8.out;have h2:x5=x6:=by simpa using h1
      have h3:=a5.out;rw[decide_eq_true h2]at h3;cases h3
     have HF:=hI hf;clear hf;go_wp2;go_ret;exact⟨by rw[HF.out];rfl,a7⟩
   ·obtain rfl:k=n:=by omega
    have hf:decide (xs=ys)=true:=by
     apply decide_eq_true
     have:=HA.out
     rwa[List.take_of_length_le (by rw[HX.out.len];exact rr),List.take_of_length_le (by rw[HY.out.len];exact rr)]at this
    have HF:=hI hf;clear hf;go_wp2;go_ret;exact⟨by rw[HF.out];rfl,hB⟩
 ·have hf:decide (xs=ys)=false:=by
   apply decide_eq_false;rintro rfl;exact hn (hx.len.symm.trans hy.len)
  have HF:=hI hf;clear hf;have b8:((n:Int) !=(n':Int))=true:=by simp;omega
  have HX:=hI hx;clear hx;have HY:=hI hy;clear hy;go_enter Tryz.func45,Tryz.ntmps45;go_wp2;go_ret;exact⟨by rw[HF.out];rfl,bel⟩
end Go.Proofs.YtaglfmlgbcmakaaGreatDoor
