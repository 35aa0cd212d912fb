/-
  ablautref02.Equal; slices of numbers.
-/
import Derived.Test.YtaglfmlgbcmakaaGreatDoorG13
set_option linter.all false
set_option maxRecDepth 100000
set_option maxHeartbeats 4000000
namespace Go.Proofs.YtaglfmlgbcmakaaGreatDoor
open Go.RowKit Go.Shelf
theorem Yd (A A':Option Addr)(n n' c c':Nat)(xs ys:List Snd)(w:World)(hx:Ak w A n c xs)(hy:Ak w A' n' c' ys):
  Calls Tryz.prog 87 #[.slice A n c, .slice A' n' c'] w fun e w'=>e= .returned (.bool (decide (xs=ys)))/\Below w.heap.size w w':=by
 have hm:=hx.max;by_cases hn:n=n'
 ·subst hn;have HX:=hI hx;clear hx;have HY:=hI hy;clear hy;go_enter Tryz.func87,Tryz.ntmps87;go_wp2
  go_loopw [5] (fun i wr=>∃k:Nat,k<=n/\i= .int .i64 k/\xs.take k=ys.take k/\Below w.heap.size w wr) (fun i _=>n-(intOf i).toNat)
  case atStart=>exact⟨0,Nat.zero_le _,rfl,by simp,bel⟩
  case round=>
   obtain⟨k,hk,rfl,a0,hB⟩:=hrel;have HA:=hI a0;clear a0;by_cases hlt:k<n
   ·obtain⟨b,off,p,m,rfl,hb,a3,b1,b3⟩:=(HX.out.below hB rr).at_ hlt;obtain⟨b',off',p',m',rfl,b2,a4,a7,a5⟩:=(HY.out.below hB rr).at_ hlt;have HK:=hI a3;clear a3;have a2:=hI a4;clear a4;go_wp2;by_cases he:(p==p' && m==m')=true
    ·have a6:p=p'/\m=m':=by simpa using he
     obtain⟨rfl,rfl⟩:=a6;have HS:=hI (Bd xs k (p,m) HK.out);have a9:=hI (Bd ys k (p,m) a2.out)
     go_quiet (fail)
     go_wp2
     go_roundw
     case rel=>exact⟨k+1,by omega,by go_num,by rw[HS.out,a9.out,HA.out],bel⟩
     case measure=>simp[intOf];omega
    ·have hf:decide (xs=ys)=false:=by
      apply decide_eq_false;rintro rfl
      have:=HK.out.symm.trans a2.out
      simp only[Option.some.injEq,Prod.mk.injEq]at this;simp[this]at he
     have HF:=hI hf;clear hf;by_cases h1:p=p'
     ·subst h1;have a1:(m==m')=false:=by simpa using he
      have a8:(m !=m')=true:=by simp only[bne,a1];rfl
      clear he
      go_quiet (fail)
      go_wp2;go_ret;exact⟨by rw[HF.out];rfl,bel⟩
     ·have a1:(p==p')=false:=by simpa using h1
      have a8:(p !=p')=true:=by simp only[bne,a1];rfl
      clear he h1
      go_quiet (fail)
      go_wp2;go_ret;exact⟨by rw[HF.out];rfl,bel⟩
   ·obtain rfl:k=n:=by omega
    have hf:decide (xs=ys)=true:=by
     apply decide_eq_true
     have:=HA.out
     rwa[List.take_of_length_le (by rw[HX.out.len];exact rr),List.take_of_length_le (by rw[HY.out.len];exact rr)]at this
    have HF:=hI hf;clear hf;go_wp2;go_ret;exact⟨by rw[HF.out];rfl,hB⟩
 ·have hf:decide (xs=ys)=false:=by
   apply decide_eq_false;rintro rfl;exact hn (hx.len.symm.trans hy.len)
  have HF:=hI hf;clear hf;have b0:((n:Int) !=(n':Int))=true:=by simp;omega
  have HX:=hI hx;clear hx;have HY:=hI hy;clear hy;go_enter Tryz.func87,Tryz.ntmps87;go_wp2;go_ret;exact⟨by rw[HF.out];rfl,bel⟩
def Ci (w:World)(A:Option Addr)(n c:Nat)(l:List Int):Prop:=Az w A n c 1 (l.map (Value.int .i64))
theorem Ci.len {w:World}{A:Option Addr}{n c:Nat}{l:List Int}(h:Ci w A n c l):l.length=n:=by have:=h.1;simpa using this
theorem Ci.below {w w':World}{A:Option Addr}{n c:Nat}{l:List Int}(h:Ci w A n c l){B:Nat}(hb:Below B w w')(hB:w.heap.size<=B):Ci w' A n c l:=Az.below h hb hB
theorem Ci.max {w:World}{A:Option Addr}{n c:Nat}{l:List Int}(h:Ci w A n c l):n<=c/\c<=9223372036854775807:=by have h1:=h.2.1;have h2:=h.2.2.1;unfold maxLen at h2;omega
theorem Ci.at_ {w:World}{A:Option Addr}{n c:Nat}{l:List Int}(h:Ci w A n c l){k:Nat}(hk:k<n):∃b off x,A=some ⟨b,off,none⟩/\b<w.heap.size/\w.cell? ⟨b,off+k,none⟩=some (.int .i64 x)/\l[k]? =some x:=by
 obtain⟨b,off,v,hA,hb,hv,hc⟩:=h.at1 hk;rw[List.getElem?_map]at hv
 cases hl:l[k]? with
 |none=>rw[hl]at hv;cases hv
 |some x=>
  rw[hl]at hv;obtain rfl:Value.int .i64 x=v:=by simpa using hv
  exact⟨b,off,x,hA,hb,hc,rfl⟩
end Go.Proofs.YtaglfmlgbcmakaaGreatDoor
