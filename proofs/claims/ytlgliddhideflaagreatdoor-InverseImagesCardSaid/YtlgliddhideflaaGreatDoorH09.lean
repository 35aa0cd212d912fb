/-
  ablautref11: Alphabet, wrong, sorted; ablautref01.Order.
  ablautref02: before, Order; ablautref11.sooner.
  ablautref11.put.
  ablautref11: BackAll, Back, Count, short.
  ablautlaw11.Light, light: how heavy a case is: what is reckoned does not matter but for the numbers of laws and sounds.
-/
import Derived.Test.YtlgliddhideflaaGreatDoorH08
import Derived.Test.YtlgliddhideflaaGreatDoorH04
set_option linter.all false
set_option maxRecDepth 100000
set_option maxHeartbeats 4000000
namespace Go.Proofs.YtlgliddhideflaaGreatDoor
open Go.RowKit Go.Shelf
theorem Xm (A:Option Addr)(n c:Nat)(xs:List Snd)(w:World)(hx:Ad w A n c xs)(hu:Bq xs):
  Calls Tryz.prog 183 #[.slice A n c] w fun e w'=>e= .returned (.int .i64 (B1 xs))/\Below w.heap.size w w':=by
 have hm:=hx.max;have HL:Hid (xs.length=n):=hx.len;have HX:=hI hx;clear hx;have HU:=hI hu;clear hu;by_cases h5:5<n
 ·have HR:Hid (B1 xs=12):=by show B1 xs=12;exact Q8 (by rw[HL.out];exact h5)
  go_enter Tryz.func183,Tryz.ntmps183;go_wp2;go_ret;exact⟨(by rw[HR.out];try rfl),Below.refl _ _⟩
 have a4:Hid (¬5<xs.length):=by show¬_;rw[HL.out];exact h5
 go_enter Tryz.func183,Tryz.ntmps183;go_wp2
 go_loopw [3] (fun i wr=>∃k:Nat,k<=n/\i= .int .i64 k/\Hid (∀s∈xs.take k,Br s.1 s.2=true)/\Below w.heap.size w wr) (fun i _=>n-(intOf i).toNat)
 case atStart=>exact⟨0,Nat.zero_le _,rfl,fun s hs=>by simp at hs,Below.refl _ _⟩
 case round=>
  obtain⟨k,hk,rfl,HV,hB⟩:=hrel;by_cases hlt:k<n
  ·obtain⟨b,off,p,m,rfl,hb,a0,a2,a3⟩:=(HX.out.below hB rr).at_ hlt;have a7:=hI (HU.out _ (List.mem_of_getElem? a0));have HK:=hI a0;clear a0;go_wp2_with fail;refine(E6 p m wr a7.out.1 a7.out.2).mono ?_;rintro e w1 ⟨rfl,a6⟩;have a9:=hB.trans (a6.mono hB.size);clear a6 a2 a3;obtain⟨v,hv⟩:∃v,v=Br p m:=⟨_,rfl⟩;rw[←hv];cases v
   ·have HR:Hid (B1 xs=14):=by show B1 xs=14;exact Aca a4.out HK.out hv.symm
    clear hv;go_wp2;go_ret;exact⟨(by rw[HR.out];try rfl),a9⟩
   ·have b8:Hid (∀s∈xs.take (k+1),Br s.1 s.2=true):=fun s hs=>by
     rw[Bb xs k _ HK.out]at hs;rcases List.mem_append.1 hs with hs|hs
     ·exact HV.out s hs
     ·obtain rfl:s=(p,m):=by simpa using hs
      exact hv.symm
    clear hv;go_wp2
    go_roundw
    case rel=>exact⟨k+1,by omega,by go_num,b8,a9⟩
    case measure=>simp[intOf];omega
  ·obtain rfl:n=k:=by omega
   have b5:Hid (∀s∈xs,Br s.1 s.2=true):=by
    have:=HV.out
    rw[List.take_of_length_le (by rw[HL.out];exact rr)]at this;exact this
   clear HV;go_wp2
   go_loopw [4,5] (fun i _ wr=>∃k:Nat,k<=n/\i= .int .i64 k/\Hid ((xs.take k).Nodup)/\Below w.heap.size w wr) (fun i _ _=>n-(intOf i).toNat)
   case atStart=>exact⟨0,Nat.zero_le _,rfl,by simp[Hid],hB⟩
   case round=>
    clear hB;obtain⟨k,hk,rfl,HN,hB⟩:=hrel;by_cases hlt:k<n
    ·obtain⟨b,off,p,m,rfl,hb,a0,a2,a3⟩:=(HX.out.below hB rr).at_ hlt;have HK:=hI a0;clear a0 a2 a3;have b9:(k:Int)<(n:Int):=by omega
     obtain⟨wo,a5⟩:∃wo:World,wo=wr:=⟨_,rfl⟩;rw[←a5]at hB;have HB:=hI hB;clear hB;go_wp2
     go_loopw [5] (fun j wr=>∃i:Nat,i<=k/\j= .int .i64 i/\Hid ((p,m)∉xs.take i)/\Below w.heap.size w wr) (fun j _=>k-(intOf j).toNat)
     case atStart=>exact⟨0,Nat.zero_le _,rfl,by simp[Hid],by rw[←a5];exact HB.out⟩
     case round=>
      clear a5 HB;obtain⟨i,hi,rfl,HI,hB⟩:=hrel;by_cases hik:i<k
      ·obtain⟨b0,off0,p0,m0,e0,d6,a1,d2,b7⟩:=(HX.out.below hB rr).at_ hlt;cases e0;obtain⟨b1,off1,p1,m1,e1,a6,b4,b6,d3⟩:=(HX.out.below hB rr).at_ (show i<n by omega);cases e1;have e3:(p0,m0)=(p,m):=Option.some.inj (a1.symm.trans HK.out);cases e3;have b2:=hI b4;clear b4 a1;have d5:(i:Int)<(n:Int):=by omega
       have a8:Hid (¬(p=p1/\m=m1)->(p,m)∉xs.take (i+1)):=by
        intro hq;rw[Bb xs i _ b2.out,List.mem_append];rintro(h|h)
        ·exact HI.out h
        ·exact hq (by simpa using h)
       go_wp2;by_cases he:(p==p1 && m==m1)=true
       ·have d0:p=p1/\m=m1:=by simpa using he
        obtain⟨rfl,rfl⟩:=d0;have HR:Hid (B1 xs=6):=by show B1 xs=6;exact N8 a4.out b5.out hik HK.out b2.out
        go_quiet (fail)
        go_wp2;go_ret;exact⟨(by rw[HR.out];try rfl),bel⟩
       ·have b3:=hI (a8.out (by simpa using he));clear a8;by_cases h1:p=p1
        ·subst h1;have d4:(m==m1)=false:=by simpa using he
         clear he
         go_quiet (fail)
         go_wp2
         go_roundw
         case rel=>exact⟨i+1,by omega,by go_num,b3,bel⟩
         case measure=>simp[intOf];omega
        ·have d4:(p==p1)=false:=by simpa using h1
         clear he h1
         go_quiet (fail)
         go_wp2
         go_roundw
         case rel=>exact⟨i+1,by omega,by go_num,b3,bel⟩
         case measure=>simp[intOf];omega
      ·obtain rfl:i=k:=by omega
       have d1:=hI (Wj HK.out HN.out HI.out);go_wp2
       go_roundw
       case rel=>exact⟨i+1,by omega,by go_num,d1,hB⟩
       case measure=>simp[intOf];omega
    ·obtain rfl:n=k:=by omega
     have HR:Hid (B1 xs=0):=by
      have:=HN.out
      rw[List.take_of_length_le (by rw[HL.out];exact rr)]at this;exact Wi a4.out b5.out this
     go_wp2;go_ret;exact⟨(by rw[HR.out];try rfl),hB⟩
theorem Pi (A:Option Addr)(n c:Nat)(xs:List Co)(Aw:Option Addr)(nw cw:Nat)(ws:List Snd)(As:Option Addr)(ns cs:Nat)(ss:List Snd)(w:World)(hx:B4 w A n c xs)(hw:Ad w Aw nw cw ws)(hs:Ad w As ns cs ss)(hxu:Jj xs)(hwu:Bq ws)(hsu:Bq ss):
  Calls Tryz.prog 142 #[.slice A n c, .slice Aw nw cw, .slice As ns cs] w fun e w'=>e= .returned (.int .i64 (B7 (Ah xs) ws ss))/\Below w.heap.size w w':=by
 have HX:=hI hx;have HW:=hI hw;have HS:=hI hs;have a6:=hI hxu;have b0:=hI hwu;have a7:=hI hsu;clear hx hw hs hxu hwu hsu;go_enter Tryz.func142,Tryz.ntmps142;go_wp2_with fail;refine(V6 A n c xs w HX.out a6.out).mono ?_;rintro e w1 ⟨rfl,a3⟩;have a0:=hI a3;clear a3;by_cases h1:C5 (Ah xs)=0
 case neg=>
  have a9:(C5 (Ah xs)==0)=false:=by simpa using h1
  have HR:Hid (B7 (Ah xs) ws ss=C5 (Ah xs)):=by show B7 _ _ _=_;unfold B7;rw[if_pos h1]
  clear h1;go_wp2;go_ret;exact⟨(by rw[HR.out];try rfl),a0.out⟩
 have a9:(C5 (Ah xs)==0)=true:=by simpa using h1
 have a2:Hid (B7 (Ah xs) ws ss=if Bs ws≠0 then Bs ws else B1 ss):=by show B7 _ _ _=_;unfold B7;rw[if_neg (by simpa using h1)]
 clear h1;go_wp2_with fail;refine(Nl Aw nw cw ws w1 (HW.out.below a0.out rr) b0.out).mono ?_;rintro e w2 ⟨rfl,a5⟩;have a1:=hI (a0.out.trans (a5.mono a0.out.size));clear a5;by_cases h2:Bs ws=0
 case neg=>
  have b1:(Bs ws==0)=false:=by simpa using h2
  have HR:Hid (B7 (Ah xs) ws ss=Bs ws):=by show B7 _ _ _=_;rw[a2.out,if_pos h2]
  clear h2;go_wp2;go_ret;exact⟨(by rw[HR.out];try rfl),a1.out⟩
 have b1:(Bs ws==0)=true:=by simpa using h2
 have HR:Hid (B7 (Ah xs) ws ss=B1 ss):=by show B7 _ _ _=_;rw[a2.out,if_neg (by simpa using h2)]
 clear h2;go_wp2_with fail;refine(Xm As ns cs ss w2 (HS.out.below a1.out rr) a7.out).mono ?_;rintro e w3 ⟨rfl,a4⟩;have a8:=hI (a1.out.trans (a4.mono a1.out.size));clear a4;go_wp2;go_ret;exact⟨(by rw[HR.out];try rfl),a8.out⟩
def F1 (xs ys:List Snd):Int:=if Dc xs ys=true then-1 else if xs=ys then 0 else 1
theorem Ajj (xs ys:List Snd):decide (F1 xs ys<0)=Dc xs ys:=by
 unfold F1;by_cases h:Dc xs ys=true
 ·rw[if_pos h,h];rfl
 ·rw[if_neg h,Bool.eq_false_iff.2 h];split<;>rfl
theorem Adz (x:Snd)(a b:List Snd):F1 (x::a) (x::b)=F1 a b:=by
 unfold F1;have h1:Dc (x::a) (x::b)=Dc a b:=by show(if x=x then _ else _)=_;rw[if_pos rfl]
 rw[h1];simp
theorem Ajk {x y:Snd}{a b:List Snd}(h:Cw x y=true):F1 (x::a) (y::b)= -1:=by
 have a0:¬x=y:=fun e=>by rw[e,Cp.irr]at h;cases h
 unfold F1;have h1:Dc (x::a) (y::b)=true:=by show(if x=y then _ else _)=_;rw[if_neg a0];exact h
 rw[if_pos h1]
theorem Ajl {x y:Snd}{a b:List Snd}(h:Cw y x=true):F1 (x::a) (y::b)=1:=by
 have a0:¬x=y:=fun e=>by rw[e,Cp.irr]at h;cases h
 have hn:Cw x y=false:=by
  rw[Bool.eq_false_iff];intro h2
  have:=Cp.tr _ _ _ h h2
  rw[Cp.irr]at this;cases this
 unfold F1;have h1:Dc (x::a) (y::b)=false:=by show(if x=y then _ else _)=_;rw[if_neg a0];exact hn
 rw[h1,if_neg (by decide),if_neg (fun e=>a0 (by simpa using(List.cons.inj e).1))]
theorem Qw {α:Type}{l:List α}{j:Nat}{x:α}(h:l[j]? =some x):l.drop j=x::l.drop (j+1):=by
 obtain⟨hj,rfl⟩:=List.getElem?_eq_some_iff.1 h;exact List.drop_eq_getElem_cons hj
theorem Wa (p m p' m':Int)(w:World):Calls Tryz.prog 235 #[C6 p m,C6 p' m'] w fun e w'=>e= .returned (.bool (Cw (p,m) (p',m')))/\Below w.heap.size w w':=by
 by_cases h1:p<p'
 ·have HR:Hid (Cw (p,m) (p',m')=true):=by show Cw _ _=_;unfold Cw;simp[h1]
  go_enter Tryz.func235,Tryz.ntmps235;go_wp2;go_ret;exact⟨by rw[HR.out];rfl,bel⟩
 ·by_cases h2:p=p'
  ·subst h2;have h2:(p==p)=true:=by simp
   by_cases h3:m<m'
   ·have HR:Hid (Cw (p,m) (p,m')=true):=by show Cw _ _=_;unfold Cw;simp[h3]
    go_enter Tryz.func235,Tryz.ntmps235;go_wp2;go_ret;exact⟨by rw[HR.out];rfl,bel⟩
   ·have HR:Hid (Cw (p,m) (p,m')=false):=by show Cw _ _=_;unfold Cw;simp[h3]
    go_enter Tryz.func235,Tryz.ntmps235;go_wp2;go_ret;exact⟨by rw[HR.out];rfl,bel⟩
  ·have HR:Hid (Cw (p,m) (p',m')=false):=by show Cw _ _=_;unfold Cw;simp[h1,h2]
   have h3:(p==p')=false:=by simpa using h2
   clear h2;go_enter Tryz.func235,Tryz.ntmps235;go_wp2;go_ret;exact⟨by rw[HR.out];rfl,bel⟩
theorem Agk (A A':Option Addr)(n n' c c':Nat)(xs ys:List Snd)(w:World)(hx:Ad w A n c xs)(hy:Ad w A' n' c' ys):
  Calls Tryz.prog 205 #[.slice A n c, .slice A' n' c'] w fun e w'=>e= .returned (.int .i64 (F1 xs ys))/\Below w.heap.size w w':=by
 have hm:=hx.max;have d4:=hy.max;have a8:Hid (xs.length=n):=hx.len;have b1:Hid (ys.length=n'):=hy.len;have HX:=hI hx;clear hx;have HY:=hI hy;clear hy;go_enter Tryz.func205,Tryz.ntmps205;go_wp2
 go_loopw [5] (fun i wr=>∃k:Nat,k<=n/\k<=n'/\i= .int .i64 k/\Hid (F1 xs ys=F1 (xs.drop k) (ys.drop k))/\Below w.heap.size w wr) (fun i _=>n-(intOf i).toNat)
 case atStart=>exact⟨0,Nat.zero_le _,Nat.zero_le _,rfl,rfl,Below.refl _ _⟩
 case round=>
  obtain⟨k,hk,d3,rfl,HO,hB⟩:=hrel;have d0:=hB.size;by_cases hlt:k<n
  ·have d5:(k:Int)<(n:Int):=by omega
   by_cases hlt':k<n'
   ·have b0:(k:Int)<(n':Int):=by omega
    obtain⟨b,off,p,m,rfl,hb,b8,b5,b6⟩:=(HX.out.below hB rr).at_ hlt;obtain⟨b',off',p',m',rfl,b4,b7,a3,a4⟩:=(HY.out.below hB rr).at_ hlt';have b2:=hI (Qw b8);have b3:=hI (Qw b7);clear b8 b7;go_wp2;refine Bj (fun W'=>W'.cell? ⟨b,off+k*2,none⟩=some (.int .u32 p)/\W'.cell? ⟨b,off+k*2+1,none⟩=some (.int .u32 m)/\W'.cell? ⟨b',off'+k*2,none⟩=some (.int .u32 p')/\W'.cell? ⟨b',off'+k*2+1,none⟩=some (.int .u32 m')) (by kernel_rfl) ⟨b5,b6,a3,a4⟩ (fun hHeld=> ?_)
    (refine' Aa 0 rfl ?_;(try simp only[Act.put,nY,nX]));(refine' Aa 1 rfl ?_;(try simp only[Act.put,nY,nX]));(refine' Aa 2 rfl ?_;(try simp only[Act.put,nY,nX]));(refine' Aa 3 rfl ?_;(try simp only[Act.put,nY,nX]));(refine' Aa 4 rfl ?_;(try simp only[Act.put,nY,nX]));(refine' Aa 5 rfl ?_;(try simp only[Act.put,nY,nX]));(refine' Aa 6 rfl ?_;(try simp only[Act.put,nY,nX]));(refine' Aa 7 rfl ?_;(try simp only[Act.put,nY,nX]))
    clear b5 b6 a3 a4
    (refine Aqq 8 rfl (fun K' hK'=> ?_);simp only[nY];go_simp)
    refine(Wa p m p' m' _).mono ?_;rintro e w5 ⟨rfl,a6⟩;have a1:Below wr.heap.size wr w5:=(Below.refl wr.heap.size wr).drew.trans a6;obtain⟨q1,q2,q3,q4⟩:=hHeld;have q1':=(a1.cell (p:=⟨b,off+k*2,none⟩) hb).trans q1;have q2':=(a1.cell (p:=⟨b,off+k*2+1,none⟩) hb).trans q2;have q3':=(a1.cell (p:=⟨b',off'+k*2,none⟩) b4).trans q3;have q4':=(a1.cell (p:=⟨b',off'+k*2+1,none⟩) b4).trans q4;refine hK' _ _ ⟨.inr ⟨q1',q2',q3',q4'⟩,fun _=> ?_⟩
    clear hK' K' a6 q1 q2 q3 q4;have a7:Below w.heap.size w w5:=hB.trans (a1.mono d0);have d2:=a1.size
    (try simp only[Act.put,nY,nX])
    refine Be (by kernel_rfl) ?_ _;obtain⟨d,hd⟩:∃d,d=Cw (p,m) (p',m'):=⟨_,rfl⟩;rw[←hd]
    cases d with
    |true=>
     have HV:Hid (F1 xs ys= -1):=by show _=_;rw[HO.out,b2.out,b3.out];exact Ajk hd.symm
     clear hd;go_wp2;go_ret;exact⟨by rw[HV.out];rfl,a7⟩
    |false=>
     have HD:=hI hd;clear hd;go_wp2;have a9:b<w5.heap.size:=by omega
     have a0:b'<w5.heap.size:=by omega
     refine Bj (fun W'=>W'.cell? ⟨b,off+k*2,none⟩=some (.int .u32 p)/\W'.cell? ⟨b,off+k*2+1,none⟩=some (.int .u32 m)/\W'.cell? ⟨b',off'+k*2,none⟩=some (.int .u32 p')/\W'.cell? ⟨b',off'+k*2+1,none⟩=some (.int .u32 m')) (by kernel_rfl) ⟨q1',q2',q3',q4'⟩ (fun hHeld=> ?_)
     (refine' Aa 0 rfl ?_;(try simp only[Act.put,nY,nX]));(refine' Aa 1 rfl ?_;(try simp only[Act.put,nY,nX]));(refine' Aa 2 rfl ?_;(try simp only[Act.put,nY,nX]));(refine' Aa 3 rfl ?_;(try simp only[Act.put,nY,nX]));(refine' Aa 4 rfl ?_;(try simp only[Act.put,nY,nX]));(refine' Aa 5 rfl ?_;(try simp only[Act.put,nY,nX]));(refine' Aa 6 rfl ?_;(try simp only[Act.put,nY,nX]));(refine' Aa 7 rfl ?_;(try simp only[Act.put,nY,nX]))
     clear q1' q2' q3' q4'
     (refine Aqq 8 rfl (fun K' hK'=> ?_);simp only[nY];go_simp)
     refine(Wa p' m' p m _).mono ?_;rintro e w6 ⟨rfl,a5⟩;have a2:Below w5.heap.size w5 w6:=(Below.refl w5.heap.size w5).drew.trans a5;obtain⟨q1,q2,q3,q4⟩:=hHeld;refine hK' _ _ ⟨.inr ⟨(a2.cell (p:=⟨b,off+k*2,none⟩) a9).trans q1,(a2.cell (p:=⟨b,off+k*2+1,none⟩) a9).trans q2,(a2.cell (p:=⟨b',off'+k*2,none⟩) a0).trans q3,(a2.cell (p:=⟨b',off'+k*2+1,none⟩) a0).trans q4⟩,fun _=> ?_⟩
     clear hK' K' a5 q1 q2 q3 q4;have b9:Below w.heap.size w w6:=a7.trans (a2.mono a7.size);clear a2 a1 d2 a7 a9 a0
     (try simp only[Act.put,nY,nX])
     refine Be (by kernel_rfl) ?_ _;obtain⟨d,hd⟩:∃d,d=Cw (p',m') (p,m):=⟨_,rfl⟩;rw[←hd]
     cases d with
     |true=>
      have HV:Hid (F1 xs ys=1):=by show _=_;rw[HO.out,b2.out,b3.out];exact Ajl hd.symm
      clear hd;go_wp2;go_ret;exact⟨by rw[HV.out];rfl,b9⟩
     |false=>
      have d1:Hid (F1 xs ys=F1 (xs.drop (k+1)) (ys.drop (k+1))):=by
       have he:(p,m)=(p',m'):=Cp.tot _ _ HD.out.symm hd.symm;show _=_;rw[HO.out,b2.out,b3.out,he,Adz]
      clear hd HD;go_wp2
      go_roundw
      case rel=>exact⟨k+1,by omega,by omega,by go_num,d1,b9⟩
      case measure=>simp[intOf];omega
   ·obtain rfl:k=n':=by omega
    have HV:Hid (F1 xs ys=1):=by
     show _=_;obtain⟨y,hy⟩:∃y,xs[k]? =some y:=⟨xs[k]'(by rw[a8.out];omega),List.getElem?_eq_getElem _⟩;rw[HO.out,Qw hy,List.drop_of_length_le (l:=ys) (by rw[b1.out];omega)];rfl
    go_wp2;go_ret;exact⟨by rw[HV.out];rfl,hB⟩
  ·obtain rfl:k=n:=by omega
   by_cases hlt':k<n'
   ·have b0:(k:Int)<(n':Int):=by omega
    have HV:Hid (F1 xs ys= -1):=by
     show _=_;obtain⟨y,hy⟩:∃y,ys[k]? =some y:=⟨ys[k]'(by rw[b1.out];omega),List.getElem?_eq_getElem _⟩;rw[HO.out,Qw hy,List.drop_of_length_le (l:=xs) (by rw[a8.out];omega)];rfl
    go_wp2;go_ret;exact⟨by rw[HV.out];rfl,hB⟩
   ·obtain rfl:k=n':=by omega
    have HV:Hid (F1 xs ys=0):=by
     show _=_;rw[HO.out,List.drop_of_length_le (l:=xs) (by rw[a8.out];omega),List.drop_of_length_le (l:=ys) (by rw[b1.out];omega)];rfl
    go_wp2;go_ret;exact⟨by rw[HV.out];rfl,hB⟩
theorem Abw (A A':Option Addr)(n n' c c':Nat)(xs ys:List Snd)(w:World)(hx:Ad w A n c xs)(hy:Ad w A' n' c' ys):
  Calls Tryz.prog 169 #[.slice A n c, .slice A' n' c'] w fun e w'=>e= .returned (.bool (Cm xs ys))/\Below w.heap.size w w':=by
 have hm:=hx.max;have a2:=hy.max;have a1:Hid (xs.length=n):=hx.len;have a0:Hid (ys.length=n'):=hy.len;have HX:=hI hx;clear hx;have HY:=hI hy;clear hy;by_cases hn:n=n'
 ·subst hn;have HV:Hid (Cm xs ys=decide (F1 xs ys<0)):=by show _=_;rw[Ajj];unfold Cm;rw[a1.out,a0.out];simp
  have h1:((n:Int) !=(n:Int))=false:=by simp
  go_enter Tryz.func169,Tryz.ntmps169;go_wp2_with fail;refine(Agk A A' n n c c' xs ys w HX.out HY.out).mono ?_;rintro e w1 ⟨rfl,hB⟩;obtain⟨v,hv⟩:∃v,v=F1 xs ys:=⟨_,rfl⟩;rw[←hv]at HV ⊢;clear hv;go_wp2;go_ret;exact⟨by rw[HV.out];rfl,hB⟩
 ·have h1:((n:Int) !=(n':Int))=true:=by simp;omega
  have HV:Hid (Cm xs ys=decide (n<n')):=by
   show _=_;unfold Cm;rw[a1.out,a0.out,decide_eq_false hn,Bool.false_and,Bool.or_false]
  go_enter Tryz.func169,Tryz.ntmps169;go_wp2;go_ret;exact⟨by rw[HV.out];rfl,bel⟩
theorem Abu {xss:List (List Snd)}{k:Nat}{x ws:List Snd}(h:∀y∈xss.take k,Cm y ws=true)(hk:xss[k]? =some x)(hx:Cm x ws=true):∀y∈xss.take (k+1),Cm y ws=true:=by
 intro y hy;rw[Bb xss k x hk]at hy;rcases List.mem_append.1 hy with hy|hy
 ·exact h y hy
 ·obtain rfl:y=x:=by simpa using hy
  exact hx
theorem M3 {w:World}{A:Option Addr}{n c:Nat}{ps:List Part}(h:Bd w A n c 1 (ps.map Part.val)){k:Nat}(hk:k<=n):Bd w (if c=k then A else A.map (·.add k)) (n-k) (c-k) 1 ((ps.drop k).map Part.val):=by
 have:=Bd.drop h hk
 simp only[Nat.mul_one]at this;rwa[←List.map_drop]at this
theorem M4 {w:World}{A:Option Addr}{n c:Nat}{ps:List Part}(h:Bd w A n c 1 (ps.map Part.val)){k:Nat}(hk:k<=n):Bd w A k c 1 ((ps.take k).map Part.val):=by
 have:=Bd.take h hk
 rwa[Nat.mul_one,←List.map_take]at this
theorem Ajh (A:Option Addr)(n c:Nat)(xss:List (List Snd))(Aw:Option Addr)(nw cw:Nat)(ws:List Snd)(w:World)(hx:Bx w A n c xss)(hw:Ad w Aw nw cw ws)(hn:n<=4000):
  Calls Tryz.prog 124 #[.slice A n c, .slice Aw nw cw] w fun e w'=>∃A' n' c',e= .returned (.slice A' n' c')/\Bx w' A' n' c' (Hm Cm ws xss)/\Below w.heap.size w w':=by
 have hm:=hx.max;have d5:Hid (xss.length=n):=hx.len;have HX:=hI hx;obtain⟨ps,f3,f7,d9⟩:=hx;have g1:=hI f3;have HC:=hI f7;have f1:=hI d9;have HW:=hI hw;clear f3 f7 d9 hw
 have b5:Hid (∀(wx w':World) (A':Option Addr) (n' c' k:Nat) (v:Value),k<=n->(∀y∈xss.take k,Cm y ws=true)->(∀y,xss[k]? =some y->Cm y ws=false∧¬y=ws)->Below w.heap.size w wx->Below wx.heap.size wx w'→
   Bd w' A' n' c' 1 ((ps.take k++(Aw,nw,cw,ws)::ps.drop k).map Part.val)->Bx w' A' n' c' (Hm Cm ws xss)):=by
  intro wx w' A' n' c' k v hk h1 h2 hb g3 hc;have d8:=hb.trans (g3.mono hb.size)
  have he:(ps.take k++(Aw,nw,cw,ws)::ps.drop k).map Part.word=Hm Cm ws xss:=by
   rw[Zz ws xss k h1 (fun y hy=>(h2 y hy).1) (by rw[d5.out];exact hk),if_neg (fun h=>(h2 ws h).2 rfl),←g1.out,List.map_append,List.map_cons,List.map_take,List.map_drop];rfl
  rw[←he];refine Bx.mk hc fun p hp=> ?_
  rcases List.mem_append.1 hp with hp|hp
  ·exact(f1.out p (List.mem_of_mem_take hp)).below d8 rr
  ·rcases List.mem_cons.1 hp with rfl|hp
   ·exact HW.out.below d8 rr
   ·exact(f1.out p (List.mem_of_mem_drop hp)).below d8 rr
 go_enter Tryz.func124,Tryz.ntmps124;go_wp2
 go_loopw [5] (fun i wr=>∃k:Nat,i= .int .i64 k/\k<=n/\Hid (∀y∈xss.take k,Cm y ws=true)/\Below w.heap.size w wr) (fun i _=>n-(intOf i).toNat)
 case atStart=>exact⟨0,rfl,Nat.zero_le _,fun y hy=>by simp at hy,Below.refl _ _⟩
 case round=>
  obtain⟨k,rfl,hk,hS,hB⟩:=hrel;have f9:=hB.size;by_cases hlt:k<n
  ·obtain⟨b,off,A5,n5,c5,x5,f0,d4,f8,f4,f2⟩:=(HX.out.below hB rr).at_ hlt;have g6:(k:Int)<(n:Int):=by omega
   have HK:=hI f4;clear f4;have d6:=hI f2;clear f2;have g7:=hI f0;subst f0;go_wp2_with fail;refine(Abw A5 Aw n5 nw c5 cw x5 ws _ d6.out (HW.out.below hB rr)).mono ?_;rintro e w1 ⟨rfl,d1⟩;have d2:=hB.trans (d1.mono f9);have g4:=(d1.cell (p:=⟨b,off+k,none⟩) d4).trans f8;have g2:b<w1.heap.size:=Nat.lt_of_lt_of_le d4 d1.size;have f6:Hid (Ad w1 A5 n5 c5 x5):=d6.out.below d1 rr;clear d1 f8 d4 d6;obtain⟨d,hd⟩:∃d,d=Cm x5 ws:=⟨_,rfl⟩;rw[←hd]
   cases d with
   |true=>
    have g0:=hI (Abu hS.out HK.out hd.symm);clear hd;go_wp2
    go_roundw
    case rel=>exact⟨k+1,by go_num,by omega,g0,d2⟩
    case measure=>simp[intOf];omega
   |false=>
    have HD:=hI hd;clear hd;go_wp2_with fail;refine(Gp A5 Aw n5 nw c5 cw x5 ws _ f6.out (HW.out.below d2 rr)).mono ?_;rintro e w2 ⟨rfl,f5⟩;have b4:=d2.trans (f5.mono d2.size);clear f5 g4 g2 f6;by_cases he:x5=ws
    ·have HV:Hid (Hm Cm ws xss=xss):=by
      show _=_;rw[Zz ws xss k hS.out (fun y hy=>by rw[HK.out]at hy;injection hy with hy;rw[←hy];exact HD.out.symm) (by rw[d5.out];exact hk),if_pos (by rw[HK.out,he])]
     rw[decide_eq_true he];clear he;go_wp2;go_ret;exact⟨_,_,_,rfl,by rw[HV.out];exact HX.out.below b4 rr,b4⟩
    ·have H2:Hid (∀y,xss[k]? =some y->Cm y ws=false∧¬y=ws):=fun y hy=>by
      rw[HK.out]at hy;injection hy with hy;rw[←hy];exact⟨HD.out.symm,he⟩
     rw[decide_eq_false he];clear he;have b9:Hid (Bd w2 (some ⟨b,off,none⟩) k c 1 ((ps.take k).map Part.val)):=M4 (HC.out.below b4 rr) (by omega);have a8:World.ownsRow w2 (World.heap w2).size 32 1 (.slice none 0 0) 0 []:=World.ownsRow_nil _ _ _ _;have a2:=hI a8;clear a8;go_wp2_with(at_builtin;go_loud (refine D9 rfl (.tmp 34) (.tmp 37) rfl (World.heap w2).size (.slice none 0 0) 0 [] rfl a2.out _ k c (ps.take k) rfl b9.out (by omega) rr ?h6))
     case h6=>
      intro v6 w6 a4 b6 _;obtain⟨A6,c6,rfl⟩:=Bh a4;have b3:=hI ((Below.refl (World.heap w2).size w2).grown b6 rr (fun q hq=>(a2.out.lt q hq).1));have a3:=hI a4;clear b6 a4 b9 a2;have d7:=b3.out.size;go_wp2_with(at_builtin;go_loud (refine D9 rfl (.tmp 39) (.tmp 41) rfl _ _ _ _ rfl (a3.out.alloc _) (some ⟨w6.heap.size,0,none⟩) 1 1 [(Aw,nw,cw,ws)] rfl (Jd (Ak rfl)) (by omega) (by simp;omega) ?h8))
      case h8=>
       intro v8 w8 a5 b8 _;obtain⟨A8,c8,rfl⟩:=Bh a5;have b0:=hI ((b3.out.alloc b3.out.size (.cells #[.slice Aw nw cw] 32)).grown b8 (by simp;omega) (fun q hq=>(a3.out.lt q hq).1));have a1:=hI a5;clear b8 a5 b3 a3 d7;have d3:=b0.out.size
       have d0:Hid (Bd w8 (some ⟨b,off+k,none⟩) (n-k) (c-k) 1 ((ps.drop k).map Part.val)):=by
        have h:=M3 ((HC.out.below b4 rr).below b0.out rr) (k:=k) (by omega);rw[if_neg (by omega)]at h;show Bd _ _ _ _ _ _;simpa[Gm]using h
       have b7:¬c=k:=by omega
       go_wp2_with(at_builtin;go_loud (refine D9 rfl (.tmp 43) (.tmp 46) rfl _ _ _ _ rfl a1.out (some ⟨b,off+k,none⟩) (n-k) (c-k) (ps.drop k) rfl d0.out (by omega) (by omega) ?h10))
       case h10=>
        intro v10 w10 a0 a7 _;obtain⟨A10,c10,rfl⟩:=Bh a0;have a6:=hI (b0.out.grown a7 b0.out.size (fun q hq=>(a1.out.lt q hq).1))
        have a9:Hid (Bd w10 A10 (k+1+(n-k)) c10 1 ((ps.take k++(Aw,nw,cw,ws)::ps.drop k).map Part.val)):=by
         have h:=Bd.of_own a0 (by decide);show Bd _ _ _ _ _ _
         first|exact h|(simpa using h)
        have b1:=hI (b5.out w2 w10 A10 (k+1+(n-k)) c10 k (.slice A10 (k+1+(n-k)) c10) (by omega) hS.out H2.out b4 a6.out a9.out);have b2:Below w.heap.size w w10:=Below.trans b4 (a6.out.mono (Below.size b4));clear a7 a0 a1 b0 d3 a6 a9;go_wp2;go_ret;exact⟨A10,_,c10,rfl,b1.out,b2⟩
  ·obtain rfl:k=n:=by omega
   have H2:Hid (∀y,xss[k]? =some y->Cm y ws=false∧¬y=ws):=fun y hy=>by
    rw[List.getElem?_eq_none (by rw[d5.out];exact rr)]at hy;cases hy
   have b9:Hid (Bd wr A k c 1 ((ps.take k).map Part.val)):=M4 (HC.out.below hB rr) (by omega);have a8:World.ownsRow wr (World.heap wr).size 32 1 (.slice none 0 0) 0 []:=World.ownsRow_nil _ _ _ _;have a2:=hI a8;clear a8;go_wp2_with(at_builtin;go_loud (refine D9 rfl (.tmp 34) (.tmp 37) rfl (World.heap wr).size (.slice none 0 0) 0 [] rfl a2.out _ k c (ps.take k) rfl b9.out (by omega) rr ?h6))
   case h6=>
    intro v6 w6 a4 b6 _;obtain⟨A6,c6,rfl⟩:=Bh a4;have b3:=hI ((Below.refl (World.heap wr).size wr).grown b6 rr (fun q hq=>(a2.out.lt q hq).1));have a3:=hI a4;clear b6 a4 b9 a2;have d7:=b3.out.size;go_wp2_with(at_builtin;go_loud (refine D9 rfl (.tmp 39) (.tmp 41) rfl _ _ _ _ rfl (a3.out.alloc _) (some ⟨w6.heap.size,0,none⟩) 1 1 [(Aw,nw,cw,ws)] rfl (Jd (Ak rfl)) (by omega) (by simp;omega) ?h8))
    case h8=>
     intro v8 w8 a5 b8 _;obtain⟨A8,c8,rfl⟩:=Bh a5;have b0:=hI ((b3.out.alloc b3.out.size (.cells #[.slice Aw nw cw] 32)).grown b8 (by simp;omega) (fun q hq=>(a3.out.lt q hq).1));have a1:=hI a5;clear b8 a5 b3 a3 d7;have d3:=b0.out.size;by_cases b7:c=k
     ·have d0:Hid (Bd w8 A 0 0 1 ((ps.drop k).map Part.val)):=by
       have h:=M3 ((HC.out.below hB rr).below b0.out rr) (Nat.le_refl k);rw[if_pos b7,b7,Nat.sub_self]at h;exact h
      subst b7;go_wp2_with(at_builtin;go_loud (refine D9 rfl (.tmp 43) (.tmp 46) rfl _ _ _ _ rfl a1.out A 0 0 (ps.drop c) rfl d0.out (by omega) (by omega) ?h10))
      case h10=>
       obtain⟨k,g5⟩:∃k,k=c:=⟨_,rfl⟩;subst g5;intro v10 w10 a0 a7 _;obtain⟨A10,c10,rfl⟩:=Bh a0;have a6:=hI (b0.out.grown a7 b0.out.size (fun q hq=>(a1.out.lt q hq).1))
       have a9:Hid (Bd w10 A10 (k+1) c10 1 ((ps.take k++(Aw,nw,cw,ws)::ps.drop k).map Part.val)):=by
        have h:=Bd.of_own a0 (by decide);show Bd _ _ _ _ _ _
        first|exact h|(simpa using h)
       have b1:=hI (b5.out wr w10 A10 (k+1) c10 k (.slice A10 (k+1) c10) (by omega) hS.out H2.out hB a6.out a9.out);have b2:Below w.heap.size w w10:=Below.trans hB (a6.out.mono (Below.size hB));clear a7 a0 a1 b0 d3 a6 a9;go_wp2;go_ret;exact⟨A10,_,c10,rfl,b1.out,b2⟩
     ·have d0:Hid (Bd w8 (A.map (fun x:Addr=>x.add k)) 0 (c-k) 1 ((ps.drop k).map Part.val)):=by
       have h:=M3 ((HC.out.below hB rr).below b0.out rr) (Nat.le_refl k);rw[if_neg b7,Nat.sub_self]at h;exact h
      go_wp2_with(at_builtin;go_loud (refine D9 rfl (.tmp 43) (.tmp 46) rfl _ _ _ _ rfl a1.out _ 0 (c-k) (ps.drop k) rfl d0.out (by omega) (by omega) ?h10))
      case h10=>
       intro v10 w10 a0 a7 _;obtain⟨A10,c10,rfl⟩:=Bh a0;have a6:=hI (b0.out.grown a7 b0.out.size (fun q hq=>(a1.out.lt q hq).1))
       have a9:Hid (Bd w10 A10 (k+1) c10 1 ((ps.take k++(Aw,nw,cw,ws)::ps.drop k).map Part.val)):=by
        have h:=Bd.of_own a0 (by decide);show Bd _ _ _ _ _ _
        first|exact h|(simpa using h)
       have b1:=hI (b5.out wr w10 A10 (k+1) c10 k (.slice A10 (k+1) c10) (by omega) hS.out H2.out hB a6.out a9.out);have b2:Below w.heap.size w w10:=Below.trans hB (a6.out.mono (Below.size hB));clear a7 a0 a1 b0 d3 a6 a9;go_wp2;go_ret;exact⟨A10,_,c10,rfl,b1.out,b2⟩
theorem M5 {ls:List Bg}{w ss:List Snd}(h:B7 ls w ss=0):ss.length<=5/\ss.Nodup:=by
 have:=Cg (Dk h).2.2
 exact⟨this.1,this.2.2⟩
theorem Qv (A:Option Addr)(n c:Nat)(xs:List Co)(Aw:Option Addr)(nw cw:Nat)(ws:List Snd)(As:Option Addr)(ns cs:Nat)(ss:List Snd)(most:Int)(w:World)(hx:B4 w A n c xs)(hw:Ad w Aw nw cw ws)(hs:Ad w As ns cs ss)(hxu:Jj xs)(hwu:Bq ws)(hsu:Bq ss):
  Calls Tryz.prog 63 #[.slice A n c, .slice Aw nw cw, .slice As ns cs, .int .i64 most] w (Pc w (Et (Ah xs) ws ss most)):=by
 have HX:=hI hx;have HW:=hI hw;have HS:=hI hs;have b7:=hI hxu;have a8:=hI hsu;have b9:=hI hwu;clear hx hw hs hxu hsu hwu;go_enter Tryz.func63,Tryz.ntmps63;go_wp2_with fail;refine(Pi A n c xs Aw nw cw ws As ns cs ss w HX.out HW.out HS.out b7.out b9.out a8.out).mono ?_;rintro e w1 ⟨rfl,a1⟩;have a6:=a1.size;obtain⟨er,a2⟩:∃er,er=B7 (Ah xs) ws ss:=⟨_,rfl⟩;rw[←a2];by_cases h0:er=0
 case neg=>
  have h1:(er !=0)=true:=by simpa using h0
  have HM:Hid (Et (Ah xs) ws ss most=(er,[])):=by show _=_;unfold Et;rw[←a2,if_pos h0]
  clear h0 a2;go_wp2
  go_ret2
  exact⟨none,0,0,(by rw[HM.out];try rfl),by rw[HM.out];exact Bx.nil _,a1⟩
 have h1:(er !=0)=false:=by simpa using h0
 have b6:=hI (M5 (a2.symm.trans h0));have HM:Hid (Et (Ah xs) ws ss most=if most<0 then(3,[])else(0,(Cl (Ah xs) ws ss).take most.toNat)):=by show _=_;unfold Et;rw[←a2,if_neg (by simpa using h0)]
 clear h0 a2;by_cases h2:most<0
 ·have a0:Hid (Et (Ah xs) ws ss most=(3,[])):=by show _=_;rw[HM.out,if_pos h2]
  go_wp2
  go_ret2
  exact⟨none,0,0,(by rw[a0.out];try rfl),by rw[a0.out];exact Bx.nil _,a1⟩
 obtain⟨mo,rfl⟩:∃mo:Nat,most=mo:=⟨most.toNat,by omega⟩;have a0:Hid (Et (Ah xs) ws ss (mo:Int)=(0,(Cl (Ah xs) ws ss).take mo)):=by show _=_;rw[HM.out,if_neg h2,Int.toNat_natCast]
 clear HM;go_wp2_with fail;refine(To A n c xs Aw nw cw ws As ns cs ss w1 (HX.out.below a1 rr) (HW.out.below a1 rr) (HS.out.below a1 rr) b7.out a8.out b6.out.2 (by rw[←HS.out.len];exact b6.out.1)).mono ?_;rintro e w2 ⟨A2,n2,c2,ps,rfl,b3,b0,a3,a9,_,_,b4⟩;have b1:=a1.trans (b4.mono a6);have d1:n2<=c2/\c2<=9223372036854775807:=by have h1:=a3.2.1;have h2:=a3.2.2.1;unfold maxLen at h2;omega
 have a5:=hI b3;have b5:=hI a3;have b2:=hI a9;have d0:=hI b0;clear b3 a3 a9 b4 b0;by_cases hmo:n2<=mo
 ·have a7:min (n2:Int) (mo:Int)=(n2:Int):=by omega
  have a4:¬(mo:Int)<(n2:Int):=by omega
  go_wp2
  go_ret2
  refine⟨A2,n2,c2,(by rw[a0.out];try rfl), ?_,b1⟩;rw[a0.out,List.take_of_length_le (by rw[←a5.out,List.length_map,d0.out];exact hmo)];rw[←a5.out];exact Bx.mk b5.out b2.out
 ·have a7:min (n2:Int) (mo:Int)=(mo:Int):=by omega
  have a4:(mo:Int)<(n2:Int):=by omega
  have b8:mo<=n2:=by omega
  go_wp2
  go_ret2
  refine⟨A2,mo,c2,(by rw[a0.out];try rfl), ?_,b1⟩;rw[a0.out,←a5.out,←List.map_take];exact Bx.mk (M4 b5.out b8) (fun p hp=>b2.out p (List.mem_of_mem_take hp))
theorem Agi (x:Co)(Aw:Option Addr)(nw cw:Nat)(ws:List Snd)(As:Option Addr)(ns cs:Nat)(ss:List Snd)(most:Int)(w:World)(hx:Cv w x.l x.a)(hw:Ad w Aw nw cw ws)(hs:Ad w As ns cs ss)(hxu:Lb x.l)(hwu:Bq ws)(hsu:Bq ss):
  Calls Tryz.prog 44 #[C8 x.l x.a, .slice Aw nw cw, .slice As ns cs, .int .i64 most] w (Pc w (Et [x.l] ws ss most)):=by
 have HX:=hI hx;have HW:=hI hw;have HS:=hI hs;have a8:=hI hxu;have a6:=hI hwu;have a2:=hI hsu;clear hx hw hs hxu hwu hsu;obtain⟨Wb,b2,a5,b1,a0,b0⟩:=De w x.l x.a;have HL:=hI (HX.out.below a0 rr);go_enter Tryz.func44,Tryz.ntmps44;go_wp2_with(first|(refine Cn rfl (.tmp 4) rfl w.heap.size x.l x.a rfl a5 ?_)|(refine Vp rfl (.tmp 10) rfl x rfl HL.out ?hk))
 case hk=>
  intro X a1 hb a9 _;clear a9;have hB:Below w.heap.size w X:=a0.trans (hb.mono a0.size);have HB:=hI hB;have a3:=hI a1;clear a1 hb hB;go_wp2_with fail;refine(Qv _ 1 1 [x] Aw nw cw ws As ns cs ss most X a3.out (HW.out.below HB.out rr) (HS.out.below HB.out rr) (fun y hy=>by rw[List.mem_singleton.1 hy];exact a8.out) a6.out a2.out).mono ?_;rintro e X2 ⟨A9,n9,c9,rfl,a7,a4⟩;go_wp2;exact bodyPost_ret (v:= .tuple #[.slice A9 n9 c9, .int .i64 (Et [x.l] ws ss most).1]) (results_tmp2 Tryz.results44 _ _ _) rfl ⟨A9,n9,c9,rfl,a7,HB.out.trans (a4.mono HB.out.size)⟩
theorem Adw (A:Option Addr)(n c:Nat)(xs:List Co)(Aw:Option Addr)(nw cw:Nat)(ws:List Snd)(As:Option Addr)(ns cs:Nat)(ss:List Snd)(w:World)(hx:B4 w A n c xs)(hw:Ad w Aw nw cw ws)(hs:Ad w As ns cs ss)(hxu:Jj xs)(hwu:Bq ws)(hsu:Bq ss):
  Calls Tryz.prog 65 #[.slice A n c, .slice Aw nw cw, .slice As ns cs] w fun e w'=>e= .returned (.tuple #[.int .i64 (Fa (Ah xs) ws ss).2, .int .i64 (Fa (Ah xs) ws ss).1])/\Below w.heap.size w w':=by
 have HX:=hI hx;have HW:=hI hw;have HS:=hI hs;have a8:=hI hxu;have a3:=hI hsu;have b2:=hI hwu;clear hx hw hs hxu hsu hwu;go_enter Tryz.func65,Tryz.ntmps65;go_wp2_with fail;refine(Pi A n c xs Aw nw cw ws As ns cs ss w HX.out HW.out HS.out a8.out b2.out a3.out).mono ?_;rintro e w1 ⟨rfl,a0⟩;have a2:=a0.size;obtain⟨er,a1⟩:∃er,er=B7 (Ah xs) ws ss:=⟨_,rfl⟩;rw[←a1];by_cases h0:er=0
 case neg=>
  have h1:(er !=0)=true:=by simpa using h0
  have HM:Hid (Fa (Ah xs) ws ss=(er,0)):=by show _=_;unfold Fa;rw[←a1,if_pos h0]
  clear h0 a1;go_wp2
  go_ret2
  exact⟨(by rw[HM.out];try rfl),a0⟩
 have h1:(er !=0)=false:=by simpa using h0
 have a7:=hI (M5 (a1.symm.trans h0));have HM:Hid (Fa (Ah xs) ws ss=((0:Int),(((Cl (Ah xs) ws ss).length:Nat):Int))):=by show _=_;unfold Fa;rw[←a1,if_neg (by simpa using h0)]
 clear h0 a1;go_wp2_with fail;refine(To A n c xs Aw nw cw ws As ns cs ss w1 (HX.out.below a0 rr) (HW.out.below a0 rr) (HS.out.below a0 rr) a8.out a3.out a7.out.2 (by rw[←HS.out.len];exact a7.out.1)).mono ?_;rintro e w2 ⟨A2,n2,c2,ps,rfl,a5,a4,b1,a9,_,_,a6⟩;have b0:=a0.trans (a6.mono a2);have HN:Hid ((Cl (Ah xs) ws ss).length=n2):=by show _=_;rw[←a5,List.length_map,a4]
 clear a5 b1 a9 a6 a4;go_wp2
 go_ret2
 exact⟨(by rw[HM.out,HN.out];try rfl),b0⟩
theorem Pj (A:Option Addr)(n c:Nat)(xs:List Co)(As:Option Addr)(ns cs:Nat)(ss:List Snd)(k:Int)(w:World)(hx:B4 w A n c xs)(hs:Ad w As ns cs ss)(hxu:Jj xs)(hsu:Bq ss):
  Calls Tryz.prog 121 #[.slice A n c, .slice As ns cs, .int .i64 k] w fun e w'=>e= .returned (.int .i64 (C3 (Ah xs) ss k))/\Below w.heap.size w w':=by
 have HX:=hI hx;have HS:=hI hs;have a3:=hI hxu;have a4:=hI hsu;clear hx hs hxu hsu;go_enter Tryz.func121,Tryz.ntmps121;go_wp2_with fail;refine(Pi A n c xs none 0 0 [] As ns cs ss w HX.out (Bd.nil _ _) HS.out a3.out (fun s hs=>by cases hs) a4.out).mono ?_;rintro e w1 ⟨rfl,a2⟩;obtain⟨er,a0⟩:∃er,er=B7 (Ah xs) [] ss:=⟨_,rfl⟩;rw[←a0];by_cases h0:er=0
 case neg=>
  have h1:(er==0)=false:=by simpa using h0
  have HM:Hid (C3 (Ah xs) ss k=er):=by show _=_;unfold C3;rw[←a0,if_pos h0]
  clear h0 a0;go_wp2;go_ret;exact⟨(by rw[HM.out];try rfl),a2⟩
 have h1:(er==0)=true:=by simpa using h0
 have HM:Hid (C3 (Ah xs) ss k=if k<0\/4<k then 3 else 0):=by show _=_;unfold C3;rw[←a0,if_neg (by simpa using h0)]
 by_cases h2:k<0
 ·have a1:Hid (C3 (Ah xs) ss k=3):=by show _=_;rw[HM.out,if_pos (.inl h2)]
  clear h0 a0 HM;go_wp2;go_ret;exact⟨(by rw[a1.out];try rfl),a2⟩
 ·by_cases h3:4<k
  ·have a1:Hid (C3 (Ah xs) ss k=3):=by show _=_;rw[HM.out,if_pos (.inr h3)]
   clear h0 a0 HM;go_wp2;go_ret;exact⟨(by rw[a1.out];try rfl),a2⟩
  ·have a1:Hid (C3 (Ah xs) ss k=0):=by show _=_;rw[HM.out,if_neg (by omega)]
   subst h0;clear a0 HM;go_wp2;go_ret;exact⟨(by rw[a1.out];try rfl),a2⟩
structure Aiw (w:World)(p:Prop)(e:Ending)(w':World):Prop where
 ex:∃b:Bool,e= .returned (.bool b)/\(b=true->p)/\Below w.heap.size w w'
theorem Af7 (A:Option Addr)(n c:Nat)(xs:List Co)(w:World)(hx:B4 w A n c xs):
  Calls Tryz.prog 58 #[.slice A n c] w (Aiw w (n<=70)):=by
 have hm:=hx.max;have HX:=hI hx;clear hx;have d4:n<=c:=hm.1;go_enter Tryz.func58,Tryz.ntmps58;go_wp2_with fail
 go_loopw [3,12] (fun vm vi wr=>∃(j:Nat) (m:Int),vi= .int .i64 j/\vm= .int .i64 m/\j<=n/\j<=71/\Below w.heap.size w wr) (fun _ vi _=>n-(intOf vi).toNat)
 case atStart=>exact⟨0,0,rfl,rfl,Nat.zero_le _,by omega,Below.refl _ _⟩
 case round=>
  obtain⟨j,m,rfl,rfl,hj,b9,hB⟩:=hrel;have b2:=hB.size;by_cases hlt:(j:Int)<min (n:Int) 71
  ·have b8:j<n:=by omega
   obtain⟨s,hs⟩:=HX.out.get b8;obtain⟨b,off,rfl,d1,b6⟩:=(HX.out.below hB rr).at_ hs;have b7:=(HX.out.below hB rr).2 s (List.mem_of_getElem? hs);have d0:=hI b6;clear b6;have a8:=hI b7;clear b7 hs;go_wp2_with(first|(refine Rw rfl (.tmp 14) rfl b (off+j*18) s rfl d0.out ?_)|(refine Lp rfl (.tmp 5) (.tmp 15) rfl wr.heap.size s.l s.a rfl rfl (t:=34) (Ak rfl) rfl ?hs))
   case hs=>
    intro W g1 g2 g3;have a7:Below wr.heap.size wr W:=((Below.refl wr.heap.size wr).alloc rr _).trans (g2.to_below (fun k hk=>by omega) (by simp));obtain⟨bl,a1⟩:∃bl,bl=wr.heap.size:=⟨_,rfl⟩;rw[←a1]at g1 ⊢;clear a1 g2 g3;have b5:=hI (hB.trans (a7.mono b2));have b0:=hI (a8.out.below a7 rr);have HG:=hI g1;clear g1 a7;go_wp2;refine Bj (fun W'=>W'.rangeAt bl 1 (B6 s.l.left.1 s.a.Al s.l.left.2.len s.a.cl)/\W'.rangeAt bl 8 (B6 s.l.right.1 s.a.Ar s.l.right.2.len s.a.cr)) (by kernel_rfl) ⟨Gs HG.out,Ge HG.out⟩ (fun hHeld=> ?_)
    (refine' Aa 0 rfl ?_;(try simp only[Act.put,nY,nX]));(refine' Aa 1 rfl ?_;(try simp only[Act.put,nY,nX]));(refine' Aa 4 rfl ?_;(try simp only[Act.put,nY,nX]))
    (refine' Ct (i:=2) (v:=Em s.l.left.1 s.a.Al s.l.left.2.len s.a.cl) rfl (by kernel_rfl) (by kernel_rfl) (by kernel_rfl) (by kernel_rfl) (fun _ _ _ h=>h) (Hv (by rfl) (.tmp 17) rfl bl 1 _ _ _ _ (by rfl) (fun _ h=>h.1)) (by assumption) ?_;(try simp only[Act.put,nY,nX]))
    (refine' Ct (i:=5) (v:=Em s.l.right.1 s.a.Ar s.l.right.2.len s.a.cr) rfl (by kernel_rfl) (by kernel_rfl) (by kernel_rfl) (by kernel_rfl) (fun _ _ _ h=>h) (Hv (by rfl) (.tmp 20) rfl bl 8 _ _ _ _ (by rfl) (fun _ h=>h.2)) (by assumption) ?_;(try simp only[Act.put,nY,nX]))
    (refine Aqq 3 rfl (fun K' hK'=> ?_);simp only[nY];go_simp)
    refine(Wn s.l.left.1 s.l.left.2 _ _ _ _ (b0.out.1.below (B:=W.heap.size) ((Below.refl W.heap.size W).drew) rr)).mono ?_;rintro e w1 ⟨⟨m1,rfl⟩,a2⟩;have a6:Below W.heap.size W w1:=(Below.refl W.heap.size W).drew.trans a2;have a5:=hI ((a6.block bl (lt_of_block HG.out)).trans HG.out);have b1:=hI (b0.out.2.1.below a6 rr);have b3:=hI (b5.out.trans (a6.mono b5.out.size));refine hK' _ _ ⟨.inr ⟨Gs a5.out,Ge a5.out⟩,fun _=> ?_⟩
    clear hK' K' a6 a2 hHeld
    (try simp only[Act.put,nY,nX])
    (refine Aqq 6 rfl (fun K' hK'=> ?_);simp only[nY];go_simp)
    refine(Wn s.l.right.1 s.l.right.2 _ _ _ _ b1.out).mono ?_;rintro e w2 ⟨⟨m2,rfl⟩,a0⟩;have a9:=hI ((a0.block bl (lt_of_block a5.out)).trans a5.out);have a4:=hI (b3.out.trans (a0.mono b3.out.size));have a3:w2.rangeAt bl 1 (B6 s.l.left.1 s.a.Al s.l.left.2.len s.a.cl)/\w2.rangeAt bl 8 (B6 s.l.right.1 s.a.Ar s.l.right.2.len s.a.cr):=⟨Gs a9.out,Ge a9.out⟩;refine hK' _ _ ⟨.inr a3,fun _=> ?_⟩
    clear hK' K' a0
    (try simp only[Act.put,nY,nX])
    (refine Aqq 7 rfl (fun K' hK'=> ?_);simp only[nY];go_simp)
    refine hK' _ _ ⟨.inr a3,fun _=> ?_⟩
    clear hK' K'
    (try simp only[Act.put,nY,nX])
    (refine Aqq 8 rfl (fun K' hK'=> ?_);simp only[nY];go_simp)
    refine hK' _ _ ⟨.inr a3,fun _=> ?_⟩
    clear hK' K'
    (try simp only[Act.put,nY,nX])
    (refine Aqq 9 rfl (fun K' hK'=> ?_);simp only[nY];go_simp)
    refine hK' _ _ ⟨.inr a3,fun _=> ?_⟩
    clear hK' K'
    (try simp only[Act.put,nY,nX])
    (refine Aqq 10 rfl (fun K' hK'=> ?_);simp only[nY];go_simp)
    refine hK' _ _ ⟨.inl (by kernel_rfl),fun _=>Be (by kernel_rfl) ?_ _⟩
    clear hK' K' a3;obtain⟨e0,d2,d3,_⟩:=B3 a9.out;have d5:=b0.out.2.2.2.2;by_cases q1:(1000:Int)<(s.l.name.size:Int)
    ·go_wp2;go_ret;exact⟨⟨_,rfl,by simp,a4.out⟩⟩
    by_cases q2:(50:Int)<(s.l.ifs.length:Int)
    ·go_wp2;go_ret;exact⟨⟨_,rfl,by simp,a4.out⟩⟩
    by_cases q3:(50:Int)<(s.l.outs.length:Int)
    ·go_wp2;go_ret;exact⟨⟨_,rfl,by simp,a4.out⟩⟩
    go_wp2
    go_roundw
    case rel=>first|exact⟨j+1,_,by go_num,rfl,by omega,by omega,a4.out⟩|((repeat apply Exists.intro);exact⟨⟨j+1,_,by go_num,rfl,by omega,by omega,a4.out⟩,rfl⟩)
    case measure=>simp[intOf];omega
  ·by_cases h70:(n:Int)<=70
   ·by_cases h60:m<=60
    ·go_wp2_with fail;refine(Ans A n c xs wr (HX.out.below hB rr)).mono ?_;rintro e w2 ⟨⟨m2,rfl⟩,a0⟩;have b4:=hB.trans (a0.mono b2);clear a0;by_cases h4:m2<=4
     ·go_wp2;go_ret;exact⟨⟨_,rfl,fun _=>by omega,b4⟩⟩
     ·go_wp2;go_ret;exact⟨⟨_,rfl,fun _=>by omega,b4⟩⟩
    ·go_wp2;go_ret;exact⟨⟨_,rfl,fun _=>by omega,hB⟩⟩
   ·go_wp2;go_ret;exact⟨⟨_,rfl,by simp,hB⟩⟩
theorem Km (A:Option Addr)(n c:Nat)(xs:List Co)(Aw:Option Addr)(nw cw:Nat)(ws:List Snd)(As:Option Addr)(ns cs:Nat)(ss:List Snd)(long:Nat)(w:World)(hx:B4 w A n c xs)(hw:Ad w Aw nw cw ws)(hs:Ad w As ns cs ss)(hl:long<=6):
  Calls Tryz.prog 41 #[.slice A n c, .slice Aw nw cw, .slice As ns cs, .int .i64 long] w (Aiw w (n<=70/\nw<=50/\ns<=20)):=by
 have hm:=hx.max;have d2:=hw.max;have d4:=hs.max;have HX:=hI hx;clear hx hw hs;have d6:n<=c:=hm.1;go_enter Tryz.func41,Tryz.ntmps41;go_wp2_with fail;refine(Af7 A n c xs w HX.out).mono ?_;rintro e w1 ⟨⟨b0,rfl,a3,a0⟩⟩
 cases b0 with
 |false=>
  go_wp2;go_ret;exact⟨⟨_,rfl,by simp,a0⟩⟩
 |true=>
  have d5:=a3 rfl;clear a3;by_cases h50:(50:Int)<(nw:Int)
  ·go_wp2;go_ret;exact⟨⟨_,rfl,by simp,a0⟩⟩
  by_cases h20:(20:Int)<(ns:Int)
  ·go_wp2;go_ret;exact⟨⟨_,rfl,by simp,a0⟩⟩
  by_cases h64:(64:Int)<(n:Int)
  ·go_wp2;go_ret;exact⟨⟨_,rfl,fun _=>by omega,a0⟩⟩
  by_cases h5:(5:Int)<(ns:Int)
  ·go_wp2;go_ret;exact⟨⟨_,rfl,fun _=>by omega,a0⟩⟩
  go_wp2_with fail
  go_loopw [9,37] (fun vm vi wr=>∃(j:Nat) (m:Int),vi= .int .i64 j/\vm= .int .i64 m/\j<=n/\Below w.heap.size w wr) (fun _ vi _=>n-(intOf vi).toNat)
  case atStart=>exact⟨0,1,rfl,rfl,Nat.zero_le _,a0⟩
  case round=>
   clear a0;obtain⟨j,m,rfl,rfl,hj,hB⟩:=hrel;have b9:=hB.size;by_cases hlt:(j:Int)<(n:Int)
   ·have d0:j<n:=by omega
    obtain⟨s,hs⟩:=HX.out.get d0;obtain⟨b,off,rfl,d3,b8⟩:=(HX.out.below hB rr).at_ hs;have b5:=(HX.out.below hB rr).2 s (List.mem_of_getElem? hs);have d1:=hI b8;clear b8;have a8:=hI b5;clear b5 hs;go_wp2_with(first|(refine Rw rfl (.tmp 39) rfl b (off+j*18) s rfl d1.out ?_)|(refine Lp rfl (.tmp 11) (.tmp 40) rfl wr.heap.size s.l s.a rfl rfl (t:=34) (Ak rfl) rfl ?hs))
    case hs=>
     intro W g1 g2 g3;have a7:Below wr.heap.size wr W:=((Below.refl wr.heap.size wr).alloc rr _).trans (g2.to_below (fun k hk=>by omega) (by simp));obtain⟨bl,a1⟩:∃bl,bl=wr.heap.size:=⟨_,rfl⟩;rw[←a1]at g1 ⊢;clear a1 g2 g3;have b7:=hI (hB.trans (a7.mono b9));have b4:=hI (a8.out.below a7 rr);have HG:=hI g1;clear g1 a7;go_wp2;refine Bj (fun W'=>W'.rangeAt bl 1 (B6 s.l.left.1 s.a.Al s.l.left.2.len s.a.cl)/\W'.rangeAt bl 8 (B6 s.l.right.1 s.a.Ar s.l.right.2.len s.a.cr)) (by kernel_rfl) ⟨Gs HG.out,Ge HG.out⟩ (fun hHeld=> ?_)
     (refine' Aa 0 rfl ?_;(try simp only[Act.put,nY,nX]));(refine' Aa 1 rfl ?_;(try simp only[Act.put,nY,nX]));(refine' Aa 4 rfl ?_;(try simp only[Act.put,nY,nX]))
     (refine' Ct (i:=2) (v:=Em s.l.left.1 s.a.Al s.l.left.2.len s.a.cl) rfl (by kernel_rfl) (by kernel_rfl) (by kernel_rfl) (by kernel_rfl) (fun _ _ _ h=>h) (Hv (by rfl) (.tmp 42) rfl bl 1 _ _ _ _ (by rfl) (fun _ h=>h.1)) (by assumption) ?_;(try simp only[Act.put,nY,nX]))
     (refine' Ct (i:=5) (v:=Em s.l.right.1 s.a.Ar s.l.right.2.len s.a.cr) rfl (by kernel_rfl) (by kernel_rfl) (by kernel_rfl) (by kernel_rfl) (fun _ _ _ h=>h) (Hv (by rfl) (.tmp 45) rfl bl 8 _ _ _ _ (by rfl) (fun _ h=>h.2)) (by assumption) ?_;(try simp only[Act.put,nY,nX]))
     (refine Aqq 3 rfl (fun K' hK'=> ?_);simp only[nY];go_simp)
     refine(Wn s.l.left.1 s.l.left.2 _ _ _ _ (b4.out.1.below (B:=W.heap.size) ((Below.refl W.heap.size W).drew) rr)).mono ?_;rintro e w1 ⟨⟨m1,rfl⟩,a2⟩;have a6:Below W.heap.size W w1:=(Below.refl W.heap.size W).drew.trans a2;have a5:=hI ((a6.block bl (lt_of_block HG.out)).trans HG.out);have b1:=hI (b4.out.2.1.below a6 rr);have b2:=hI (b7.out.trans (a6.mono b7.out.size));refine hK' _ _ ⟨.inr ⟨Gs a5.out,Ge a5.out⟩,fun _=> ?_⟩
     clear hK' K' a6 a2 hHeld
     (try simp only[Act.put,nY,nX])
     (refine Aqq 6 rfl (fun K' hK'=> ?_);simp only[nY];go_simp)
     refine(Wn s.l.right.1 s.l.right.2 _ _ _ _ b1.out).mono ?_;rintro e w2 ⟨⟨m2,rfl⟩,a9⟩;have b3:=hI ((a9.block bl (lt_of_block a5.out)).trans a5.out);have b6:=hI (b2.out.trans (a9.mono b2.out.size));have a4:w2.rangeAt bl 1 (B6 s.l.left.1 s.a.Al s.l.left.2.len s.a.cl)/\w2.rangeAt bl 8 (B6 s.l.right.1 s.a.Ar s.l.right.2.len s.a.cr):=⟨Gs b3.out,Ge b3.out⟩;refine hK' _ _ ⟨.inr a4,fun _=> ?_⟩
     clear hK' K' a9
     (try simp only[Act.put,nY,nX])
     (refine Aqq 7 rfl (fun K' hK'=> ?_);simp only[nY];go_simp)
     refine hK' _ _ ⟨.inr a4,fun _=> ?_⟩
     clear hK' K'
     (try simp only[Act.put,nY,nX])
     (refine Aqq 8 rfl (fun K' hK'=> ?_);simp only[nY];go_simp)
     refine hK' _ _ ⟨.inr a4,fun _=> ?_⟩
     clear hK' K'
     (try simp only[Act.put,nY,nX])
     (refine Aqq 9 rfl (fun K' hK'=> ?_);simp only[nY];go_simp)
     refine hK' _ _ ⟨.inr a4,fun _=> ?_⟩
     clear hK' K'
     (try simp only[Act.put,nY,nX])
     (refine Aqq 10 rfl (fun K' hK'=> ?_);simp only[nY];go_simp)
     refine hK' _ _ ⟨.inl (by kernel_rfl),fun _=>Be (by kernel_rfl) ?_ _⟩
     clear hK' K' a4;go_wp2
     go_roundw
     case rel=>first|exact⟨j+1,_,by go_num,rfl,by omega,b6.out⟩|((repeat apply Exists.intro);exact⟨⟨j+1,_,by go_num,rfl,by omega,b6.out⟩,rfl⟩)
     case measure=>simp[intOf];omega
   ·go_wp2_with fail
    go_loopw [12,13,54] (fun va vb vi wr2=>∃(i:Nat) (x y:Int),vi= .int .i64 i/\va= .int .i64 x/\vb= .int .i64 y/\i<=long+1/\wr2=wr) (fun _ _ vi _=>long+1-(intOf vi).toNat)
    case atStart=>exact⟨0,0,1,rfl,rfl,rfl,Nat.zero_le _,rfl⟩
    case round=>
     obtain⟨i,x,y,rfl,rfl,rfl,hi,rfl⟩:=hrel;by_cases hil:(i:Int)<(long:Int)+1
     ·go_wp2
      go_roundw
      case rel=>exact⟨i+1,_,_,by go_num,rfl,rfl,by omega,trivial⟩
      case measure=>simp[intOf];omega
     ·go_wp2;go_ret;exact⟨⟨_,rfl,fun _=>by omega,hB⟩⟩
end Go.Proofs.YtlgliddhideflaaGreatDoor
