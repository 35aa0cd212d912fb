/-
  ablautlaw11.InverseImages is true.
-/
import Derived.Test.YtlgliddhideflaaGreatDoorXWk11
import Derived.Test.YtlgliddhideflaaGreatDoorH11
set_option linter.all false
set_option maxRecDepth 100000
set_option maxHeartbeats 4000000
namespace Go.Proofs.YtlgliddhideflaaGreatDoor
open Go.RowKit Go.Shelf
theorem D5.below' {w w':World}{A:Option Addr}{n c:Nat}{ss:List Cf}(h:D5 w A n c ss)(hb:Below w.heap.size w w'):D5 w' A n c ss:=
 ⟨h.1.below hb rr,fun s hs=>⟨(h.2 s hs).1.below hb rr,(h.2 s hs).2.below hb rr⟩⟩
theorem Akm (A:Option Addr)(n c:Nat)(xs:List Co)(As:Option Addr)(ns cs:Nat)(ss:List Snd)(k:Int)(w:World)(hx:B4 w A n c xs)(hs:Ad w As ns cs ss)(hT:Cq w)(hxu:Jj xs)(hsu:Bq ss):
  Calls Tryz.prog 6 #[.slice A n c, .slice As ns cs, .int .i64 k] w (Ks w):=by
 have HX:=hI hx;have HS:=hI hs;have HT:=hI hT;have f3:=hI hxu;have b5:=hI hsu;clear hx hs hT hxu hsu;go_enter Tryz.func6,Tryz.ntmps6;go_wp2_with fail;refine(Km A n c xs none 0 0 [] As ns cs ss 4 w HX.out (Bd.nil _ _) HS.out (by omega)).mono ?_;rintro e w1 ⟨b,rfl,f5,a0⟩;clear f5
 cases b with
 |false=>
  go_wp2_with fail;refine(Gj _ (HT.out.below a0 rr)).mono ?_;rintro e wz ⟨rfl,b6⟩;go_wp2;go_ret;exact⟨rfl,a0.trans (b6.mono a0.size)⟩
 |true=>
  go_wp2_with fail;refine(Ae2 A n c xs As ns cs ss k w1 (HX.out.below a0 rr) (HS.out.below a0 rr) (HT.out.below a0 rr)).mono ?_;obtain⟨q,hq⟩:∃q,q=F9 (Ah xs) ss k:=⟨_,rfl⟩;rw[←hq];have HQ:=hI hq;clear hq;rintro e w4 ⟨A4,n4,c4,rfl,d9,d7⟩;have b1:=a0.trans (d7.mono a0.size);have d0:=hI d9;clear d9 d7;go_wp2_with fail;refine(Adx A n c xs As ns cs ss k w4 (HX.out.below b1 rr) (HS.out.below b1 rr) f3.out b5.out).mono ?_;rw[←HQ.out];rintro e w5 ⟨A5,n5,c5,rfl,d5,b7⟩;have a8:=b1.trans (b7.mono b1.size);have a3:=hI (d0.out.below b7 rr);have d2:=hI d5;clear d5 b7 d0;go_wp2_with fail;refine(Aix A n c xs As ns cs ss k w5 (HX.out.below a8 rr) (HS.out.below a8 rr) (HT.out.below a8 rr) b5.out).mono ?_;obtain⟨m,hm⟩:∃m,m=Kl (Ah xs) ss k:=⟨_,rfl⟩;rw[←hm];have HM:=hI hm;clear hm;rintro e w6 ⟨A6,n6,c6,ps6,rfl,f0,f1,b4⟩;have b3:=a8.trans (b4.mono a8.size);have a6:=hI (a3.out.below b4 rr);have a7:=hI (d2.out.below b4 rr);have d6:=hI f1;have f4:=hI f0;clear b4 f1 f0 a3 d2;go_wp2_with fail;refine(Agj A n c xs As ns cs ss k w6 (HX.out.below b3 rr) (HS.out.below b3 rr) f3.out b5.out).mono ?_;rw[←HM.out];rintro e w7 ⟨A7,n7,c7,ps7,rfl,d1,d4,a4⟩;have d8:=b3.trans (a4.mono b3.size);have b0:=hI (a6.out.below a4 rr);have a9:=hI (a7.out.below a4 rr);have a5:=hI (d6.out.below' a4);have d3:=hI d4;have f6:=hI d1;clear a4 d4 d1 a6 a7 d6;go_wp2_with fail;refine(Rg A4 A5 n4 n5 c4 c5 q.2 q.2 w7 b0.out a9.out).mono ?_;rw[decide_eq_true rfl];rintro e w9 ⟨rfl,b2⟩;have f2:=d8.trans (b2.mono d8.size);have b9:=hI (a5.out.below' b2);have b8:=hI (d3.out.below' b2);clear b2 b0 a9 a5 d3;have f8:(q.1==q.1)=true:=by simp
  have f7:(m.1==m.1)=true:=by simp
  go_wp2_with fail;refine(Wp A6 A7 n6 n7 c6 c7 ps6 ps7 w9 b9.out b8.out (f4.out.trans f6.out.symm)).mono ?_;rintro e w10 ⟨rfl,a2⟩;have a1:=f2.trans (a2.mono f2.size);clear a2;go_wp2_with fail;refine(Gj _ (HT.out.below a1 rr)).mono ?_;rintro e wz ⟨rfl,b6⟩;go_wp2;go_ret;exact⟨rfl,a1.trans (b6.mono a1.size)⟩
theorem Ahj (A:Option Addr)(n c:Nat)(xs:List Co)(As:Option Addr)(ns cs:Nat)(ss:List Snd)(k:Int)(w:World)(hx:B4 w A n c xs/\Jj xs)(hs:Ad w As ns cs ss/\Bq ss)(hT:Cq w):
  Calls Tryz.prog 6 #[.slice A n c, .slice As ns cs, .int .i64 k] w (Ks w):=
 Akm A n c xs As ns cs ss k w hx.1 hs.1 hT hx.2 hs.2
end Go.Proofs.YtlgliddhideflaaGreatDoor
