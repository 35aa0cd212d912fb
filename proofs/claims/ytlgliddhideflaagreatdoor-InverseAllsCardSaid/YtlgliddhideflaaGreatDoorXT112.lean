/-
  ablautlaw11.InverseAlls is true.
-/
import Derived.Test.YtlgliddhideflaaGreatDoorXWk11
import Derived.Test.YtlgliddhideflaaGreatDoorH09
import Derived.Test.YtlgliddhideflaaGreatDoorH10
set_option linter.all false
set_option maxRecDepth 100000
set_option maxHeartbeats 4000000
namespace Go.Proofs.YtlgliddhideflaaGreatDoor
open Go.RowKit Go.Shelf
theorem Tr (ls:List Bg)(w ss:List Snd):(Hh ls w ss).1=(Fa ls w ss).1/\(Hh ls w ss).2=decide (0<(Fa ls w ss).2):=by
 unfold Hh Fa;split
 ·exact⟨rfl,rfl⟩
 ·refine⟨rfl, ?_⟩
  cases h:Cl ls w ss with
  |nil=>simp
  |cons a l=>simp
theorem An2 (A:Option Addr)(n c:Nat)(xs:List Co)(Aw:Option Addr)(nw cw:Nat)(ws:List Snd)(As:Option Addr)(ns cs:Nat)(ss:List Snd)(most:Int)(w:World)(hx:B4 w A n c xs)(hw:Ad w Aw nw cw ws)(hs:Ad w As ns cs ss)(hT:Cq w)(hxu:Jj xs)(hwu:Bq ws)(hsu:Bq ss):
  Calls Tryz.prog 10 #[.slice A n c, .slice Aw nw cw, .slice As ns cs, .int .i64 most] w (Ks w):=by
 have HX:=hI hx;have HW:=hI hw;have HS:=hI hs;have HT:=hI hT;have g0:=hI hxu;have f3:=hI hwu;have g9:=hI hsu;clear hx hw hs hT hxu hwu hsu;go_enter Tryz.func10,Tryz.ntmps10;go_wp2_with fail;refine(Km A n c xs Aw nw cw ws As ns cs ss 6 w HX.out HW.out HS.out (by omega)).mono ?_;rintro e w1 ⟨b,rfl,f8,a8⟩;have i2:=hI f8;clear f8
 cases b with
 |false=>
  go_wp2_with fail;refine(Gj _ (HT.out.below a8 rr)).mono ?_;rintro e wz ⟨rfl,d1⟩;go_wp2;go_ret;exact⟨rfl,a8.trans (d1.mono a8.size)⟩
 |true=>
  obtain⟨-,i8,i4⟩:=i2.out rfl;go_wp2_with fail;refine(Ml Aw nw cw ws w1 (HW.out.below a8 rr) (by omega)).mono ?_;rintro e w2 ⟨Av,nv,cv,rfl,hv,g5,_⟩;have d9:=a8.trans (g5.mono a8.size);have HV:=hI hv;clear hv g5;go_wp2_with fail;refine(Ml As ns cs ss w2 (HS.out.below d9 rr) (by omega)).mono ?_;rintro e w3 ⟨Au,nu,cu,rfl,hu,d8,_⟩;have a3:=d9.trans (d8.mono d9.size);have f5:=hI (HV.out.below d8 rr);have i1:=hI hu;clear hu d8 HV;go_wp2_with fail;refine(Xv A n c xs Aw nw cw ws As ns cs ss most w3 (HX.out.below a3 rr) (HW.out.below a3 rr) (HS.out.below a3 rr) (HT.out.below a3 rr) (by omega)).mono ?_;obtain⟨q,hq⟩:∃q,q=Et (Ah xs) ws ss most:=⟨_,rfl⟩;rw[←hq];have HQ:=hI hq;clear hq;rintro e w4 ⟨A4,n4,c4,rfl,g6,d0⟩;have d4:=a3.trans (d0.mono a3.size);have d3:=hI (f5.out.below d0 rr);have d7:=hI (i1.out.below d0 rr);have i0:=hI g6;clear g6 d0 f5 i1;go_wp2_with fail;refine(Qv A n c xs Av nv cv ws Au nu cu ss most w4 (HX.out.below d4 rr) d3.out d7.out g0.out f3.out g9.out).mono ?_;rw[←HQ.out];rintro e w5 ⟨A5,n5,c5,rfl,f4,b0⟩;have a7:=d4.trans (b0.mono d4.size);have f2:=hI (d3.out.below b0 rr);have f6:=hI (d7.out.below b0 rr);have b5:=hI (i0.out.below b0 rr);have g4:=hI f4;clear f4 b0 d3 d7 i0;go_wp2_with fail;refine(Acw A n c xs Aw nw cw ws As ns cs ss w5 (HX.out.below a7 rr) (HW.out.below a7 rr) (HS.out.below a7 rr) (HT.out.below a7 rr) (by omega)).mono ?_;obtain⟨m,hm⟩:∃m,m=Fa (Ah xs) ws ss:=⟨_,rfl⟩;rw[←hm];have HM:=hI hm;clear hm;rintro e w6 ⟨rfl,a6⟩;have f1:=a7.trans (a6.mono a7.size);have d5:=hI (f2.out.below a6 rr);have d2:=hI (f6.out.below a6 rr);have b2:=hI (b5.out.below a6 rr);have b4:=hI (g4.out.below a6 rr);clear a6 f2 f6 b5 g4;go_wp2_with fail;refine(Adw A n c xs Av nv cv ws Au nu cu ss w6 (HX.out.below f1 rr) d5.out d2.out g0.out f3.out g9.out).mono ?_;rw[←HM.out];rintro e w7 ⟨rfl,a5⟩;have a9:=f1.trans (a5.mono f1.size);have g3:=hI (d5.out.below a5 rr);have g8:=hI (d2.out.below a5 rr);have b7:=hI (b2.out.below a5 rr);have b8:=hI (b4.out.below a5 rr);clear a5 d5 d2 b2 b4;go_wp2_with fail;refine(Afu A n c xs Aw nw cw ws As ns cs ss w7 (HX.out.below a9 rr) (HW.out.below a9 rr) (HS.out.below a9 rr) (HT.out.below a9 rr) (by omega)).mono ?_;rw[(Tr _ _ _).1,(Tr _ _ _).2,←HM.out];rintro e w8 ⟨rfl,a4⟩;have g1:=a9.trans (a4.mono a9.size);have g2:=hI (g3.out.below a4 rr);have g7:=hI (g8.out.below a4 rr);have b6:=hI (b7.out.below a4 rr);have b1:=hI (b8.out.below a4 rr);clear a4 g3 g8 b7 b8;go_wp2_with fail;refine(Rg A4 A5 n4 n5 c4 c5 q.2 q.2 w8 b6.out b1.out).mono ?_;rw[decide_eq_true rfl];rintro e w9 ⟨rfl,b9⟩;have f0:=g1.trans (b9.mono g1.size);have f7:=hI (g2.out.below b9 rr);have f9:=hI (g7.out.below b9 rr);clear b9 g2 g7 b6 b1;have i6:(q.1==q.1)=true:=by simp
  have i7:(m.1==m.1)=true:=by simp
  have i3:(m.2==m.2)=true:=by simp
  have i5:(decide (0<m.2)==decide (0<m.2))=true:=by simp
  go_wp2_with fail;refine(Xa Av Aw nv nw cv cw ws ws w9 f7.out (HW.out.below f0 rr)).mono ?_;rw[decide_eq_true rfl];rintro e w10 ⟨rfl,a1⟩;have a2:=f0.trans (a1.mono f0.size);have d6:=hI (f9.out.below a1 rr);clear a1 f7 f9;go_wp2_with fail;refine(Xa Au As nu ns cu cs ss ss w10 d6.out (HS.out.below a2 rr)).mono ?_;rw[decide_eq_true rfl];rintro e w11 ⟨rfl,b3⟩;have a0:=a2.trans (b3.mono a2.size);clear b3;go_wp2_with fail;refine(Gj _ (HT.out.below a0 rr)).mono ?_;rintro e wz ⟨rfl,d1⟩;go_wp2;go_ret;exact⟨rfl,a0.trans (d1.mono a0.size)⟩
theorem Amb (A:Option Addr)(n c:Nat)(xs:List Co)(Aw:Option Addr)(nw cw:Nat)(ws:List Snd)(As:Option Addr)(ns cs:Nat)(ss:List Snd)(most:Int)(w:World)(hx:B4 w A n c xs/\Jj xs)(hw:Ad w Aw nw cw ws/\Bq ws)(hs:Ad w As ns cs ss/\Bq ss)(hT:Cq w):
  Calls Tryz.prog 10 #[.slice A n c, .slice Aw nw cw, .slice As ns cs, .int .i64 most] w (Ks w):=
 An2 A n c xs Aw nw cw ws As ns cs ss most w hx.1 hw.1 hs.1 hT hx.2 hw.2 hs.2
end Go.Proofs.YtlgliddhideflaaGreatDoor
