/-
  ablautlaw11.InverseBacks is true.
-/
import Derived.Test.YtlgliddhideflaaGreatDoorXWk11
import Derived.Test.YtlgliddhideflaaGreatDoorH09
set_option linter.all false
set_option maxRecDepth 100000
set_option maxHeartbeats 4000000
namespace Go.Proofs.YtlgliddhideflaaGreatDoor
open Go.RowKit Go.Shelf
theorem Ama (x:Co)(Aw:Option Addr)(nw cw:Nat)(ws:List Snd)(As:Option Addr)(ns cs:Nat)(ss:List Snd)(most:Int)(w:World)(hx:Cv w x.l x.a)(hw:Ad w Aw nw cw ws)(hs:Ad w As ns cs ss)(hT:Cq w)(hxu:Lb x.l)(hwu:Bq ws)(hsu:Bq ss):
  Calls Tryz.prog 5 #[C8 x.l x.a, .slice Aw nw cw, .slice As ns cs, .int .i64 most] w (Ks w):=by
 have HX:=hI hx;have HW:=hI hw;have HS:=hI hs;have HT:=hI hT;have d7:=hI hxu;have d3:=hI hwu;have f0:=hI hsu;clear hx hw hs hT hxu hwu hsu;obtain⟨Wb,d9,a9,b4,a3,f2⟩:=De w x.l x.a;have HL:=hI (HX.out.below a3 rr);go_enter Tryz.func5,Tryz.ntmps5;go_wp2_with(first|(refine Cn rfl (.tmp 4) rfl w.heap.size x.l x.a rfl a9 ?_)|(refine Vp rfl (.tmp 13) rfl x rfl HL.out ?hk))
 case hk=>
  intro X b8 hb f1 _;clear f1;have hB:Below w.heap.size w X:=a3.trans (hb.mono a3.size);have a8:=(hb.block _ b4).trans a9;have f3:w.heap.size<X.heap.size:=lt_of_block a8;have b6:=hI a8;have HB:=hI hB;have b5:=hI b8;clear b8 hb hB a9 b4 a3 f2 d9 HL a8;go_wp2_with fail;refine(Km _ 1 1 [x] Aw nw cw ws As ns cs ss 6 X b5.out (HW.out.below HB.out rr) (HS.out.below HB.out rr) (by omega)).mono ?_;rintro e w1 ⟨b,rfl,b1,b0⟩;have a0:Below w.heap.size w w1:=HB.out.trans (b0.mono HB.out.size);have a2:=(b0.block _ f3).trans b6.out;have d6:w.heap.size<w1.heap.size:=lt_of_block a2;have d4:=hI b1;clear b1 b0 b5 b6
  cases b with
  |false=>
   go_wp2_with fail;refine(Gj _ (HT.out.below a0 rr)).mono ?_;rintro e wz ⟨rfl,d5⟩;go_wp2;go_ret;exact⟨rfl,Below.trans a0 (d5.mono (Below.size a0))⟩
  |true=>
   obtain⟨-,f5, -⟩:=d4.out rfl;go_wp2_with(refine Cn rfl (.tmp 4) rfl w.heap.size x.l x.a rfl a2 ?_);refine(Ah3 x Aw nw cw ws As ns cs ss most w1 (HX.out.below a0 rr) (HW.out.below a0 rr) (HS.out.below a0 rr) (HT.out.below a0 rr) (by omega)).mono ?_;obtain⟨q,hq⟩:∃q,q=Et [x.l] ws ss most:=⟨_,rfl⟩;rw[←hq];have HQ:=hI hq;clear hq;rintro e w2 ⟨A2,n2,c2,rfl,b2,a6⟩;have a1:Below w.heap.size w w2:=a0.trans (a6.mono a0.size);have b7:=(a6.block _ d6).trans a2;have b9:=hI b2;clear b2 a6;go_wp2_with(refine Cn rfl (.tmp 4) rfl w.heap.size x.l x.a rfl b7 ?_);refine(Agi x Aw nw cw ws As ns cs ss most w2 (HX.out.below a1 rr) (HW.out.below a1 rr) (HS.out.below a1 rr) d7.out d3.out f0.out).mono ?_;rw[←HQ.out];rintro e w3 ⟨A3,n3,c3,rfl,b3,a5⟩;have d0:Below w.heap.size w w3:=a1.trans (a5.mono a1.size);have a4:=hI (b9.out.below a5 rr);have d8:=hI b3;clear b3 a5 b9 a2 b7;go_wp2_with fail;refine(Rg A2 A3 n2 n3 c2 c3 q.2 q.2 w3 a4.out d8.out).mono ?_;rw[decide_eq_true rfl];rintro e w4 ⟨rfl,d2⟩;have a7:Below w.heap.size w w4:=d0.trans (d2.mono d0.size);have f4:(q.1==q.1)=true:=by simp
   go_wp2_with fail;refine(Gj _ (HT.out.below a7 rr)).mono ?_;rintro e w5 ⟨rfl,d1⟩;go_wp2;go_ret;exact⟨rfl,a7.trans (d1.mono a7.size)⟩
theorem Akl (l:Bg)(a:Dn)(Aw:Option Addr)(nw cw:Nat)(ws:List Snd)(As:Option Addr)(ns cs:Nat)(ss:List Snd)(most:Int)(w:World)(hx:Cv w l a/\Lb l)(hw:Ad w Aw nw cw ws/\Bq ws)(hs:Ad w As ns cs ss/\Bq ss)(hT:Cq w):
  Calls Tryz.prog 5 #[C8 l a, .slice Aw nw cw, .slice As ns cs, .int .i64 most] w (Ks w):=
 Ama ⟨l,a⟩ Aw nw cw ws As ns cs ss most w hx.1 hw.1 hs.1 hT hx.2 hw.2 hs.2
end Go.Proofs.YtlgliddhideflaaGreatDoor
