/-
  ablautlaw11.InverseFixes is true.
-/
import Derived.Test.YtlgliddhideflaaGreatDoorXWk11
import Derived.Test.YtlgliddhideflaaGreatDoorXR11h
set_option linter.all false
set_option maxRecDepth 100000
set_option maxHeartbeats 4000000
namespace Go.Proofs.YtlgliddhideflaaGreatDoor
open Go.RowKit Go.Shelf
theorem Amc (x:Co)(As:Option Addr)(ns cs:Nat)(ss:List Snd)(k:Int)(w:World)(hx:Cv w x.l x.a)(hs:Ad w As ns cs ss)(hT:Cq w)(hxu:Lb x.l)(hsu:Bq ss):
  Calls Tryz.prog 7 #[C8 x.l x.a, .slice As ns cs, .int .i64 k] w (Ks w):=by
 have HX:=hI hx;have HS:=hI hs;have HT:=hI hT;have d1:=hI hxu;have b5:=hI hsu;clear hx hs hT hxu hsu;obtain⟨Wb,d3,a4,b2,a3,b9⟩:=De w x.l x.a;have HL:=hI (HX.out.below a3 rr);go_enter Tryz.func7,Tryz.ntmps7;go_wp2_with(first|(refine Cn rfl (.tmp 3) rfl w.heap.size x.l x.a rfl a4 ?_)|(refine Vp rfl (.tmp 11) rfl x rfl HL.out ?hk))
 case hk=>
  intro X b3 hb d4 _;clear d4;have hB:Below w.heap.size w X:=a3.trans (hb.mono a3.size);have a8:=(hb.block _ b2).trans a4;have d0:w.heap.size<X.heap.size:=lt_of_block a8;have a9:=hI a8;have HB:=hI hB;have b0:=hI b3;clear b3 hb hB a4 b2 a3 b9 d3 HL a8;go_wp2_with fail;refine(Km _ 1 1 [x] none 0 0 [] As ns cs ss 4 X b0.out (Bd.nil _ _) (HS.out.below HB.out rr) (by omega)).mono ?_;rintro e w1 ⟨b,rfl,b6,a7⟩;have a0:Below w.heap.size w w1:=HB.out.trans (a7.mono HB.out.size);have a2:=(a7.block _ d0).trans a9.out;have d2:w.heap.size<w1.heap.size:=lt_of_block a2;clear b6 a7 b0 a9
  cases b with
  |false=>
   go_wp2_with fail;refine(Gj _ (HT.out.below a0 rr)).mono ?_;rintro e wz ⟨rfl,b8⟩;go_wp2;go_ret;exact⟨rfl,a0.trans (b8.mono a0.size)⟩
  |true=>
   go_wp2_with(refine Cn rfl (.tmp 3) rfl w.heap.size x.l x.a rfl a2 ?_);refine(Ae1 x As ns cs ss k w1 (HX.out.below a0 rr) (HS.out.below a0 rr) (HT.out.below a0 rr)).mono ?_;obtain⟨q,hq⟩:∃q,q=Fg x.l ss k:=⟨_,rfl⟩;rw[←hq];have HQ:=hI hq;clear hq;rintro e w2 ⟨rfl,a6⟩;have a1:Below w.heap.size w w2:=a0.trans (a6.mono a0.size);have b1:=(a6.block _ d2).trans a2;clear a6;go_wp2_with(refine Cn rfl (.tmp 3) rfl w.heap.size x.l x.a rfl b1 ?_);refine(Ady x.l x.a As ns cs ss k w2 (HX.out.below a1 rr) (HS.out.below a1 rr) d1.out b5.out).mono ?_;rw[←HQ.out];rintro e w3 ⟨rfl,b4⟩;have a5:Below w.heap.size w w3:=a1.trans (b4.mono a1.size);clear b4 a2 b1;have d5:(q.1==q.1)=true:=by simp
   have d6:(q.2==q.2)=true:=by simp
   go_wp2_with fail;refine(Gj _ (HT.out.below a5 rr)).mono ?_;rintro e w5 ⟨rfl,b7⟩;go_wp2;go_ret;exact⟨rfl,a5.trans (b7.mono a5.size)⟩
theorem Akn (l:Bg)(a:Dn)(As:Option Addr)(ns cs:Nat)(ss:List Snd)(k:Int)(w:World)(hx:Cv w l a/\Lb l)(hs:Ad w As ns cs ss/\Bq ss)(hT:Cq w):
  Calls Tryz.prog 7 #[C8 l a, .slice As ns cs, .int .i64 k] w (Ks w):=
 Amc ⟨l,a⟩ As ns cs ss k w hx.1 hs.1 hT hx.2 hs.2
end Go.Proofs.YtlgliddhideflaaGreatDoor
