/-
  ablautlaw38.WaveCrosses is true.
-/
import Derived.Test.YtaglfmlgbcmakaaGreatDoorH11
import Derived.Test.YtaglfmlgbcmakaaGreatDoorXFw39
set_option linter.all false
set_option maxRecDepth 100000
set_option maxHeartbeats 4000000
namespace Go.Proofs.YtaglfmlgbcmakaaGreatDoor
open Go.RowKit Go.Shelf
theorem Ue (x:EdR)(w:World)(hxu:Qr w x/\EdU x)(hT:Cd w):Calls Tryz.prog 6 #[edV x] w (Rm w):=by
 obtain⟨hx,hu⟩:=hxu;have HX:=hI hx;have HU:=hI hu;have HT:=hI hT;clear hx hu hT;go_enter Tryz.func6,Tryz.ntmps6;have d6:Below w.heap.size w (w.alloc (.cells #[.slice x.An x.nn x.cn, .slice x.Ar x.nr x.cr, .slice x.Al x.nl x.cl, .slice x.Av x.nv x.cv, .slice x.Aw x.nw x.cw, .int .i64 x.a, .int .i64 x.i, .int .i64 x.j, .int .i64 x.now] 66)):=(Below.refl _ w).alloc rr _;have d9:(w.alloc (.cells #[.slice x.An x.nn x.cn, .slice x.Ar x.nr x.cr, .slice x.Al x.nl x.cl, .slice x.Av x.nv x.cv, .slice x.Aw x.nw x.cw, .int .i64 x.a, .int .i64 x.i, .int .i64 x.j, .int .i64 x.now] 66)).heap[w.heap.size]? =some (.cells #[.slice x.An x.nn x.cn, .slice x.Ar x.nr x.cr, .slice x.Al x.nl x.cl, .slice x.Av x.nv x.cv, .slice x.Aw x.nw x.cw, .int .i64 x.a, .int .i64 x.i, .int .i64 x.j, .int .i64 x.now] 66 (0,0)):=hpt;have a9:=hI d6;have b1:=hI d9;clear d6 d9;go_wp2_with fail;obtain⟨bx,d2⟩:∃bx,bx=w.heap.size:=⟨_,rfl⟩;rw[←d2]at b1 ⊢;generalize w.alloc (.cells #[.slice x.An x.nn x.cn, .slice x.Ar x.nr x.cr, .slice x.Al x.nl x.cl, .slice x.Av x.nv x.cv, .slice x.Aw x.nw x.cw, .int .i64 x.a, .int .i64 x.i, .int .i64 x.j, .int .i64 x.now] 66)=W0 at*;clear d2;refine(Wa x W0 (HX.out.below a9.out)).mono ?_;rintro e w1 ⟨h1,b8⟩;have a3:=hI (a9.out.trans (b8.mono a9.out.size));have a1:=hI ((b8.block bx (lt_of_block b1.out)).trans b1.out);clear b8 a9 b1;rcases h1 with rfl|⟨rfl,b2⟩
 ·go_wp2_with fail;refine(Gn w1 (HT.out.below a3.out rr)).mono ?_;rintro e wz ⟨rfl,b5⟩;go_wp2;go_ret;exact⟨rfl,a3.out.trans (b5.mono a3.out.size)⟩
 have k0:=Ad (j:=0) a1.out rfl;have k1:=Ad (j:=1) a1.out rfl;have k2:=Ad (j:=2) a1.out rfl;have k3:=Ad (j:=3) a1.out rfl;have k4:=Ad (j:=4) a1.out rfl;have k5:=Ad (j:=5) a1.out rfl;have k6:=Ad (j:=6) a1.out rfl;have k7:=Ad (j:=7) a1.out rfl;have k8:=Ad (j:=8) a1.out rfl;have b9:=hI b2;have f6:Hid (x.nv<=19\/64<x.nv):=by have:=b2.2.2.1;show _\/_;omega
 have b4:Hid (x.nv<=100):=b2.2.2.2.2.2;clear b2;go_wp2_with fail;clear k0 k1 k2 k3 k4 k5 k6 k7 k8;refine(R8 x w1 (HX.out.below a3.out) b9.out.1 b9.out.2.1).mono ?_;rintro e w2 ⟨v,u,rfl,hv,d1,a7⟩;have a2:Hid (StR w x v u bx w2):=⟨(HX.out.below a3.out).below a7,HT.out.below (a3.out.trans (a7.mono a3.out.size)) rr,hv,d1,(a7.block bx (lt_of_block a1.out)).trans a1.out,a3.out.trans (a7.mono a3.out.size)⟩;clear hv d1 a7 a3 a1 HX HT;have c2:=a2.out.c2;have c3:=a2.out.c3;have c6:=a2.out.c6;have c7:=a2.out.c7;go_wp2_with fail;refine(Acf x.i x.j a2.out.m a2.out.e.laws a2.out.e.waves a2.out.t).mono ?_;obtain⟨r,hr⟩:∃r,r=Cz (Jh x) (x.roads.map Be) (Ah x.laws) (Ae x.waves) x.i x.j:=⟨_,rfl⟩;rw[←hr];have HR:=hI hr;clear hr;rintro e w3 ⟨A3,m3,c3',rfl,f2,f3⟩;have d7:=hI f2;have a5:=hI (a2.out.step f3);clear f2 f3 a2 c2 c3 c6 c7
 have a6:Hid (∀W',Below w3.heap.size w3 W'->W'.cell? ⟨bx,2,none⟩=some (.slice x.Al x.nl x.cl)/\W'.cell? ⟨bx,3,none⟩=some (.slice x.Av x.nv x.cv)/\W'.cell? ⟨bx,6,none⟩=some (.int .i64 x.i)/\W'.cell? ⟨bx,7,none⟩=some (.int .i64 x.j)):=fun W' h=>
  ⟨(a5.out.step h).c2,(a5.out.step h).c3,(a5.out.step h).c6,(a5.out.step h).c7⟩
 go_wp2_with fail;refine Bg (fun W'=>W'.cell? ⟨bx,2,none⟩=some (.slice x.Al x.nl x.cl)/\W'.cell? ⟨bx,3,none⟩=some (.slice x.Av x.nv x.cv)/\W'.cell? ⟨bx,6,none⟩=some (.int .i64 x.i)/\W'.cell? ⟨bx,7,none⟩=some (.int .i64 x.j)) (by kernel_rfl) (a6.out _ (Below.refl _ w3).drew) (fun hHeld=> ?_)
 (refine' Ab 3 rfl ?_;(try simp only[Act.put,nY,nX]));(refine' Ab 4 rfl ?_;(try simp only[Act.put,nY,nX]))
 (refine' Ab 0 rfl ?_;(try simp only[Act.put,nY,nX]));(refine' Ab 1 rfl ?_;(try simp only[Act.put,nY,nX]));(refine' Ab 2 rfl ?_;(try simp only[Act.put,nY,nX]));(refine' Ab 6 rfl ?_;(try simp only[Act.put,nY,nX]));(refine' Ab 7 rfl ?_;(try simp only[Act.put,nY,nX]));(refine' Ab 8 rfl ?_;(try simp only[Act.put,nY,nX]));(refine' Ab 9 rfl ?_;(try simp only[Act.put,nY,nX]))
 clear hHeld
 (refine Am8 5 rfl (fun K' hK'=> ?_);simp only[nY];go_simp)
 have b3:Below w3.heap.size w3 w3.drew:=(Below.refl _ w3).drew;refine(R9 x.Av x.nv x.cv x.waves _ (a5.out.step b3).e.waves b4.out).mono ?_;rintro e w4 ⟨A4,c4,rfl,d0,f1⟩;have a0:=b3.trans (f1.mono b3.size);have f0:=hI d0;have a8:=hI (a5.out.step a0);have d5:=hI (Bn.below d7.out a0 rr);refine hK' _ _ ⟨.inr (a6.out _ a0),fun _=> ?_⟩
 clear hK' K' d0
 (try simp only[Act.put,nY,nX])
 (refine Am8 10 rfl (fun K' hK'=> ?_);simp only[nY];go_simp)
 refine(Ww u (Jh x) (x.roads.map Be) x.Al x.nl x.cl x.laws A4 x.nv c4 x.waves x.i x.j w4 a8.out.r a8.out.e.laws HU.out.laws f0.out).mono ?_;rw[←HR.out];rintro e w5 ⟨A5,m5,c5',rfl,d3,b0⟩;have a4:=a0.trans (b0.mono a0.size);have f4:=hI d3;have b6:=hI (Bn.below d5.out b0 rr);have d8:=hI (a8.out.step b0);refine hK' _ _ ⟨.inr (a6.out _ a4),fun _=> ?_⟩
 have hS:=a6.out _ a4;clear hK' K' b3 f1 a0 b0 a4 d3 d7 d5 a5 a8 f0 HR
 (try simp only[Act.put,nY,nX])
 obtain⟨er,L⟩:=r
 (refine' Ab 11 rfl ?_;(try simp only[Act.put,nY,nX]));(refine' Ab 12 rfl ?_;(try simp only[Act.put,nY,nX]));(refine' Ab 13 rfl ?_;(try simp only[Act.put,nY,nX]));(refine' Ab 14 rfl ?_;(try simp only[Act.put,nY,nX]))
 clear hS
 (refine Am8 15 rfl (fun K' hK'=> ?_);simp only[nY];go_simp)
 refine hK' _ _ ⟨.inl (by kernel_rfl),fun _=>Ba (by kernel_rfl) ?_ _⟩
 clear hK' K' a6;have f5:(er==er)=true:=by simp
 go_wp2_with fail;refine(Fz A3 A5 m3 m5 c3' c5' L L w5 b6.out f4.out).mono ?_;rw[show decide (L=L)=true from decide_eq_true rfl];rintro e w6 ⟨rfl,d4⟩;have b7:=hI (d8.out.step d4);clear d4 d8;go_wp2_with fail;refine(Gn w6 (b7.out).t).mono ?_;rintro e wz ⟨rfl,b5⟩;go_wp2;go_ret;exact⟨rfl,(b7.out).bl.trans (b5.mono (b7.out).bl.size)⟩
end Go.Proofs.YtaglfmlgbcmakaaGreatDoor
