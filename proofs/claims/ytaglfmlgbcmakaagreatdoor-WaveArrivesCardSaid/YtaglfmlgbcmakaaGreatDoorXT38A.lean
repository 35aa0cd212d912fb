/-
  ablautlaw38.WaveArrives is true.
-/
import Derived.Test.YtaglfmlgbcmakaaGreatDoorH11
import Derived.Test.YtaglfmlgbcmakaaGreatDoorXFw39
set_option linter.all false
set_option maxRecDepth 100000
set_option maxHeartbeats 4000000
namespace Go.Proofs.YtaglfmlgbcmakaaGreatDoor
open Go.RowKit Go.Shelf
theorem Uf (x:EdR)(w:World)(hxu:Qr w x/\EdU x)(hT:Cd w):Calls Tryz.prog 10 #[edV x] w (Rm w):=by
 obtain⟨hx,hu⟩:=hxu;have HX:=hI hx;have HU:=hI hu;have HT:=hI hT;clear hx hu hT;go_enter Tryz.func10,Tryz.ntmps10;have g7:Below w.heap.size w (w.alloc (.cells #[.slice x.An x.nn x.cn, .slice x.Ar x.nr x.cr, .slice x.Al x.nl x.cl, .slice x.Av x.nv x.cv, .slice x.Aw x.nw x.cw, .int .i64 x.a, .int .i64 x.i, .int .i64 x.j, .int .i64 x.now] 66)):=(Below.refl _ w).alloc rr _;have g9:(w.alloc (.cells #[.slice x.An x.nn x.cn, .slice x.Ar x.nr x.cr, .slice x.Al x.nl x.cl, .slice x.Av x.nv x.cv, .slice x.Aw x.nw x.cw, .int .i64 x.a, .int .i64 x.i, .int .i64 x.j, .int .i64 x.now] 66)).heap[w.heap.size]? =some (.cells #[.slice x.An x.nn x.cn, .slice x.Ar x.nr x.cr, .slice x.Al x.nl x.cl, .slice x.Av x.nv x.cv, .slice x.Aw x.nw x.cw, .int .i64 x.a, .int .i64 x.i, .int .i64 x.j, .int .i64 x.now] 66 (0,0)):=hpt;have d8:=hI g7;have f3:=hI g9;clear g7 g9;go_wp2_with fail;obtain⟨bx,g5⟩:∃bx,bx=w.heap.size:=⟨_,rfl⟩;rw[←g5]at f3 ⊢;generalize w.alloc (.cells #[.slice x.An x.nn x.cn, .slice x.Ar x.nr x.cr, .slice x.Al x.nl x.cl, .slice x.Av x.nv x.cv, .slice x.Aw x.nw x.cw, .int .i64 x.a, .int .i64 x.i, .int .i64 x.j, .int .i64 x.now] 66)=W0 at*;clear g5;refine(Wa x W0 (HX.out.below d8.out)).mono ?_;rintro e w1 ⟨h1,b7⟩;have a8:=hI (d8.out.trans (b7.mono d8.out.size));have a4:=hI ((b7.block bx (lt_of_block f3.out)).trans f3.out);clear b7 d8 f3;rcases h1 with rfl|⟨rfl,f4⟩
 ·go_wp2_with fail;refine(Gn w1 (HT.out.below a8.out rr)).mono ?_;rintro e wz ⟨rfl,d3⟩;go_wp2;go_ret;exact⟨rfl,a8.out.trans (d3.mono a8.out.size)⟩
 have k0:=Ad (j:=0) a4.out rfl;have k1:=Ad (j:=1) a4.out rfl;have k2:=Ad (j:=2) a4.out rfl;have k3:=Ad (j:=3) a4.out rfl;have k4:=Ad (j:=4) a4.out rfl;have k5:=Ad (j:=5) a4.out rfl;have k6:=Ad (j:=6) a4.out rfl;have k7:=Ad (j:=7) a4.out rfl;have k8:=Ad (j:=8) a4.out rfl;have f9:=hI f4;have i4:Hid (x.nv<=19\/64<x.nv):=by have:=f4.2.2.1;show _\/_;omega
 have d1:Hid (x.nv<=100):=f4.2.2.2.2.2;clear f4;go_wp2_with fail;clear k0 k1 k2 k3 k4 k5 k6 k7 k8;refine(R8 x w1 (HX.out.below a8.out) f9.out.1 f9.out.2.1).mono ?_;rintro e w2 ⟨v,u,rfl,hv,g3,d5⟩;have f0:Hid (StR w x v u bx w2):=⟨(HX.out.below a8.out).below d5,HT.out.below (a8.out.trans (d5.mono a8.out.size)) rr,hv,g3,(d5.block bx (lt_of_block a4.out)).trans a4.out,a8.out.trans (d5.mono a8.out.size)⟩;clear hv g3 d5 a8 a4 HX HT;have c3:=f0.out.c3;go_wp2_with fail;refine(R9 x.Av x.nv x.cv x.waves w2 f0.out.e.waves d1.out).mono ?_;rintro e w3 ⟨A4,c4,rfl,g2,i1⟩;have g6:=hI g2;have b5:=hI (f0.out.step i1);clear g2 i1 f0 c3
 have f2:Hid (∀W',Below w3.heap.size w3 W'->W'.cell? ⟨bx,2,none⟩=some (.slice x.Al x.nl x.cl)/\W'.cell? ⟨bx,3,none⟩=some (.slice x.Av x.nv x.cv)):=fun W' h=>
  ⟨(b5.out.step h).c2,(b5.out.step h).c3⟩
 go_wp2_with fail;refine Bg (fun W'=>W'.cell? ⟨bx,2,none⟩=some (.slice x.Al x.nl x.cl)/\W'.cell? ⟨bx,3,none⟩=some (.slice x.Av x.nv x.cv)) (by kernel_rfl) (f2.out _ (Below.refl _ w3).drew) (fun hHeld=> ?_)
 (refine' Ab 0 rfl ?_;(try simp only[Act.put,nY,nX]));(refine' Ab 1 rfl ?_;(try simp only[Act.put,nY,nX]));(refine' Ab 2 rfl ?_;(try simp only[Act.put,nY,nX]));(refine' Ab 3 rfl ?_;(try simp only[Act.put,nY,nX]));(refine' Ab 4 rfl ?_;(try simp only[Act.put,nY,nX]))
 (refine' Ab 6 rfl ?_;(try simp only[Act.put,nY,nX]));(refine' Ab 7 rfl ?_;(try simp only[Act.put,nY,nX]));(refine' Ab 8 rfl ?_;(try simp only[Act.put,nY,nX]));(refine' Ab 9 rfl ?_;(try simp only[Act.put,nY,nX]))
 clear hHeld
 (refine Am8 5 rfl (fun K' hK'=> ?_);simp only[nY];go_simp)
 have b8:Below w3.heap.size w3 w3.drew:=(Below.refl _ w3).drew;refine(Aff (b5.out.step b8).m (b5.out.step b8).e.laws (b5.out.step b8).e.waves (b5.out.step b8).t).mono ?_;rintro e w4 ⟨rfl,i0⟩;have a3:=b8.trans (i0.mono b8.size);have d7:=hI (b5.out.step a3);have f5:=hI (g6.out.below a3);refine hK' _ _ ⟨.inr (f2.out _ a3),fun _=> ?_⟩
 clear hK' K'
 (try simp only[Act.put,nY,nX])
 (refine Am8 10 rfl (fun K' hK'=> ?_);simp only[nY];go_simp)
 refine(Kf u (Jh x) (x.roads.map Be) x.Al x.nl x.cl x.laws A4 x.nv c4 x.waves w4 d7.out.r d7.out.e.laws HU.out.laws f5.out).mono ?_;obtain⟨er,g4⟩:∃er,er=Ck (Jh x) (Ah x.laws) (Ae x.waves):=⟨_,rfl⟩;rw[←g4];clear g4;rintro e w5 ⟨rfl,f1⟩;have d4:=a3.trans (f1.mono a3.size);have g8:=hI (d7.out.step f1);have f7:=hI (f5.out.below f1);refine hK' _ _ ⟨.inr (f2.out _ d4),fun _=> ?_⟩
 clear hK' K' b8 i0 a3 f1 d4 b5 d7 g6 f5 f2
 (try simp only[Act.put,nY,nX])
 (refine Am8 11 rfl (fun K' hK'=> ?_);simp only[nY];go_simp)
 refine hK' _ _ ⟨.inl (by kernel_rfl),fun _=>Ba (by kernel_rfl) ?_ _⟩
 clear hK' K';have d9:(er !=er)=false:=by simp
 have f6:=d1.out;go_wp2_with fail
 go_loopw [6] (fun s6 wr=>∃k:Nat,s6= .int .i64 (k:Int)/\k<=x.nv/\Hid (StR w x v u bx wr)/\Hid (Bv wr A4 x.nv c4 x.waves)) (fun s6 _=>x.nv-(intOf s6).toNat)
 case atStart=>exact⟨0,rfl,Nat.zero_le _,g8.out,f7.out⟩
 case round=>
  obtain⟨k,rfl,hk,a0,d0⟩:=hrel;clear g8 f7 d9;by_cases hgo:k<x.nv/\k<7
  ·have i5:(k:Int)<(x.nv:Int):=by omega
   have i3:(k:Int)<7:=by omega
   have c3:=a0.out.c3;obtain⟨y,hy⟩:=a0.out.e.waves.get hgo.1;obtain⟨yb,yo,hA,i2,d2,k0,k1,k2,k3,k4⟩:=a0.out.e.waves.at_ hy;have HY:=hI hy;have g0:=hI d2;rw[hA]at c3;clear hy d2;obtain⟨⟨law,ps,T,S,fin⟩,Ay,ny,cy⟩:=y;simp only at k0 k1 k2 k3 k4;go_wp2_with fail;clear k0 k1 k2 k3 k4 c3;refine(Afg ⟨⟨law,ps,T,S,fin⟩,Ay,ny,cy⟩ a0.out.m g0.out).mono ?_;obtain⟨r,hr⟩:∃r,r=Cx (Jh x) (x.roads.map Be) ⟨law,ps,T,S,fin⟩:=⟨_,rfl⟩;rw[show(⟨⟨law,ps,T,S,fin⟩,Ay,ny,cy⟩:Bu).d=⟨law,ps,T,S,fin⟩from rfl,←hr];have HR:=hI hr;clear hr;rintro e w7 ⟨A7,m7,c7,rfl,b2,a6⟩;have b3:=hI b2;have a1:=hI (a0.out.step a6);have a9:=hI (d0.out.below a6);obtain⟨zb,zo,hZ, -,d2,k0,k1,k2,k3,k4⟩:=a9.out.at_ HY.out;have d6:=hI d2;simp only at k0 k1 k2 k3 k4;clear b2 a6 a0 d0 g0 d2 hA i2;subst hZ;go_wp2_with fail;clear k0 k1 k2 k3 k4;refine(Zg u (Jh x) (x.roads.map Be) ⟨⟨law,ps,T,S,fin⟩,Ay,ny,cy⟩ w7 a1.out.r d6.out).mono ?_;rw[show(⟨⟨law,ps,T,S,fin⟩,Ay,ny,cy⟩:Bu).d=⟨law,ps,T,S,fin⟩from rfl,←HR.out];obtain⟨er,L⟩:=r;rintro e w8 ⟨A8,m8,c8',rfl,b6,a5⟩;have b9:=hI b6;have a2:=hI (Bn.below b3.out a5 rr);have b4:=hI (a1.out.step a5);have g1:=hI (a9.out.below a5);clear b6 a5 a1 a9 b3 d6 HY HR;have d9:(er !=er)=false:=by simp
   go_wp2_with fail;refine(Pf A7 A8 m7 m8 c7 c8' L L w8 a2.out b9.out).mono ?_;rw[show decide (L=L)=true from decide_eq_true rfl];rintro e w9 ⟨rfl,b0⟩;have a7:=hI (b4.out.step b0);have f8:=hI (g1.out.below b0);clear b0 b4 g1 b9 a2;go_wp2_with fail
   go_roundw
   case rel=>first|exact⟨k+1,by go_num,by omega,a7.out,f8.out⟩|((repeat apply Exists.intro);exact⟨⟨k+1,by go_num,by omega,a7.out,f8.out⟩,rfl⟩)
   case measure=>simp[intOf];omega
  ·obtain⟨b1,b7⟩:∃b1,b1=decide ((k:Int)<(x.nv:Int)):=⟨_,rfl⟩;have c2:=a0.out.c2;have c3:=a0.out.c3;have c6:=a0.out.c6
   cases b1 with
   |false=>
    have h1:=of_decide_eq_false b7.symm;clear b7;go_wp2_with fail;refine(Vz x.i a0.out.m a0.out.e.laws a0.out.e.waves a0.out.t).mono ?_;obtain⟨r,hr⟩:∃r,r=Dv (Jh x) (x.roads.map Be) (Ah x.laws) (Ae x.waves) x.i:=⟨_,rfl⟩;rw[←hr];have HR:=hI hr;clear hr;rintro e w7 ⟨A7,m7,c7,rfl,b2,a6⟩;have b3:=hI b2;have a1:=hI (a0.out.step a6);have a9:=hI (d0.out.below a6);clear b2 a6 a0 d0 c2 c3 c6;have c2:=a1.out.c2;have c6:=a1.out.c6;go_wp2_with fail;refine(Qi u (Jh x) (x.roads.map Be) x.Al x.nl x.cl x.laws A4 x.nv c4 x.waves x.i w7 a1.out.r a1.out.e.laws HU.out.laws a9.out).mono ?_;rw[←HR.out];obtain⟨er,L⟩:=r;rintro e w8 ⟨A8,m8,c8',rfl,b6,a5⟩;have b9:=hI b6;have a2:=hI (Bn.below b3.out a5 rr);have b4:=hI (a1.out.step a5);clear b6 a5 a1 a9 b3 c2 c6 HR;have d9:(er==er)=true:=by simp
    go_wp2_with fail;refine(Fz A7 A8 m7 m8 c7 c8' L L w8 a2.out b9.out).mono ?_;rw[show decide (L=L)=true from decide_eq_true rfl];rintro e w9 ⟨rfl,b0⟩;have a7:=hI (b4.out.step b0);clear b0 b4;go_wp2_with fail;refine(Gn w9 (a7.out).t).mono ?_;rintro e wz ⟨rfl,d3⟩;go_wp2;go_ret;exact⟨rfl,(a7.out).bl.trans (d3.mono (a7.out).bl.size)⟩
   |true=>
    have h1:=of_decide_eq_true b7.symm;have h2:¬(k:Int)<7:=by omega
    clear b7;go_wp2_with fail;refine(Vz x.i a0.out.m a0.out.e.laws a0.out.e.waves a0.out.t).mono ?_;obtain⟨r,hr⟩:∃r,r=Dv (Jh x) (x.roads.map Be) (Ah x.laws) (Ae x.waves) x.i:=⟨_,rfl⟩;rw[←hr];have HR:=hI hr;clear hr;rintro e w7 ⟨A7,m7,c7,rfl,b2,a6⟩;have b3:=hI b2;have a1:=hI (a0.out.step a6);have a9:=hI (d0.out.below a6);clear b2 a6 a0 d0 c2 c3 c6;have c2:=a1.out.c2;have c6:=a1.out.c6;go_wp2_with fail;refine(Qi u (Jh x) (x.roads.map Be) x.Al x.nl x.cl x.laws A4 x.nv c4 x.waves x.i w7 a1.out.r a1.out.e.laws HU.out.laws a9.out).mono ?_;rw[←HR.out];obtain⟨er,L⟩:=r;rintro e w8 ⟨A8,m8,c8',rfl,b6,a5⟩;have b9:=hI b6;have a2:=hI (Bn.below b3.out a5 rr);have b4:=hI (a1.out.step a5);clear b6 a5 a1 a9 b3 c2 c6 HR;have d9:(er==er)=true:=by simp
    go_wp2_with fail;refine(Fz A7 A8 m7 m8 c7 c8' L L w8 a2.out b9.out).mono ?_;rw[show decide (L=L)=true from decide_eq_true rfl];rintro e w9 ⟨rfl,b0⟩;have a7:=hI (b4.out.step b0);clear b0 b4;go_wp2_with fail;refine(Gn w9 (a7.out).t).mono ?_;rintro e wz ⟨rfl,d3⟩;go_wp2;go_ret;exact⟨rfl,(a7.out).bl.trans (d3.mono (a7.out).bl.size)⟩
end Go.Proofs.YtaglfmlgbcmakaaGreatDoor
