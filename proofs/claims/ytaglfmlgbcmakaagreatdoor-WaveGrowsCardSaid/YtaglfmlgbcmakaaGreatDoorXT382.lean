/-
  ablautlaw38.WaveGrows is true.
-/
import Derived.Test.YtaglfmlgbcmakaaGreatDoorH08
set_option linter.all false
set_option maxRecDepth 100000
set_option maxHeartbeats 4000000
namespace Go.Proofs.YtaglfmlgbcmakaaGreatDoor
open Go.RowKit Go.Shelf
theorem Xq (x:EdR)(more:Int)(w:World)(hx:M5 w x)(hmo:0<=more/\more<=4294967295)(hT:B9 w):Calls Tryz.prog 7 #[edV x, .int .u32 more] w (Ms w):=by
 have m2:=hx.now;have HX:=hI hx;have HT:=hI hT;clear hx hT;go_enter Tryz.func7,Tryz.ntmps7;have b1:Below w.heap.size w (w.alloc (.cells #[.slice x.An x.nn x.cn, .slice x.Ar x.nr x.cr, .slice x.Al x.nl x.cl, .slice x.Av x.nv x.cv, .slice x.Aw x.nw x.cw, .int .i64 x.a, .int .i64 x.i, .int .i64 x.j, .int .i64 x.now] 66)):=(Below.refl _ w).alloc rr _;have k6:(w.alloc (.cells #[.slice x.An x.nn x.cn, .slice x.Ar x.nr x.cr, .slice x.Al x.nl x.cl, .slice x.Av x.nv x.cv, .slice x.Aw x.nw x.cw, .int .i64 x.a, .int .i64 x.i, .int .i64 x.j, .int .i64 x.now] 66)).heap[w.heap.size]? =some (.cells #[.slice x.An x.nn x.cn, .slice x.Ar x.nr x.cr, .slice x.Al x.nl x.cl, .slice x.Av x.nv x.cv, .slice x.Aw x.nw x.cw, .int .i64 x.a, .int .i64 x.i, .int .i64 x.j, .int .i64 x.now] 66 (0,0)):=hpt;have b3:=hI b1;have d8:=hI k6;clear b1 k6;go_wp2_with fail;obtain⟨bx,i0⟩:∃bx,bx=w.heap.size:=⟨_,rfl⟩;rw[←i0]at d8 ⊢;generalize w.alloc (.cells #[.slice x.An x.nn x.cn, .slice x.Ar x.nr x.cr, .slice x.Al x.nl x.cl, .slice x.Av x.nv x.cv, .slice x.Aw x.nw x.cw, .int .i64 x.a, .int .i64 x.i, .int .i64 x.j, .int .i64 x.now] 66)=W0 at*;clear i0;refine(J6 x W0 (HX.out.below b3.out) (HT.out.below b3.out rr)).mono ?_;rintro e w1 ⟨h1,g0⟩;have a6:=hI (b3.out.trans (g0.mono b3.out.size));have d4:=hI ((g0.block bx (lt_of_block d8.out)).trans d8.out);clear g0 b3 d8;rcases h1 with rfl|⟨b,rfl,hm,hn⟩
 ·go_wp2_with fail;refine(Dd w1 (HT.out.below a6.out rr)).mono ?_;rintro e wz ⟨rfl,b8⟩;go_wp2;go_ret;exact⟨rfl,a6.out.trans (b8.mono a6.out.size)⟩
 obtain⟨rs,f4⟩:∃rs,rs=x.roads.map B1:=⟨_,rfl⟩;rw[←f4]at hm;have m6:=hI f4;have HN:=hI hn;have HS:Hid (StW w x rs b bx w1):=⟨⟨hm,HX.out.below a6.out,HT.out.below a6.out rr⟩,d4.out,a6.out⟩;have m0:=hn.n;have o1:=hn.v;have m9:=hn.l;clear f4 hm hn a6 d4 HX HT;have c8:=HS.out.c8;by_cases hbig:x.now>4611686018427387904
 ·go_wp2_with fail;refine(Dd w1 (HS.out).g.t).mono ?_;rintro e wz ⟨rfl,b8⟩;go_wp2;go_ret;exact⟨rfl,(HS.out).bl.trans (b8.mono (HS.out).bl.size)⟩
 have i4:¬4611686018427387904<x.now:=by omega
 go_wp2_with fail;clear c8
 go_loopw [6] (fun s6 wr=>∃c:Nat,s6= .int .i64 (c:Int)/\c<=x.nn/\Hid (StW w x rs b bx wr)) (fun s6 _=>x.nn-(intOf s6).toNat)
 case atStart=>exact⟨0,rfl,Nat.zero_le _,HS.out⟩
 case round=>
  obtain⟨c,rfl,hc,g5⟩:=hrel;clear HS;go_wp2_with fail;refine(g5.out.g.length).mono ?_;rintro e w2 ⟨rfl,k5⟩;have a0:=hI (g5.out.step k5);clear g5 k5;by_cases hlt:c<x.nn
  ·have m8:(c:Int)<(x.nn:Int):=by omega
   obtain⟨now2,a2⟩:∃now2,now2=x.now+more:=⟨_,rfl⟩;have m3:IntKind.i64.wrap (x.now+more)=now2:=by rw[a2];exact IntWalk.i64_in _ (by omega)
   obtain⟨L1,f7⟩:∃L,L=Dc x.nn rs (Af x.waves) c x.now:=⟨_,rfl⟩;obtain⟨L2,d7⟩:∃L,L=Dc x.nn rs (Af x.waves) c now2:=⟨_,rfl⟩;obtain⟨L3,f1⟩:∃L,L=Dc x.nn rs (Af x.waves) c 9223372036854775807:=⟨_,rfl⟩;have a3:Hid (L1.length<=L2.length/\L2.take L1.length=L1):=by rw[f7,d7];exact Mx (by omega)
   have a5:Hid (L2.length<=L3.length/\L3.take L2.length=L2):=by rw[d7,f1];exact Mx (by omega)
   obtain⟨P,hP⟩:∃P,P=fun i=>(tAt x.nn rs (Af x.waves) c i).isSome:=⟨_,rfl⟩
   have k8:Hid (L3.length=Bl P x.nv):=by show _=_;rw[f1,Abo,hP,a0.out.g.len]
   have g1:=hI (fun W (h:GdW x rs b W)=>h.line HN.out hlt x.now);have f6:=hI (fun W (h:GdW x rs b W)=>h.line HN.out hlt now2);have f3:=hI (fun W (h:GdW x rs b W)=>h.line HN.out hlt 9223372036854775807);have f2:=hI (fun W (h:GdW x rs b W)=>h.line HN.out hlt (-1));rw[←f7]at g1;rw[←d7]at f6;rw[←f1]at f3;rw[Zn]at f2;have k7:=hI hP;clear f7 d7 f1 hP a2;have c2:=a0.out.c2;have c3:=a0.out.c3;have c8:=a0.out.c8;go_wp2_with fail;refine(g1.out _ a0.out.g).mono ?_;rintro e w3 ⟨A1,k1,p1,rfl,i1,i3,j1⟩;have a8:=hI (a0.out.step j1);have j2:=hI i3;have d4:=hI i1;clear a0 j1 i3 i1 c2 c3 c8 g1;have c2:=a8.out.c2;have c3:=a8.out.c3;have c8:=a8.out.c8;go_wp2_with fail;refine(f6.out _ a8.out.g).mono ?_;rintro e w4 ⟨A2,k2,p2,rfl,j5,g6,g3⟩;have b2:=hI (a8.out.step g3);have b7:=hI (j2.out.below g3 rr);have j7:=hI g6;have f5:=hI j5;clear a8 g3 g6 j5 c2 c3 c8 f6 j2 m3;have c2:=b2.out.c2;have c3:=b2.out.c3;go_wp2_with fail;refine(f3.out _ b2.out.g).mono ?_;rintro e w5 ⟨A3,k3,p3,rfl,b5,i5,f0⟩;have d0:=hI (b2.out.step f0);have d2:=hI (b7.out.below f0 rr);have b9:=hI (j7.out.below f0 rr);have i2:=hI i5;have g9:=hI b5;clear b2 f0 i5 b5 c2 c3 f3 b7 j7;have c2:=d0.out.c2;have c3:=d0.out.c3;go_wp2_with fail;refine(f2.out _ d0.out.g).mono ?_;rintro e w6 ⟨A4,k4,p4,rfl,i7, -,b4⟩;have g2:k4=0:=i7;subst g2;obtain⟨F,hF⟩:∃F:World->Prop,F=fun W=>StW w x rs b bx W/\Ba W A1 k1 p1 L1/\Ba W A2 k2 p2 L2/\Ba W A3 k3 p3 L3:=⟨_,rfl⟩
   have a9:Hid (F w6):=by
    show F w6;rw[hF];exact⟨d0.out.step b4,d2.out.below b4 rr,b9.out.below b4 rr,i2.out.below b4 rr⟩
   have d9:Hid (∀W W',F W->Below W.heap.size W W'->F W'):=fun W W' h hb=>by
    rw[hF]at h ⊢;obtain⟨h1,h2,h3,h4⟩:=h;exact⟨h1.step hb,h2.below hb rr,h3.below hb rr,h4.below hb rr⟩
   have b0:Hid (∀W,F W->StW w x rs b bx W):=fun W h=>by rw[hF]at h;exact h.1
   have a7:Hid (∀W,F W->Ba W A1 k1 p1 L1/\Ba W A2 k2 p2 L2/\Ba W A3 k3 p3 L3):=fun W h=>by rw[hF]at h;exact h.2
   clear hF b4 i7 d2 b9 i2 d0 c2 c3 f2;have d1:k1<=k2:=by rw[d4.out,f5.out];exact a3.out.1
   have d3:k2<=k3:=by rw[f5.out,g9.out];exact a5.out.1
   have m4:=(a7.out _ a9.out).1.max;have m1:=(a7.out _ a9.out).2.1.max;have o3:=(a7.out _ a9.out).2.2.max;have d5:¬(k1:Int)>(k2:Int):=by omega
   have j4:¬k2<k1:=by omega
   have j3:¬k3<k2:=by omega
   have b6:¬(k2:Int)>(k3:Int):=by omega
   have i9:Hid (∀W,F W->Calls Tryz.prog 32 #[.slice A1 k1 p1, .slice A2 k1 p2] W fun e w'=>e= .returned (.bool true)/\Below W.heap.size W w'):=fun W h=>by
    have h3:=G7 A1 A2 k1 k1 p1 p2 L1 (L2.take k1) W (a7.out _ h).1 (by
     have h2:=(a7.out _ h).2.1;unfold Ba at h2 ⊢;rw[List.map_take]
     have:=Az.take h2 d1
     rwa[Nat.mul_one]at this)
    rw[decide_eq_true (by rw[d4.out,a3.out.2])]at h3;exact h3
   have k0:Hid (∀W,F W->Calls Tryz.prog 32 #[.slice A2 k2 p2, .slice A3 k2 p3] W fun e w'=>e= .returned (.bool true)/\Below W.heap.size W w'):=fun W h=>by
    have h3:=G7 A2 A3 k2 k2 p2 p3 L2 (L3.take k2) W (a7.out _ h).2.1 (by
     have h2:=(a7.out _ h).2.2;unfold Ba at h2 ⊢;rw[List.map_take]
     have:=Az.take h2 d3
     rwa[Nat.mul_one]at this)
    rw[decide_eq_true (by rw[f5.out,a5.out.2])]at h3;exact h3
   go_wp2_with fail;refine(i9.out _ a9.out).mono ?_;rintro e w7 ⟨rfl,g7⟩;have g4:=hI (d9.out _ _ a9.out g7);clear a9 g7 i9;go_wp2_with fail;refine(k0.out _ g4.out).mono ?_;rintro e w8 ⟨rfl,i6⟩;have j0:=hI (d9.out _ _ g4.out i6);clear g4 i6 k0 a3 a5 d1 d3 m4 m1;go_wp2_with fail;clear d5 b6
   go_loopw [15,16] (fun s15 s16 wr=>∃k:Nat,s15= .int .i64 ((Bl P k:Nat):Int)/\s16= .int .i64 (k:Int)/\k<=x.nv/\Hid (F wr)) (fun _ s16 _=>x.nv-(intOf s16).toNat)
   case atStart=>exact⟨0,rfl,rfl,Nat.zero_le _,j0.out⟩
   case round=>
    obtain⟨k,rfl,rfl,hk,a4⟩:=hrel;clear j0;have o2:Bl P k<=k:=Vn;have c3:=(b0.out _ a4.out).c3;by_cases hkl:k<x.nv
    ·have m5:(k:Int)<(x.nv:Int):=by omega
     clear c3;obtain⟨y,yb,yo,hy,k9,c3,l0,l1,l2,l3,l4⟩:=(b0.out _ a4.out).wave hkl;have HY:=hI hy;clear hy;go_wp2_with fail;refine((b0.out _ a4.out).g.arrive HN.out HY.out).mono ?_;rintro e wa ⟨As,cs,rfl,j6,i8⟩;have f9:=hI (d9.out _ _ a4.out i8);have g8:=hI j6;clear a4 i8 j6 c3 l0 l1 l2 l3 l4 HY k9;go_wp2_with fail;refine((b0.out _ f9.out).g.length).mono ?_;rintro e wb ⟨rfl,b1⟩;have a1:=hI (d9.out _ _ f9.out b1);have d6:=hI (g8.out.below b1 rr);clear f9 b1 g8;obtain⟨ti,f8⟩:∃o,o=tAt x.nn rs (Af x.waves) c k:=⟨_,rfl⟩
     obtain⟨sb,so,eS,o0,j8⟩:∃sb so,As=some ⟨sb,so,none⟩/\sb<wb.heap.size/\wb.cell? ⟨sb,so+c,none⟩=some (.int .i64 (Bj ti)):=by
      obtain⟨pb,po,v,e1,e2,e3,e4⟩:=d6.out.at_ hlt;rw[List.getElem?_map,List.getElem?_range hlt,Option.map_some]at e4;obtain rfl:=Option.some.inj e4;rw[f8];exact⟨pb,po,e1,e2,e3⟩
     subst eS;have j9:Hid (P k=ti.isSome):=by show _=_;rw[k7.out,f8]
     clear f8 d6
     cases ti with
     |none=>
      have HC:Hid (Bl P (k+1)=Bl P k):=Hz j9.out;simp only[Bj]at j8;go_wp2_with fail
      go_roundw
      case rel=>first|exact⟨k+1,by rw[HC.out],by go_num,by omega,a1.out⟩|((repeat apply Exists.intro);exact⟨⟨k+1,by rw[HC.out],by go_num,by omega,a1.out⟩,rfl⟩)
      case measure=>simp[intOf];omega
     |some s=>
      have HC:Hid (Bl P (k+1)=Bl P k+1):=Kt j9.out;simp only[Bj]at j8;have m7:((s:Int)>=0):=by omega
      go_wp2_with fail
      go_roundw
      case rel=>first|exact⟨k+1,by rw[HC.out];rfl,by go_num,by omega,a1.out⟩|((repeat apply Exists.intro);exact⟨⟨k+1,by rw[HC.out];rfl,by go_num,by omega,a1.out⟩,rfl⟩)
      case measure=>simp[intOf];omega
    ·obtain rfl:k=x.nv:=by omega
     have b5:Bl P x.nv=k3:=by rw[←k8.out,g9.out]
     rw[b5];clear b5;go_wp2_with fail
     go_roundw
     case rel=>first|exact⟨c+1,by go_num,by omega,(b0.out _ a4.out)⟩|((repeat apply Exists.intro);exact⟨⟨c+1,by go_num,by omega,(b0.out _ a4.out)⟩,rfl⟩)
     case measure=>simp[intOf];omega
  ·obtain rfl:c=x.nn:=by omega
   go_wp2_with fail;refine(Dd w2 (a0.out).g.t).mono ?_;rintro e wz ⟨rfl,b8⟩;go_wp2;go_ret;exact⟨rfl,(a0.out).bl.trans (b8.mono (a0.out).bl.size)⟩
end Go.Proofs.YtaglfmlgbcmakaaGreatDoor
