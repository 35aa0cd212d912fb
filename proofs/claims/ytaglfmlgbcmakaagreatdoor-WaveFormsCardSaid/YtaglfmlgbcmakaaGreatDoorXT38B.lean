/-
  ablautlaw38.WaveForms is true.
-/
import Derived.Test.YtaglfmlgbcmakaaGreatDoorH10
import Derived.Test.YtaglfmlgbcmakaaGreatDoorXFw39
set_option linter.all false
set_option maxRecDepth 100000
set_option maxHeartbeats 4000000
namespace Go.Proofs.YtaglfmlgbcmakaaGreatDoor
open Go.RowKit Go.Shelf
theorem Aaa (x:EdR)(w:World)(hxu:Wq w x/\EdU x)(hT:Cw w):Calls Tryz.prog 12 #[edV x] w (Ak2 w):=by
 obtain⟨hx,hu⟩:=hxu;have HX:=hI hx;have HU:=hI hu;have HT:=hI hT;clear hx hu hT;go_enter Tryz.func12,Tryz.ntmps12;have j3:Below w.heap.size w (w.alloc (.cells #[.slice x.An x.nn x.cn, .slice x.Ar x.nr x.cr, .slice x.Al x.nl x.cl, .slice x.Av x.nv x.cv, .slice x.Aw x.nw x.cw, .int .i64 x.a, .int .i64 x.i, .int .i64 x.j, .int .i64 x.now] 66)):=(Below.refl _ w).alloc rr _;have j6:(w.alloc (.cells #[.slice x.An x.nn x.cn, .slice x.Ar x.nr x.cr, .slice x.Al x.nl x.cl, .slice x.Av x.nv x.cv, .slice x.Aw x.nw x.cw, .int .i64 x.a, .int .i64 x.i, .int .i64 x.j, .int .i64 x.now] 66)).heap[w.heap.size]? =some (.cells #[.slice x.An x.nn x.cn, .slice x.Ar x.nr x.cr, .slice x.Al x.nl x.cl, .slice x.Av x.nv x.cv, .slice x.Aw x.nw x.cw, .int .i64 x.a, .int .i64 x.i, .int .i64 x.j, .int .i64 x.now] 66 (0,0)):=hpt;have g7:=hI j3;have g8:=hI j6;clear j3 j6;go_wp2_with fail;obtain⟨bx,j9⟩:∃bx,bx=w.heap.size:=⟨_,rfl⟩;rw[←j9]at g8 ⊢;generalize w.alloc (.cells #[.slice x.An x.nn x.cn, .slice x.Ar x.nr x.cr, .slice x.Al x.nl x.cl, .slice x.Av x.nv x.cv, .slice x.Aw x.nw x.cw, .int .i64 x.a, .int .i64 x.i, .int .i64 x.j, .int .i64 x.now] 66)=W0 at*;clear j9;refine(Ajy x W0 (HX.out.below g7.out)).mono ?_;rintro e w1 ⟨h1,j0⟩;have a8:=hI (g7.out.trans (j0.mono g7.out.size));have a1:=hI ((j0.block bx (lt_of_block g8.out)).trans g8.out);clear j0 g7 g8;rcases h1 with rfl|⟨rfl,g6⟩
 ·go_wp2_with fail;refine(Wd w1 (HT.out.below a8.out rr)).mono ?_;rintro e wz ⟨rfl,i1⟩;go_wp2;go_ret;exact⟨rfl,a8.out.trans (i1.mono a8.out.size)⟩
 have k0:=Ad (j:=0) a1.out rfl;have k1:=Ad (j:=1) a1.out rfl;have k2:=Ad (j:=2) a1.out rfl;have k3:=Ad (j:=3) a1.out rfl;have k4:=Ad (j:=4) a1.out rfl;have k5:=Ad (j:=5) a1.out rfl;have k6:=Ad (j:=6) a1.out rfl;have k7:=Ad (j:=7) a1.out rfl;have k8:=Ad (j:=8) a1.out rfl;have m4:=hI g6;have g5:Hid (x.nv<=19\/64<x.nv):=by have:=g6.2.2.1;show _\/_;omega
 have f5:Hid (x.nv<=100):=g6.2.2.2.2.2;clear g6;go_wp2_with fail;clear k0 k1 k2 k3 k4 k5 k6 k7 k8;refine(Agw x w1 (HX.out.below a8.out) m4.out.1 m4.out.2.1).mono ?_;rintro e w2 ⟨v,u,rfl,hv,j2,f0⟩;have b6:Hid (StR w x v u bx w2):=⟨(HX.out.below a8.out).below f0,HT.out.below (a8.out.trans (f0.mono a8.out.size)) rr,hv,j2,(f0.block bx (lt_of_block a1.out)).trans a1.out,a8.out.trans (f0.mono a8.out.size)⟩;clear hv j2 f0 a8 a1 HX HT;have c2:=b6.out.c2;have c3:=b6.out.c3;have c4:=b6.out.c4;have c8:=b6.out.c8;have i4:=hI (fun W (h:StR w x v u bx W)=>Ajj (Ax:=x.Al) (nx:=x.nl) (cx:=x.cl) (A:=x.Av) (m:=x.nv) (c:=x.cv) (Aw:=x.Aw) (nw:=x.nw) (cw:=x.cw) x.now h.m h.e.laws h.e.waves h.e.word h.t g5.out);obtain⟨R,hR⟩:∃R,R=Bp (Qh x) (x.roads.map Bm) (Au x.laws) (Aj x.waves) x.word x.now:=⟨_,rfl⟩;obtain⟨V,hV⟩:∃V,V=Hs (Qh x) (x.roads.map Bm) (Au x.laws) (Aj x.waves) x.word x.now:=⟨_,rfl⟩;rw[←hR]at i4;have HR:=hI hR;have HV:=hI hV;clear hR hV;obtain⟨er,fs⟩:=R;obtain⟨ev,vs⟩:=V;go_wp2_with fail;refine(i4.out w2 b6.out).mono ?_;rintro e w3 ⟨As,cs,ps,rfl,m1,f9,o7,m2,i3⟩;have q0:Hid (ps.map Part.word=fs):=m1;have a4:=hI f9;have g9:=hI o7;have o1:=hI m2;have b9:=hI (b6.out.step i3);have b5:=hI i3;clear m1 f9 o7 m2 i3 c2 c3 c4 c8
 -- the document's forms
 have b1:Hid (∀W',Below w3.heap.size w3 W'->W'.cell? ⟨bx,2,none⟩=some (.slice x.Al x.nl x.cl)/\W'.cell? ⟨bx,3,none⟩=some (.slice x.Av x.nv x.cv)/\W'.cell? ⟨bx,4,none⟩=some (.slice x.Aw x.nw x.cw)/\W'.cell? ⟨bx,8,none⟩=some (.int .i64 x.now)):=fun W' h=>
  ⟨(b9.out.step h).c2,(b9.out.step h).c3,(b9.out.step h).c4,(b9.out.step h).c8⟩
 go_wp2_with fail;refine Bg (fun W'=>W'.cell? ⟨bx,2,none⟩=some (.slice x.Al x.nl x.cl)/\W'.cell? ⟨bx,3,none⟩=some (.slice x.Av x.nv x.cv)/\W'.cell? ⟨bx,4,none⟩=some (.slice x.Aw x.nw x.cw)/\W'.cell? ⟨bx,8,none⟩=some (.int .i64 x.now)) (by kernel_rfl) ((b1).out _ (Below.refl _ w3).drew) (fun hHeld=> ?_)
 (refine' Ae 3 rfl ?_;(try simp only[Act.put,nY,nX]));(refine' Ae 4 rfl ?_;(try simp only[Act.put,nY,nX]))
 (refine' Ae 0 rfl ?_;(try simp only[Act.put,nY,nX]));(refine' Ae 1 rfl ?_;(try simp only[Act.put,nY,nX]));(refine' Ae 2 rfl ?_;(try simp only[Act.put,nY,nX]));(refine' Ae 6 rfl ?_;(try simp only[Act.put,nY,nX]));(refine' Ae 7 rfl ?_;(try simp only[Act.put,nY,nX]));(refine' Ae 8 rfl ?_;(try simp only[Act.put,nY,nX]));(refine' Ae 9 rfl ?_;(try simp only[Act.put,nY,nX]))
 clear hHeld
 (refine Anv 5 rfl (fun K' hK'=> ?_);simp only[nY];go_simp)
 have a9:Below w3.heap.size w3 w3.drew:=(Below.refl _ w3).drew;refine(Yv x.Av x.nv x.cv x.waves _ (b9.out.step a9).e.waves f5.out).mono ?_;rintro e w4 ⟨A4,c4,rfl,d5,g3⟩;have a0:=a9.trans (g3.mono a9.size);have d6:=hI d5;have f3:=hI (b9.out.step a0);refine hK' _ _ ⟨.inr ((b1).out _ a0),fun _=> ?_⟩
 clear hK' K' d5
 (try simp only[Act.put,nY,nX])
 (refine Anv 10 rfl (fun K' hK'=> ?_);simp only[nY];go_simp)
 refine(Th u (Qh x) (x.roads.map Bm) x.Al x.nl x.cl x.laws A4 x.nv c4 x.waves x.Aw x.nw x.cw x.word x.now w4 f3.out.r f3.out.e.laws HU.out.laws d6.out f3.out.e.word HU.out.word g5.out).mono ?_;rw[←HR.out];rintro e w5 ⟨At,kt,ct,qs,rfl,o0,k9,p3,m5,j5,b0⟩;have p2:Hid (qs.map Part.word=fs):=o0;have o2:=hI k9;have j1:=hI p3;have p7:Hid (∀q∈qs,∀ad,q.1=some ad->w3.heap.size<=ad.block):=fun q hq ad had=>Nat.le_trans a0.size (m5 q hq ad had)
 have p5:Hid (∀ad,At=some ad->w3.heap.size<=ad.block):=fun ad had=>Nat.le_trans a0.size (j5 ad had)
 have a3:=hI (f3.out.step b0);have b2:Hid (Below w3.heap.size w3 w5):=a0.trans (b0.mono a0.size);have a5:=a0.trans (b0.mono a0.size);have hS:=(b1).out _ a5;refine hK' _ _ ⟨.inr hS,fun _=> ?_⟩
 clear hK' K'
 (try simp only[Act.put,nY,nX])
 (refine' Ae 11 rfl ?_;(try simp only[Act.put,nY,nX]));(refine' Ae 12 rfl ?_;(try simp only[Act.put,nY,nX]));(refine' Ae 13 rfl ?_;(try simp only[Act.put,nY,nX]));(refine' Ae 14 rfl ?_;(try simp only[Act.put,nY,nX]))
 clear hS
 (refine Anv 15 rfl (fun K' hK'=> ?_);simp only[nY];go_simp)
 refine hK' _ _ ⟨.inl (by kernel_rfl),fun _=>Bf (by kernel_rfl) ?_ _⟩
 clear hK' K' b1 a9 g3 a0 d6;clear o0 k9 p3 m5 j5 b0 a5 b9 f3
 -- the values
 have c2:=a3.out.c2;have c3:=a3.out.c3;have c4:=a3.out.c4;have c8:=a3.out.c8;go_wp2_with fail;refine(Afh (Ax:=x.Al) (nx:=x.nl) (cx:=x.cl) (A:=x.Av) (m:=x.nv) (c:=x.cv) (Aw:=x.Aw) (nw:=x.nw) (cw:=x.cw) x.now a3.out.m a3.out.e.laws a3.out.e.waves a3.out.e.word a3.out.t g5.out).mono ?_;rw[←HV.out];rintro e w6 ⟨A6,m6,c6,rfl,j8,f6⟩;have m0:=hI j8;have b8:=hI (a3.out.step f6);have d0:=hI (b2.out.trans (f6.mono b2.out.size));have g4:=hI (o2.out.below f6 rr);have d7:Hid (Hu w6 qs):=fun q hq=>(j1.out q hq).below f6 rr
 clear j8 f6 a3 b2 o2 j1 c2 c3 c4 c8
 have b1:Hid (∀W',Below w6.heap.size w6 W'->W'.cell? ⟨bx,2,none⟩=some (.slice x.Al x.nl x.cl)/\W'.cell? ⟨bx,3,none⟩=some (.slice x.Av x.nv x.cv)/\W'.cell? ⟨bx,4,none⟩=some (.slice x.Aw x.nw x.cw)/\W'.cell? ⟨bx,8,none⟩=some (.int .i64 x.now)):=fun W' h=>
  ⟨(b8.out.step h).c2,(b8.out.step h).c3,(b8.out.step h).c4,(b8.out.step h).c8⟩
 go_wp2_with fail;refine Bg (fun W'=>W'.cell? ⟨bx,2,none⟩=some (.slice x.Al x.nl x.cl)/\W'.cell? ⟨bx,3,none⟩=some (.slice x.Av x.nv x.cv)/\W'.cell? ⟨bx,4,none⟩=some (.slice x.Aw x.nw x.cw)/\W'.cell? ⟨bx,8,none⟩=some (.int .i64 x.now)) (by kernel_rfl) ((b1).out _ (Below.refl _ w6).drew) (fun hHeld=> ?_)
 (refine' Ae 3 rfl ?_;(try simp only[Act.put,nY,nX]));(refine' Ae 4 rfl ?_;(try simp only[Act.put,nY,nX]))
 (refine' Ae 0 rfl ?_;(try simp only[Act.put,nY,nX]));(refine' Ae 1 rfl ?_;(try simp only[Act.put,nY,nX]));(refine' Ae 2 rfl ?_;(try simp only[Act.put,nY,nX]));(refine' Ae 6 rfl ?_;(try simp only[Act.put,nY,nX]));(refine' Ae 7 rfl ?_;(try simp only[Act.put,nY,nX]));(refine' Ae 8 rfl ?_;(try simp only[Act.put,nY,nX]));(refine' Ae 9 rfl ?_;(try simp only[Act.put,nY,nX]))
 clear hHeld
 (refine Anv 5 rfl (fun K' hK'=> ?_);simp only[nY];go_simp)
 have a9:Below w6.heap.size w6 w6.drew:=(Below.refl _ w6).drew;refine(Yv x.Av x.nv x.cv x.waves _ (b8.out.step a9).e.waves f5.out).mono ?_;rintro e w7 ⟨A4,c4,rfl,d5,g3⟩;have a0:=a9.trans (g3.mono a9.size);have d6:=hI d5;have g2:=hI (b8.out.step a0);refine hK' _ _ ⟨.inr ((b1).out _ a0),fun _=> ?_⟩
 clear hK' K' d5
 (try simp only[Act.put,nY,nX])
 (refine Anv 10 rfl (fun K' hK'=> ?_);simp only[nY];go_simp)
 refine(Zs u (Qh x) (x.roads.map Bm) x.Al x.nl x.cl x.laws A4 x.nv c4 x.waves x.Aw x.nw x.cw x.word x.now w7 g2.out.r g2.out.e.laws HU.out.laws d6.out g2.out.e.word HU.out.word g5.out).mono ?_;rw[←HV.out];rintro e w8 ⟨A8,m8,c8,rfl,p1,b0⟩;have m9:=hI p1;have o5:=hI (g2.out.step b0);have a6:Hid (Below w6.heap.size w6 w8):=a0.trans (b0.mono a0.size);have f7:=hI (Ci.below m0.out a6.out rr);have a2:=hI (d0.out.trans (a6.out.mono d0.out.size));have d4:=hI (g4.out.below a6.out rr);have d2:Hid (Hu w8 qs):=fun q hq=>(d7.out q hq).below a6.out rr
 have a5:=a0.trans (b0.mono a0.size);have hS:=(b1).out _ a5;refine hK' _ _ ⟨.inr hS,fun _=> ?_⟩
 clear hK' K'
 (try simp only[Act.put,nY,nX])
 (refine' Ae 11 rfl ?_;(try simp only[Act.put,nY,nX]));(refine' Ae 12 rfl ?_;(try simp only[Act.put,nY,nX]));(refine' Ae 13 rfl ?_;(try simp only[Act.put,nY,nX]));(refine' Ae 14 rfl ?_;(try simp only[Act.put,nY,nX]))
 clear hS
 (refine Anv 15 rfl (fun K' hK'=> ?_);simp only[nY];go_simp)
 refine hK' _ _ ⟨.inl (by kernel_rfl),fun _=>Bf (by kernel_rfl) ?_ _⟩
 clear hK' K' b1 a9 g3 a0 d6;clear p1 b0 a5 b8 g2 d0 a6 g4 d7 m0 HV;have m7:(er !=er)=false:=by simp
 have i6:(ev !=ev)=false:=by simp
 have d9:Hid (Bs w8 At kt ct fs):=by
  show Bs _ _ _ _ _;rw[←p2.out];exact Bs.mk d4.out d2.out
 have g1:Hid (Bs w8 As ps.length cs fs):=by
  show Bs _ _ _ _ _;rw[←q0.out];exact Bs.mk ((Az.of_own a4.out (by decide)).below a2.out rr) fun p hp=>(g9.out p hp).below a2.out rr
 go_wp2_with fail;refine(Xn As At ps.length kt cs ct fs fs w8 g1.out d9.out).mono ?_;rw[show decide (fs=fs)=true from decide_eq_true rfl];rintro e w9 ⟨rfl,b7⟩;have d3:=hI (a2.out.trans (b7.mono a2.out.size));have o9:=hI (o5.out.step b7);have o3:=hI (Ci.below m9.out b7 rr);have d8:=hI (Ci.below f7.out b7 rr);have g0:=hI (d4.out.below b7 rr);have f8:Hid (Hu w9 qs):=fun q hq=>(d2.out q hq).below b7 rr
 clear b7 a2 o5 m9 f7 d4 d2 d9 g1;go_wp2_with fail;refine(Mc A6 A8 m6 m8 c6 c8 vs vs w9 d8.out o3.out).mono ?_;rw[show decide (vs=vs)=true from decide_eq_true rfl];rintro e w10 ⟨rfl,a7⟩;have b4:=hI (d3.out.trans (a7.mono d3.out.size));have p8:=hI (o9.out.step a7);have i0:=hI (g0.out.below a7 rr);have i5:Hid (Hu w10 qs):=fun q hq=>(f8.out q hq).below a7 rr
 have q1:Hid (∀p∈ps,p.2.1<=9223372036854775807):=fun p hp=>(g9.out p hp).max
 have p4:ps.length<=9223372036854775807:=by have h1:=(Az.of_own a4.out (by decide)).2.1;have h2:=(Az.of_own a4.out (by decide)).2.2.1;unfold maxLen at h2;omega
 have p0:=hI (WrW.start a4.out g9.out o1.out b4.out);have i7:=hI (b5.out.trans (b4.out.mono b5.out.size));clear a7 d3 o9 o3 d8 g0 f8 a4 g9 o1 b5 b4 p8;obtain⟨N,hN⟩:∃N,N=ps.length:=⟨_,rfl⟩;have HN:=hI hN;rw[←hN]at p4 ⊢;clear hN;go_wp2_with fail
 go_loopw [13,14] (fun s13 _ wr=>∃k:Nat,k<=N/\s13= .int .i64 (k:Int)/\Hid (WrW w2.heap.size w3.heap.size ps As w10 wr)) (fun s13 _ _=>N-(intOf s13).toNat)
 case atStart=>exact⟨0,Nat.zero_le _,rfl,p0.out⟩
 case round=>
  obtain⟨k,hk,rfl,HW⟩:=hrel;clear p0;by_cases hkN:k<N
  ·have q2:(k:Int)<(N:Int):=by omega
   obtain⟨⟨Ap,np,cp,wp⟩,hp⟩:∃p,ps[k]? =some p:=⟨ps[k]'(by rw[←HN.out];exact hkN),List.getElem?_eq_getElem _⟩;have HP:=hI hp;have p9:=q1.out _ (List.mem_of_getElem? hp);obtain⟨g,eA, -, -⟩:=HW.out.row k _ hp;simp only at p9;clear hp;go_wp2_with fail
   go_loopw [14] (fun s14 wr=>∃j:Nat,j<=np/\s14= .int .i64 (j:Int)/\Hid (WrW w2.heap.size w3.heap.size ps As w10 wr)) (fun s14 _=>np-(intOf s14).toNat)
   case atStart=>exact⟨0,Nat.zero_le _,rfl,HW.out⟩
   case round=>
    obtain⟨j,hj,rfl,HW⟩:=hrel;obtain⟨g',i9, -,cg⟩:=HW.out.row k _ HP.out;rw[eA]at i9;simp only[Option.some.injEq,Addr.mk.injEq,and_true]at i9;subst i9;simp only[Part.val]at cg;by_cases hjn:j<np
    ·have q4:(j:Int)<(np:Int):=by omega
     obtain⟨b,off,v1,v2,eB,hb,hA,k1,k2,f1,f2⟩:=HW.out.at_ HP.out hjn;simp only at eB;subst eB;have j4:=hI ((HW.out.set hb hA (off+j*2) (.int .u32 1)).set hb hA (off+j*2+1) (.int .u32 1));rw[eA];go_wp2_with fail;rw[←eA]
     go_roundw
     case rel=>first|exact⟨j+1,by omega,by go_num,j4.out⟩|((repeat apply Exists.intro);exact⟨⟨j+1,by omega,by go_num,j4.out⟩,rfl⟩)
     case measure=>simp[intOf];omega
    ·obtain rfl:j=np:=by omega
     rw[eA];go_wp2_with fail;rw[←eA]
     go_roundw
     case rel=>first|exact⟨k+1,by omega,by go_num,HW.out⟩|((repeat apply Exists.intro);exact⟨⟨k+1,by omega,by go_num,HW.out⟩,rfl⟩)
     case measure=>simp[intOf];omega
  ·obtain rfl:k=N:=by omega
   have q3:=hI (HW.out.below i7.out rr);have d1:=hI (b6.out.step q3.out);have j7:Hid (Bs wr At kt ct fs):=by show Bs _ _ _ _ _;rw[←p2.out];exact HW.out.words i0.out i5.out p7.out p5.out
   have c2:=d1.out.c2;have c3:=d1.out.c3;have c4:=d1.out.c4;have c8:=d1.out.c8;clear HW m7 i6;have m7:(er==er)=true:=by simp
   go_wp2_with fail;refine(i4.out wr d1.out).mono ?_;rintro e w11 ⟨Ag,cg,pg,rfl,o6,m3,o4, -,b3⟩
   have p6:Hid (Bs w11 Ag pg.length cg fs):=by
    have h1:pg.map Part.word=fs:=o6;show Bs _ _ _ _ _;rw[←h1];exact Bs.mk (Az.of_own m3 (by decide)) o4
   have i2:=hI (j7.out.below b3 rr);have o8:=hI (d1.out.step b3);clear o6 m3 o4 b3 d1 j7 c2 c3 c4 c8;generalize pg.length=M at*;go_wp2_with fail;refine(Xn Ag At M kt cg ct fs fs w11 p6.out i2.out).mono ?_;rw[show decide (fs=fs)=true from decide_eq_true rfl];rintro e w12 ⟨rfl,f4⟩;have i8:=hI (o8.out.step f4);clear f4 o8;go_wp2_with fail;refine(Wd w12 (i8.out).t).mono ?_;rintro e wz ⟨rfl,i1⟩;go_wp2;go_ret;exact⟨rfl,(i8.out).bl.trans (i1.mono (i8.out).bl.size)⟩
end Go.Proofs.YtaglfmlgbcmakaaGreatDoor
