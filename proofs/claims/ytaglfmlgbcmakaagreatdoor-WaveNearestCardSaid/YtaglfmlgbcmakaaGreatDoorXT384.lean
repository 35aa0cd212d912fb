/-
  ablautlaw38.WaveNearest is true.
-/
import Derived.Test.YtaglfmlgbcmakaaGreatDoorH08
set_option linter.all false
set_option maxRecDepth 100000
set_option maxHeartbeats 4000000
namespace Go.Proofs.YtaglfmlgbcmakaaGreatDoor
open Go.RowKit Go.Shelf
theorem Aej {n:Nat}{rs:List Bd}{p c:Nat}(hp:p<n)(hc:c<n):Ht n rs (p:Int) (c:Int)=D6 n rs p c:=by
 unfold Ht;rw[if_pos ⟨⟨by omega,by omega⟩,by omega,by omega⟩];rfl
theorem S5 (x:EdR)(w:World)(hx:M5 w x)(hT:B9 w):Calls Tryz.prog 11 #[edV x] w (Ms w):=by
 have HX:=hI hx;have HT:=hI hT;clear hx hT;go_enter Tryz.func11,Tryz.ntmps11;have b6:Below w.heap.size w (w.alloc (.cells #[.slice x.An x.nn x.cn, .slice x.Ar x.nr x.cr, .slice x.Al x.nl x.cl, .slice x.Av x.nv x.cv, .slice x.Aw x.nw x.cw, .int .i64 x.a, .int .i64 x.i, .int .i64 x.j, .int .i64 x.now] 66)):=(Below.refl _ w).alloc rr _;have d2:(w.alloc (.cells #[.slice x.An x.nn x.cn, .slice x.Ar x.nr x.cr, .slice x.Al x.nl x.cl, .slice x.Av x.nv x.cv, .slice x.Aw x.nw x.cw, .int .i64 x.a, .int .i64 x.i, .int .i64 x.j, .int .i64 x.now] 66)).heap[w.heap.size]? =some (.cells #[.slice x.An x.nn x.cn, .slice x.Ar x.nr x.cr, .slice x.Al x.nl x.cl, .slice x.Av x.nv x.cv, .slice x.Aw x.nw x.cw, .int .i64 x.a, .int .i64 x.i, .int .i64 x.j, .int .i64 x.now] 66 (0,0)):=hpt;have d0:=hI b6;have d8:=hI d2;clear b6 d2;go_wp2_with fail;obtain⟨bx,i1⟩:∃bx,bx=w.heap.size:=⟨_,rfl⟩;rw[←i1]at d8 ⊢;generalize w.alloc (.cells #[.slice x.An x.nn x.cn, .slice x.Ar x.nr x.cr, .slice x.Al x.nl x.cl, .slice x.Av x.nv x.cv, .slice x.Aw x.nw x.cw, .int .i64 x.a, .int .i64 x.i, .int .i64 x.j, .int .i64 x.now] 66)=W0 at*;clear i1;refine(J6 x W0 (HX.out.below d0.out) (HT.out.below d0.out rr)).mono ?_;rintro e w1 ⟨h1,g2⟩;have b4:=hI (d0.out.trans (g2.mono d0.out.size));have j5:=hI ((g2.block bx (lt_of_block d8.out)).trans d8.out);clear g2 d0 d8;rcases h1 with rfl|⟨b,rfl,hm,hn⟩
 ·go_wp2_with fail;refine(Dd w1 (HT.out.below b4.out rr)).mono ?_;rintro e wz ⟨rfl,f9⟩;go_wp2;go_ret;exact⟨rfl,b4.out.trans (f9.mono b4.out.size)⟩
 obtain⟨rs,f5⟩:∃rs,rs=x.roads.map B1:=⟨_,rfl⟩;rw[←f5]at hm;have p4:=hI f5;have HN:=hI hn;have HS:Hid (StW w x rs b bx w1):=⟨⟨hm,HX.out.below b4.out,HT.out.below b4.out rr⟩,j5.out,b4.out⟩;have k2:=hn.n;have m8:=hn.v;have p0:=hn.l;clear f5 hm hn b4 j5 HX HT;have i2:Hid (Cw x.nn rs):=HS.out.g.m.ok;go_wp2_with fail
 go_loopw [4] (fun s4 wr=>∃k:Nat,s4= .int .i64 (k:Int)/\k<=x.nv/\Hid (StW w x rs b bx wr)) (fun s4 _=>x.nv-(intOf s4).toNat)
 case atStart=>exact⟨0,rfl,Nat.zero_le _,HS.out⟩
 case round=>
  obtain⟨k,rfl,hk,b2⟩:=hrel;clear HS;have c3:=b2.out.c3;by_cases hkl:k<x.nv
  ·have o0:(k:Int)<(x.nv:Int):=by omega
   clear c3;obtain⟨y,yb,yo,hy,k8,c3,l0,l1,l2,l3,l4⟩:=b2.out.wave hkl;have a2:=List.mem_of_getElem? hy;have h1:=HN.out.one a2;obtain⟨i5,k6,m0,m7,j7⟩:=R8 h1;have g4:=b2.out.g.e.waves.2 y a2;have d5:Hid (∀c,tAt x.nn rs (Af x.waves) c k=Da x.nn rs y.d c):=fun c=>Zm (M6 hy)
   have i0:=hI (fun W (h:GdW x rs b W)=>h.arrive HN.out hy);have i4:=hI g4.pts;have g3:=g4.u.fin;have p3:=hI h1;have k5:=hI i5;clear hy a2 h1 g4 i5;obtain⟨⟨law,ps,T,S,fin⟩,Ay,ny,cy⟩:=y;simp only at l0 l1 l2 l3 l4 k6 m0 m7 j7 g3;obtain⟨T,rfl⟩:∃T':Nat,T=T':=⟨T.toNat,by omega⟩;obtain⟨S,rfl⟩:∃S':Nat,S=S':=⟨S.toNat,by omega⟩;obtain⟨R,hR⟩:∃R,R=fun a=>(tAt x.nn rs (Af x.waves) a k).isNone:=⟨_,rfl⟩
   have b3:=hI (fun W (h:GdW x rs b W)=>h.relics HN.out hkl);rw[←hR]at b3;have d7:=hI hR;clear hR;go_wp2_with fail;have d2:(wr.alloc (.cells #[.int .i64 law, .slice Ay ny cy, .int .i64 (T:Int), .int .i64 (S:Int), .int .i64 fin] 38)).heap[wr.heap.size]? =some (.cells #[.int .i64 law, .slice Ay ny cy, .int .i64 (T:Int), .int .i64 (S:Int), .int .i64 fin] 38 (0,0)):=hpt;have b6:Below wr.heap.size wr (wr.alloc (.cells #[.int .i64 law, .slice Ay ny cy, .int .i64 (T:Int), .int .i64 (S:Int), .int .i64 fin] 38)):=(Below.refl _ wr).alloc rr _;have g5:=hI (b2.out.step b6);have i8:=hI (Ba.below i4.out b6 rr);have f2:=hI d2;obtain⟨by_,j3⟩:∃by_,by_=wr.heap.size:=⟨_,rfl⟩;rw[←j3]at f2 ⊢;generalize wr.alloc (.cells #[.int .i64 law, .slice Ay ny cy, .int .i64 (T:Int), .int .i64 (S:Int), .int .i64 fin] 38)=W4 at*;clear j3 d2 b6 b2 i4 c3 l0 l1 l2 l3 l4 k8;refine(i0.out _ g5.out.g).mono ?_;rintro e w5 ⟨At,ct,rfl,g9,f3⟩;have b9:=hI (g5.out.step f3);have i7:=hI (Ba.below i8.out f3 rr);have f6:=hI ((f3.block _ (lt_of_block f2.out)).trans f2.out);have g8:=hI g9;clear f3 g9 g5 i8 f2 i0;have c2:=b9.out.c2;have c3:=b9.out.c3;go_wp2_with fail;refine(b3.out _ b9.out.g).mono ?_;rintro e w6 ⟨Ar,cr,rfl,g7,d6⟩;obtain⟨F,hF⟩:∃F:World->Prop,F=fun W=>StW w x rs b bx W/\W.heap[by_]? =some (.cells #[.int .i64 law, .slice Ay ny cy, .int .i64 (T:Int), .int .i64 (S:Int), .int .i64 fin] 38 (0,0))/\Ba W At x.nn ct ((List.range x.nn).map fun a=>Bj (tAt x.nn rs (Af x.waves) a k))/\Ba W Ay ny cy ps/\Ba W Ar (Bl R x.nn) cr (Hx R x.nn):=⟨_,rfl⟩
   have b8:Hid (F w6):=by
    show F w6;rw[hF];exact⟨b9.out.step d6,(d6.block _ (lt_of_block f6.out)).trans f6.out,Ba.below g8.out d6 rr,Ba.below i7.out d6 rr,g7⟩
   have a8:Hid (∀W W',F W->Below W.heap.size W W'->F W'):=fun W W' h hb=>by
    rw[hF]at h ⊢;obtain⟨h1,h2,h3,h4,h5⟩:=h;exact⟨h1.step hb,(hb.block _ (lt_of_block h2)).trans h2,h3.below hb rr,h4.below hb rr,h5.below hb rr⟩
   have f0:Hid (∀W,F W->StW w x rs b bx W):=fun W h=>by rw[hF]at h;exact h.1
   have d9:Hid (∀W,F W->W.heap[by_]? =some (.cells #[.int .i64 law, .slice Ay ny cy, .int .i64 (T:Int), .int .i64 (S:Int), .int .i64 fin] 38 (0,0))):=fun W h=>by rw[hF]at h;exact h.2.1
   have g6:Hid (∀W,F W->Ba W At x.nn ct ((List.range x.nn).map fun a=>Bj (tAt x.nn rs (Af x.waves) a k))):=fun W h=>by rw[hF]at h;exact h.2.2.1
   have g1:Hid (∀W,F W->Ba W Ay ny cy ps):=fun W h=>by rw[hF]at h;exact h.2.2.2.1
   have f7:Hid (∀W,F W->Ba W Ar (Bl R x.nn) cr (Hx R x.nn)):=fun W h=>by rw[hF]at h;exact h.2.2.2.2
   have o9:=(g1.out _ b8.out).max;have d1:ps.length=ny:=(g1.out _ b8.out).len;have k3:=hI d1
   have d3:Hid (∀W,F W→∀c,c<x.nn→∃sb so,At=some ⟨sb,so,none⟩/\sb<W.heap.size/\W.cell? ⟨sb,so+c,none⟩=some (.int .i64 (Bj (Da x.nn rs ⟨law,ps,T,S,fin⟩ c)))):=fun W h c hc=>by
    obtain⟨pb,po,v,e1,e2,e3,e4⟩:=(g6.out _ h).at_ hc;rw[List.getElem?_map,List.getElem?_range hc,Option.map_some]at e4;obtain rfl:=Option.some.inj e4;rw[d5.out]at e3;exact⟨pb,po,e1,e2,e3⟩
   clear hF d6 g7 b9 i7 f6 g8 b3 g6 d1 c2 c3;go_wp2_with fail;refine((f0.out _ b8.out).g.length).mono ?_;rintro e w7 ⟨rfl,j1⟩;have i9:=hI (a8.out _ _ b8.out j1);clear b8 j1;go_wp2_with fail
   go_loopw [10,11] (fun s10 s11 wr=>∃c:Nat,s10= .int .i64 ((Bl R c:Nat):Int)/\s11= .int .i64 (c:Int)/\c<=x.nn/\Hid (F wr)) (fun _ s11 _=>x.nn-(intOf s11).toNat)
   case atStart=>exact⟨0,rfl,rfl,Nat.zero_le _,i9.out⟩
   case round=>
    obtain⟨c,rfl,rfl,hc,f1⟩:=hrel;clear i9;have k0:Bl R c<=c:=Vn;by_cases hcl:c<x.nn
    ·have o1:(c:Int)<(x.nn:Int):=by omega
     go_wp2_with fail
     go_loopw [12,13,14] (fun s12 s13 s14 wr=>∃q:Nat,s12= .int .i64 (((Hb x.nn rs ps c q).getD 0:Nat):Int)/\s13= .bool (Hb x.nn rs ps c q).isSome/\s14= .int .i64 (q:Int)/\q<=ny/\Hid (F wr)) (fun _ _ s14 _=>ny-(intOf s14).toNat)
     case atStart=>exact⟨0,rfl,rfl,rfl,Nat.zero_le _,f1.out⟩
     case round=>
      obtain⟨q,rfl,rfl,rfl,hq,b5⟩:=hrel;clear f1;have m1:=Ad (j:=1) (d9.out _ b5.out) rfl;obtain⟨o,ho⟩:∃o,o=Hb x.nn rs ps c q:=⟨_,rfl⟩;have HO:=hI ho;rw[←ho];clear ho;by_cases hql:q<ny
      ·have o5:(q:Int)<(ny:Int):=by omega
       obtain⟨ab,ao,p,eA,p6,m9,hp⟩:=(g1.out _ b5.out).at_ hql;have a2:=List.mem_of_getElem? hp;obtain⟨m5,o2⟩:=k5.out p a2;obtain⟨p,rfl⟩:∃p':Nat,p=p':=⟨p.toNat,by omega⟩;have a6:Hid (Hb x.nn rs ps c (q+1)=J4 o (D6 x.nn rs p c)):=by show _=_;rw[Abl hp,←HO.out];rfl
       subst eA;clear hp a2 m5;go_wp2_with fail;refine(Ad7 b x.nn rs (p:Int) (c:Int) wr (f0.out _ b5.out).g.m).mono ?_;rw[Aej (by omega) hcl];obtain⟨dd,j4⟩:∃dd,dd=D6 x.nn rs p c:=⟨_,rfl⟩;rw[←j4]at a6 ⊢;clear j4;rintro e wd ⟨rfl,j2⟩;have b0:=hI (a8.out _ _ b5.out j2);clear j2 b5 m1
       cases dd with
       |none=>
        have HM:Hid (Hb x.nn rs ps c (q+1)=o):=by show _=_;rw[a6.out,Ug]
        simp only[Option.getD_none,Option.isSome_none];go_wp2_with fail
        go_roundw
        case rel=>first|exact⟨q+1,by rw[HM.out],by rw[HM.out],by go_num,by omega,b0.out⟩|((repeat apply Exists.intro);exact⟨⟨q+1,by rw[HM.out],by rw[HM.out],by go_num,by omega,b0.out⟩,rfl⟩)
        case measure=>simp[intOf];omega
       |some d=>
        simp only[Option.getD_some,Option.isSome_some]
        cases o with
        |none=>
         have HM:Hid (Hb x.nn rs ps c (q+1)=some d):=by show _=_;rw[a6.out];rfl
         simp only[Option.getD_none,Option.isSome_none];go_wp2_with fail
         go_roundw
         case rel=>first|exact⟨q+1,by rw[HM.out];rfl,by rw[HM.out];rfl,by go_num,by omega,b0.out⟩|((repeat apply Exists.intro);exact⟨⟨q+1,by rw[HM.out];rfl,by rw[HM.out];rfl,by go_num,by omega,b0.out⟩,rfl⟩)
         case measure=>simp[intOf];omega
        |some e0=>
         simp only[Option.getD_some,Option.isSome_some];by_cases hde:d<e0
         ·have HM:Hid (Hb x.nn rs ps c (q+1)=some d):=by show _=_;rw[a6.out,Px,if_pos hde]
          have f4:(d:Int)<(e0:Int):=by omega
          go_wp2_with fail
          go_roundw
          case rel=>first|exact⟨q+1,by rw[HM.out];rfl,by rw[HM.out];rfl,by go_num,by omega,b0.out⟩|((repeat apply Exists.intro);exact⟨⟨q+1,by rw[HM.out];rfl,by rw[HM.out];rfl,by go_num,by omega,b0.out⟩,rfl⟩)
          case measure=>simp[intOf];omega
         ·have HM:Hid (Hb x.nn rs ps c (q+1)=some e0):=by show _=_;rw[a6.out,Px,if_neg hde]
          have f4:¬(d:Int)<(e0:Int):=by omega
          go_wp2_with fail
          go_roundw
          case rel=>first|exact⟨q+1,by rw[HM.out];rfl,by rw[HM.out];rfl,by go_num,by omega,b0.out⟩|((repeat apply Exists.intro);exact⟨⟨q+1,by rw[HM.out];rfl,by rw[HM.out];rfl,by go_num,by omega,b0.out⟩,rfl⟩)
          case measure=>simp[intOf];omega
      ·obtain rfl:q=ny:=by omega
       obtain⟨wq,m6⟩:∃wq,wq=wr:=⟨_,rfl⟩;subst m6;have a0:=b5;clear b5
       have b7:Hid (Kn x.nn rs ⟨law,ps,T,S,fin⟩ c=o):=by
        have:=Aez i2.out (x:=⟨law,ps,T,S,fin⟩) (c:=c)
        show _=_;rw[HO.out,←this];show Hb x.nn rs ps c ps.length=_;rw[k3.out]
       clear HO;obtain⟨sb,so,eT,p5,a9⟩:=d3.out _ a0.out c hcl;have m2:=Ad (j:=2) (d9.out _ a0.out) rfl;have m3:=Ad (j:=3) (d9.out _ a0.out) rfl;have m4:=Ad (j:=4) (d9.out _ a0.out) rfl
       cases o with
       |none=>
        have a1:Da x.nn rs ⟨law,ps,T,S,fin⟩ c=none:=Uf b7.out;have a3:Hid (R c=true):=by show _=_;rw[d7.out];show(tAt x.nn rs (Af x.waves) c k).isNone=true;rw[d5.out,a1];rfl
        rw[a1]at a9;simp only[Bj]at a9
        obtain⟨i3,b1⟩:Bl R c<Bl R x.nn∧∃pb po,Ar=some ⟨pb,po,none⟩/\pb<wq.heap.size/\wq.cell? ⟨pb,po+Bl R c,none⟩=some (.int .i64 (c:Int)):=by
         rcases Km (P:=R) hcl with⟨h1,h2,h3⟩|⟨h1,h2⟩|⟨h1,h2,v,h3,h4⟩
         ·obtain⟨pb,po,v,e1,e2,e3,e4⟩:=(f7.out _ a0.out).at_ h2;rw[h3]at e4;obtain rfl:=Option.some.inj e4;exact⟨h2,pb,po,e1,e2,e3⟩
         ·have:=a3.out;rw[h1]at this;cases this
         ·have:=a3.out;rw[h1]at this;cases this
        obtain⟨pb,po,eR,j0,b1⟩:=b1;have a4:Hid (Bl R (c+1)=Bl R c+1):=Kt a3.out;have a5:¬Bl R x.nn<=Bl R c:=by omega
        have i6:decide (Bl R x.nn<=Bl R c)=false:=decide_eq_false a5;have d4:decide (((Bl R x.nn:Nat):Int)<=((Bl R c:Nat):Int))=false:=decide_eq_false (by omega);subst eT eR;clear a1;simp only[Option.getD_none,Option.isSome_none];go_wp2_with fail
        go_quiet (fail)
        go_wp2_with fail
        go_roundw
        case rel=>first|exact⟨c+1,by rw[a4.out];rfl,by go_num,by omega,a8.out _ _ a0.out ((Below.refl _ _).drewN _)⟩|((repeat apply Exists.intro);exact⟨⟨c+1,by rw[a4.out];rfl,by go_num,by omega,a8.out _ _ a0.out ((Below.refl _ _).drewN _)⟩,rfl⟩)
        case measure=>simp[intOf];omega
       |some d=>
        have a7:=Ago i2.out b7.out;simp only[Option.getD_some,Option.isSome_some];obtain⟨m,hm⟩:∃m,m=S*d:=⟨_,rfl⟩
        have f8:m<=1073741824*(1073741824*11):=by
         rw[hm];exact Nat.mul_le_mul (by omega) (Nat.le_trans a7 (Nat.mul_le_mul_left _ (by omega)))
        have g0:(S:Int)*(d:Int)=(m:Int):=by rw[hm];exact(Int.natCast_mul S d).symm
        have k1:IntKind.u64.wrap ((S:Int)*(d:Int))=(m:Int):=by rw[g0];exact IntWalk.u64_in _ (by omega)
        have k4:IntKind.u64.wrap ((T:Int)+(m:Int))=(T:Int)+(m:Int):=IntWalk.u64_in _ (by omega);have j8:IntKind.u64.wrap (m:Int)=(m:Int):=IntWalk.u64_in _ (by omega);have j9:IntKind.u64.wrap (T:Int)=(T:Int):=IntWalk.u64_in _ (by omega);have k9:IntKind.u64.wrap (S:Int)=(S:Int):=IntWalk.u64_in _ (by omega);have o4:d<=1073741824*11:=Nat.le_trans a7 (Nat.mul_le_mul_left _ (by omega));have k7:IntKind.u64.wrap (d:Int)=(d:Int):=IntWalk.u64_in _ (by omega);by_cases hf0:fin<=0
        ·have a1:Da x.nn rs ⟨law,ps,T,S,fin⟩ c=none:=Rx b7.out (by show fin<=_;omega);have a3:Hid (R c=true):=by show _=_;rw[d7.out];show(tAt x.nn rs (Af x.waves) c k).isNone=true;rw[d5.out,a1];rfl
         rw[a1]at a9;simp only[Bj]at a9
         obtain⟨i3,b1⟩:Bl R c<Bl R x.nn∧∃pb po,Ar=some ⟨pb,po,none⟩/\pb<wq.heap.size/\wq.cell? ⟨pb,po+Bl R c,none⟩=some (.int .i64 (c:Int)):=by
          rcases Km (P:=R) hcl with⟨h1,h2,h3⟩|⟨h1,h2⟩|⟨h1,h2,v,h3,h4⟩
          ·obtain⟨pb,po,v,e1,e2,e3,e4⟩:=(f7.out _ a0.out).at_ h2;rw[h3]at e4;obtain rfl:=Option.some.inj e4;exact⟨h2,pb,po,e1,e2,e3⟩
          ·have:=a3.out;rw[h1]at this;cases this
          ·have:=a3.out;rw[h1]at this;cases this
         obtain⟨pb,po,eR,j0,b1⟩:=b1;have a4:Hid (Bl R (c+1)=Bl R c+1):=Kt a3.out;have a5:¬Bl R x.nn<=Bl R c:=by omega
         have i6:decide (Bl R x.nn<=Bl R c)=false:=decide_eq_false a5;have d4:decide (((Bl R x.nn:Nat):Int)<=((Bl R c:Nat):Int))=false:=decide_eq_false (by omega);subst eT eR;have j6:¬(0:Int)<fin:=by omega
         clear a1 hm f8 g0 k1 k4 j9 k9 k7 j8 a7;go_wp2_with fail
         go_quiet (fail)
         go_wp2_with fail
         go_roundw
         case rel=>first|exact⟨c+1,by rw[a4.out];rfl,by go_num,by omega,a8.out _ _ a0.out ((Below.refl _ _).drewN _)⟩|((repeat apply Exists.intro);exact⟨⟨c+1,by rw[a4.out];rfl,by go_num,by omega,a8.out _ _ a0.out ((Below.refl _ _).drewN _)⟩,rfl⟩)
         case measure=>simp[intOf];omega
        ·have j6:(0:Int)<fin:=by omega
         have p2:IntKind.u64.wrap fin=fin:=IntWalk.u64_in _ (by omega);by_cases hreach:(T:Int)+(m:Int)<fin
         ·have a1:Da x.nn rs ⟨law,ps,T,S,fin⟩ c=some (T+m):=by
           rw[Rw b7.out (by show fin<=_;omega) (by show((((T:Int).toNat)+((S:Int).toNat)*d:Nat):Int)<fin;rw[Int.toNat_natCast,Int.toNat_natCast,←hm];omega)];show some ((T:Int).toNat+(S:Int).toNat*d)=_;rw[Int.toNat_natCast,Int.toNat_natCast,←hm]
          have a3:Hid (R c=false):=by show _=_;rw[d7.out];show(tAt x.nn rs (Af x.waves) c k).isNone=false;rw[d5.out,a1];rfl
          have a4:Hid (Bl R (c+1)=Bl R c):=Hz a3.out;rw[a1]at a9;simp only[Bj,Int.natCast_add]at a9;have o3:IntKind.i64.wrap ((S:Int)*(d:Int))=(m:Int):=by rw[g0];exact IntWalk.i64_in _ (by omega)
          have p1:IntKind.i64.wrap ((T:Int)+(m:Int))=(T:Int)+(m:Int):=IntWalk.i64_in _ (by omega);have o6:(0:Int)<=(T:Int)+(m:Int):=by omega
          have o7:((m:Int)<9223372036854775808):=by omega
          subst eT;clear a1 hm f8 a7;go_wp2_with fail
          go_quiet (fail)
          go_wp2_with fail
          go_roundw
          case rel=>first|exact⟨c+1,by rw[a4.out],by go_num,by omega,a8.out _ _ a0.out ((Below.refl _ _).drewN _)⟩|((repeat apply Exists.intro);exact⟨⟨c+1,by rw[a4.out],by go_num,by omega,a8.out _ _ a0.out ((Below.refl _ _).drewN _)⟩,rfl⟩)
          case measure=>simp[intOf];omega
         ·have a1:Da x.nn rs ⟨law,ps,T,S,fin⟩ c=none:=Rx b7.out (by show fin<=((((T:Int).toNat)+((S:Int).toNat)*d:Nat):Int);rw[Int.toNat_natCast,Int.toNat_natCast,←hm];omega);have a3:Hid (R c=true):=by show _=_;rw[d7.out];show(tAt x.nn rs (Af x.waves) c k).isNone=true;rw[d5.out,a1];rfl
          rw[a1]at a9;simp only[Bj]at a9
          obtain⟨i3,b1⟩:Bl R c<Bl R x.nn∧∃pb po,Ar=some ⟨pb,po,none⟩/\pb<wq.heap.size/\wq.cell? ⟨pb,po+Bl R c,none⟩=some (.int .i64 (c:Int)):=by
           rcases Km (P:=R) hcl with⟨h1,h2,h3⟩|⟨h1,h2⟩|⟨h1,h2,v,h3,h4⟩
           ·obtain⟨pb,po,v,e1,e2,e3,e4⟩:=(f7.out _ a0.out).at_ h2;rw[h3]at e4;obtain rfl:=Option.some.inj e4;exact⟨h2,pb,po,e1,e2,e3⟩
           ·have:=a3.out;rw[h1]at this;cases this
           ·have:=a3.out;rw[h1]at this;cases this
          obtain⟨pb,po,eR,j0,b1⟩:=b1;have a4:Hid (Bl R (c+1)=Bl R c+1):=Kt a3.out;have a5:¬Bl R x.nn<=Bl R c:=by omega
          have i6:decide (Bl R x.nn<=Bl R c)=false:=decide_eq_false a5;have d4:decide (((Bl R x.nn:Nat):Int)<=((Bl R c:Nat):Int))=false:=decide_eq_false (by omega);subst eT eR;clear a1 hm f8 a7;have o8:decide ((T:Int)+(m:Int)<fin)=false:=decide_eq_false hreach;go_wp2_with fail
          go_quiet (fail)
          go_wp2_with fail
          go_roundw
          case rel=>first|exact⟨c+1,by rw[a4.out];rfl,by go_num,by omega,a8.out _ _ a0.out ((Below.refl _ _).drewN _)⟩|((repeat apply Exists.intro);exact⟨⟨c+1,by rw[a4.out];rfl,by go_num,by omega,a8.out _ _ a0.out ((Below.refl _ _).drewN _)⟩,rfl⟩)
          case measure=>simp[intOf];omega
    ·obtain rfl:c=x.nn:=by omega
     go_wp2_with fail
     go_roundw
     case rel=>first|exact⟨k+1,by go_num,by omega,(f0.out _ f1.out)⟩|((repeat apply Exists.intro);exact⟨⟨k+1,by go_num,by omega,(f0.out _ f1.out)⟩,rfl⟩)
     case measure=>simp[intOf];omega
  ·obtain rfl:k=x.nv:=by omega
   go_wp2_with fail;refine(Dd wr (b2.out).g.t).mono ?_;rintro e wz ⟨rfl,f9⟩;go_wp2;go_ret;exact⟨rfl,(b2.out).bl.trans (f9.mono (b2.out).bl.size)⟩
end Go.Proofs.YtaglfmlgbcmakaaGreatDoor
