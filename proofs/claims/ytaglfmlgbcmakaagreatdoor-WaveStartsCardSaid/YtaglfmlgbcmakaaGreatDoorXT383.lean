/-
  ablautlaw38.WaveStarts is true.
-/
import Derived.Test.YtaglfmlgbcmakaaGreatDoorH08
set_option linter.all false
set_option maxRecDepth 100000
set_option maxHeartbeats 4000000
namespace Go.Proofs.YtaglfmlgbcmakaaGreatDoor
open Go.RowKit Go.Shelf
theorem Vh (x:EdR)(w:World)(hx:M5 w x)(hT:B9 w):Calls Tryz.prog 9 #[edV x] w (Ms w):=by
 have HX:=hI hx;have HT:=hI hT;clear hx hT;go_enter Tryz.func9,Tryz.ntmps9;have b8:Below w.heap.size w (w.alloc (.cells #[.slice x.An x.nn x.cn, .slice x.Ar x.nr x.cr, .slice x.Al x.nl x.cl, .slice x.Av x.nv x.cv, .slice x.Aw x.nw x.cw, .int .i64 x.a, .int .i64 x.i, .int .i64 x.j, .int .i64 x.now] 66)):=(Below.refl _ w).alloc rr _;have d8:(w.alloc (.cells #[.slice x.An x.nn x.cn, .slice x.Ar x.nr x.cr, .slice x.Al x.nl x.cl, .slice x.Av x.nv x.cv, .slice x.Aw x.nw x.cw, .int .i64 x.a, .int .i64 x.i, .int .i64 x.j, .int .i64 x.now] 66)).heap[w.heap.size]? =some (.cells #[.slice x.An x.nn x.cn, .slice x.Ar x.nr x.cr, .slice x.Al x.nl x.cl, .slice x.Av x.nv x.cv, .slice x.Aw x.nw x.cw, .int .i64 x.a, .int .i64 x.i, .int .i64 x.j, .int .i64 x.now] 66 (0,0)):=hpt;have d9:=hI b8;have f6:=hI d8;clear b8 d8;go_wp2_with fail;obtain⟨bx,k1⟩:∃bx,bx=w.heap.size:=⟨_,rfl⟩;rw[←k1]at f6 ⊢;generalize w.alloc (.cells #[.slice x.An x.nn x.cn, .slice x.Ar x.nr x.cr, .slice x.Al x.nl x.cl, .slice x.Av x.nv x.cv, .slice x.Aw x.nw x.cw, .int .i64 x.a, .int .i64 x.i, .int .i64 x.j, .int .i64 x.now] 66)=W0 at*;clear k1;refine(J6 x W0 (HX.out.below d9.out) (HT.out.below d9.out rr)).mono ?_;rintro e w1 ⟨h1,g6⟩;have b9:=hI (d9.out.trans (g6.mono d9.out.size));have o3:=hI ((g6.block bx (lt_of_block f6.out)).trans f6.out);clear g6 d9 f6;rcases h1 with rfl|⟨b,rfl,hm,hn⟩
 ·go_wp2_with fail;refine(Dd w1 (HT.out.below b9.out rr)).mono ?_;rintro e wz ⟨rfl,i2⟩;go_wp2;go_ret;exact⟨rfl,b9.out.trans (i2.mono b9.out.size)⟩
 obtain⟨rs,j2⟩:∃rs,rs=x.roads.map B1:=⟨_,rfl⟩;rw[←j2]at hm;have r5:=hI j2;have HN:=hI hn;have HS:Hid (StW w x rs b bx w1):=⟨⟨hm,HX.out.below b9.out,HT.out.below b9.out rr⟩,o3.out,b9.out⟩;have p5:=hn.n;have q6:=hn.v;have q8:=hn.l;clear j2 hm hn b9 o3 HX HT;have d3:Hid (Cw x.nn rs):=HS.out.g.m.ok;have d2:Hid (rs.length<=512):=HS.out.g.m.fewR;go_wp2_with fail;refine(Af0 b x.nn rs w1 HS.out.g.m).mono ?_;rintro e w2 ⟨v,rfl,ho,k9⟩;obtain⟨Ar,cr,rfl⟩:=Bh ho;have i8:Hid (Dl w2 Ar rs.length cr (rs.map Dk)):=⟨Az.of_own ho (by decide),by simp⟩;have k5:=hI (HS.out.step k9);clear ho k9 HS;obtain⟨nr,g3⟩:∃nr,nr=rs.length:=⟨_,rfl⟩;rw[←g3]at i8 d2 ⊢;have o6:=hI g3;have o7:=d2.out;clear g3;go_wp2_with fail
 go_loopw [5] (fun s5 wr=>∃k:Nat,s5= .int .i64 (k:Int)/\k<=x.nv/\Hid (StW w x rs b bx wr)/\Hid (Dl wr Ar nr cr (rs.map Dk))) (fun s5 _=>x.nv-(intOf s5).toNat)
 case atStart=>exact⟨0,rfl,Nat.zero_le _,k5.out,i8.out⟩
 case round=>
  obtain⟨k,rfl,hk,b5,m0⟩:=hrel;clear k5 i8;have c3:=b5.out.c3;by_cases hkl:k<x.nv
  ·have r0:(k:Int)<(x.nv:Int):=by omega
   clear c3;obtain⟨y,yb,yo,hy,p3,c3,l0,l1,l2,l3,l4⟩:=b5.out.wave hkl;have a4:=List.mem_of_getElem? hy;have h1:=HN.out.one a4;obtain⟨k2,o5,q0,p0,k7⟩:=R8 h1;have g7:=b5.out.g.e.waves.2 y a4;have o4:Hid (∀c,tAt x.nn rs (Af x.waves) c k=Da x.nn rs y.d c):=fun c=>Zm (M6 hy)
   have m6:=hI (fun W (h:GdW x rs b W)=>h.arrive HN.out hy);have j8:=hI g7.pts;have j3:=g7.u.fin;have m9:=hI h1;have p2:=hI k2;clear hy a4 h1 g7 k2;obtain⟨⟨law,ps,T,S,fin⟩,Ay,ny,cy⟩:=y;simp only at l0 l1 l2 l3 l4 o5 q0 p0 k7 j3;obtain⟨T,rfl⟩:∃T':Nat,T=T':=⟨T.toNat,by omega⟩;obtain⟨S,rfl⟩:∃S':Nat,S=S':=⟨S.toNat,by omega⟩;go_wp2_with fail;have d8:(wr.alloc (.cells #[.int .i64 law, .slice Ay ny cy, .int .i64 (T:Int), .int .i64 (S:Int), .int .i64 fin] 38)).heap[wr.heap.size]? =some (.cells #[.int .i64 law, .slice Ay ny cy, .int .i64 (T:Int), .int .i64 (S:Int), .int .i64 fin] 38 (0,0)):=hpt;have b8:Below wr.heap.size wr (wr.alloc (.cells #[.int .i64 law, .slice Ay ny cy, .int .i64 (T:Int), .int .i64 (S:Int), .int .i64 fin] 38)):=(Below.refl _ wr).alloc rr _;have i4:=hI (b5.out.step b8);have o1:=hI (m0.out.below b8 rr);have k0:=hI (Ba.below j8.out b8 rr);have f7:=hI d8;obtain⟨by_,m7⟩:∃by_,by_=wr.heap.size:=⟨_,rfl⟩;rw[←m7]at f7 ⊢;generalize wr.alloc (.cells #[.int .i64 law, .slice Ay ny cy, .int .i64 (T:Int), .int .i64 (S:Int), .int .i64 fin] 38)=W4 at*;clear m7 d8 b8 b5 m0 j8 c3 l0 l1 l2 l3 l4 p3;refine(m6.out _ i4.out.g).mono ?_;rintro e w5 ⟨At,ct,rfl,j7,d6⟩;obtain⟨F,hF⟩:∃F:World->Prop,F=fun W=>StW w x rs b bx W/\W.heap[by_]? =some (.cells #[.int .i64 law, .slice Ay ny cy, .int .i64 (T:Int), .int .i64 (S:Int), .int .i64 fin] 38 (0,0))/\Ba W At x.nn ct ((List.range x.nn).map fun a=>Bj (tAt x.nn rs (Af x.waves) a k))/\Ba W Ay ny cy ps/\Dl W Ar nr cr (rs.map Dk):=⟨_,rfl⟩
   have f1:Hid (F w5):=by
    show F w5;rw[hF];exact⟨i4.out.step d6,(d6.block _ (lt_of_block f7.out)).trans f7.out,j7,Ba.below k0.out d6 rr,o1.out.below d6 rr⟩
   have a2:Hid (∀W W',F W->Below W.heap.size W W'->F W'):=fun W W' h hb=>by
    rw[hF]at h ⊢;obtain⟨h1,h2,h3,h4,h5⟩:=h;exact⟨h1.step hb,(hb.block _ (lt_of_block h2)).trans h2,h3.below hb rr,h4.below hb rr,h5.below hb rr⟩
   have i6:Hid (∀W,F W->StW w x rs b bx W):=fun W h=>by rw[hF]at h;exact h.1
   have b6:Hid (∀W,F W->W.heap[by_]? =some (.cells #[.int .i64 law, .slice Ay ny cy, .int .i64 (T:Int), .int .i64 (S:Int), .int .i64 fin] 38 (0,0))):=fun W h=>by rw[hF]at h;exact h.2.1
   have k8:Hid (∀W,F W->Ba W At x.nn ct ((List.range x.nn).map fun a=>Bj (tAt x.nn rs (Af x.waves) a k))):=fun W h=>by rw[hF]at h;exact h.2.2.1
   have i9:Hid (∀W,F W->Ba W Ay ny cy ps):=fun W h=>by rw[hF]at h;exact h.2.2.2.1
   have d2:Hid (∀W,F W->Dl W Ar nr cr (rs.map Dk)):=fun W h=>by rw[hF]at h;exact h.2.2.2.2
   have q4:=(i9.out _ f1.out).max;have d7:ps.length=ny:=(i9.out _ f1.out).len;have r6:=hI d7
   have a6:Hid (∀W,F W→∀c,c<x.nn→∃sb so,At=some ⟨sb,so,none⟩/\sb<W.heap.size/\W.cell? ⟨sb,so+c,none⟩=some (.int .i64 (Bj (Da x.nn rs ⟨law,ps,T,S,fin⟩ c)))):=fun W h c hc=>by
    obtain⟨pb,po,v,e1,e2,e3,e4⟩:=(k8.out _ h).at_ hc;rw[List.getElem?_map,List.getElem?_range hc,Option.map_some]at e4;obtain rfl:=Option.some.inj e4;rw[o4.out]at e3;exact⟨pb,po,e1,e2,e3⟩
   clear hF d6 j7 i4 o1 k0 f7 m6 o4 k8 d7;go_wp2_with fail;refine((i6.out _ f1.out).g.length).mono ?_;rintro e w6 ⟨rfl,m8⟩;have k6:=hI (a2.out _ _ f1.out m8);clear f1 m8;go_wp2_with fail
   -- where it begins
   go_loopw [9] (fun s9 wr=>∃q:Nat,s9= .int .i64 (q:Int)/\q<=ny/\Hid (F wr)) (fun s9 _=>ny-(intOf s9).toNat)
   case atStart=>exact⟨0,rfl,Nat.zero_le _,k6.out⟩
   case round=>
    obtain⟨q,rfl,hq,a9⟩:=hrel;clear k6;have m1:=Ad (j:=1) (b6.out _ a9.out) rfl;have m2:=Ad (j:=2) (b6.out _ a9.out) rfl;have m4:=Ad (j:=4) (b6.out _ a9.out) rfl;by_cases hql:q<ny
    ·have q3:(q:Int)<(ny:Int):=by omega
     obtain⟨ab,ao,p,eA,r3,r2,hp⟩:=(i9.out _ a9.out).at_ hql;have a4:=List.mem_of_getElem? hp;obtain⟨q2,q9⟩:=p2.out p a4;obtain⟨p,rfl⟩:∃p':Nat,p=p':=⟨p.toNat,by omega⟩;obtain⟨sb,so,eT,o2,b1⟩:=a6.out _ a9.out p (by omega);have d4:Hid ((p:Int)∈(⟨law,ps,T,S,fin⟩:Cg).at_):=a4;subst eA;clear hp a4 q2;by_cases hTf:(T:Int)<fin
     ·have hv:=Ae0 (rs:=rs) d4.out m9.out hTf;rw[hv]at b1;simp only[Bj,Int.toNat_natCast]at b1;have b3:¬fin<=(T:Int):=by omega
      have f5:decide ((T:Int)<fin)=true:=decide_eq_true hTf;have f4:decide (fin<=(T:Int))=false:=decide_eq_false b3;clear hv;subst eT;go_wp2_with fail
      go_quiet (fail)
      go_wp2_with fail
      go_roundw
      case rel=>first|exact⟨q+1,by go_num,by omega,a2.out _ _ a9.out ((Below.refl _ _).drewN _)⟩|((repeat apply Exists.intro);exact⟨⟨q+1,by go_num,by omega,a2.out _ _ a9.out ((Below.refl _ _).drewN _)⟩,rfl⟩)
      case measure=>simp[intOf];omega
     ·have b3:fin<=(T:Int):=by omega
      have hv:=Abn (rs:=rs) d4.out m9.out b3;rw[hv]at b1;simp only[Bj]at b1;have f5:decide ((T:Int)<fin)=false:=decide_eq_false hTf;have f4:decide (fin<=(T:Int))=true:=decide_eq_true b3;clear hv;subst eT;go_wp2_with fail
      go_quiet (fail)
      go_wp2_with fail
      go_roundw
      case rel=>first|exact⟨q+1,by go_num,by omega,a2.out _ _ a9.out ((Below.refl _ _).drewN _)⟩|((repeat apply Exists.intro);exact⟨⟨q+1,by go_num,by omega,a2.out _ _ a9.out ((Below.refl _ _).drewN _)⟩,rfl⟩)
      case measure=>simp[intOf];omega
    ·obtain rfl:q=ny:=by omega
     go_wp2_with fail;clear m1 m2 m4
     -- not before its time, and before its end
     go_loopw [10] (fun s10 wr=>∃c:Nat,s10= .int .i64 (c:Int)/\c<=x.nn/\Hid (F wr)) (fun s10 _=>x.nn-(intOf s10).toNat)
     case atStart=>exact⟨0,rfl,Nat.zero_le _,a9.out⟩
     case round=>
      obtain⟨c,rfl,hc,b2⟩:=hrel;clear a9;by_cases hcl:c<x.nn
      ·have q7:(c:Int)<(x.nn:Int):=by omega
       have m2:=Ad (j:=2) (b6.out _ b2.out) rfl;have m4:=Ad (j:=4) (b6.out _ b2.out) rfl;obtain⟨sb,so,eT,o2,b1⟩:=a6.out _ b2.out c hcl;subst eT
       cases hti:Da x.nn rs ⟨law,ps,T,S,fin⟩ c with
       |none=>
        rw[hti]at b1;simp only[Bj]at b1;clear hti;go_wp2_with fail
        go_quiet (fail)
        go_wp2_with fail
        go_roundw
        case rel=>first|exact⟨c+1,by go_num,by omega,a2.out _ _ b2.out ((Below.refl _ _).drewN _)⟩|((repeat apply Exists.intro);exact⟨⟨c+1,by go_num,by omega,a2.out _ _ b2.out ((Below.refl _ _).drewN _)⟩,rfl⟩)
        case measure=>simp[intOf];omega
       |some s=>
        rw[hti]at b1;simp only[Bj]at b1;have ha:=E8 hti;simp only[Int.toNat_natCast]at ha;have k7:((s:Int) != -1)=true:=by simp
        have p1:¬(s:Int)<(T:Int):=by omega
        have i5:¬s<T:=by omega
        have q1:¬fin<=(s:Int):=by omega
        have f5:decide ((s:Int)<(T:Int))=false:=decide_eq_false p1;have f4:decide (s<T)=false:=decide_eq_false i5;have r1:decide (fin<=(s:Int))=false:=decide_eq_false q1;clear hti ha;go_wp2_with fail
        go_quiet (fail)
        go_wp2_with fail
        go_roundw
        case rel=>first|exact⟨c+1,by go_num,by omega,a2.out _ _ b2.out ((Below.refl _ _).drewN _)⟩|((repeat apply Exists.intro);exact⟨⟨c+1,by go_num,by omega,a2.out _ _ b2.out ((Below.refl _ _).drewN _)⟩,rfl⟩)
        case measure=>simp[intOf];omega
      ·obtain rfl:c=x.nn:=by omega
       go_wp2_with fail
       -- from a point to a neighbour
       go_loopw [11] (fun s11 wr=>∃r:Nat,s11= .int .i64 (r:Int)/\r<=nr/\Hid (F wr)) (fun s11 _=>nr-(intOf s11).toNat)
       case atStart=>exact⟨0,rfl,Nat.zero_le _,b2.out⟩
       case round=>
        obtain⟨r,rfl,hr,a1⟩:=hrel;clear b2;by_cases hrl:r<nr
        ·have q5:(r:Int)<(nr:Int):=by omega
         obtain⟨⟨ra,rb,rl⟩,i1⟩:∃d,rs[r]? =some d:=⟨rs[r]'(by rw[←o6.out];exact hrl),List.getElem?_eq_getElem _⟩;have m5:(rs.map Dk)[r]? =some ((ra:Int),(rb:Int),(rl:Int)):=by rw[List.getElem?_map,i1];rfl
         obtain⟨gb,gg,eR,r4,g0,g1,g2⟩:=(d2.out _ a1.out).at_ m5;simp only at g0 g1 g2;have j4:=List.mem_of_getElem? i1;obtain⟨o0,k3, -, -,a3⟩:=d3.out.lt _ j4;obtain⟨b7,d0⟩:=Agp d3.out j4;simp only at o0 k3 a3 b7 d0;have j9:=hI b7;have k4:=hI d0;have o8:¬(x.nn:Int)<=(ra:Int):=by omega
         have p8:¬(x.nn:Int)<=(rb:Int):=by omega
         have p6:¬(x.nn:Nat)<=ra:=by omega
         have p9:¬(x.nn:Nat)<=rb:=by omega
         obtain⟨sb,so,eT,o2,f2⟩:=a6.out _ a1.out ra o0;obtain⟨sb',so',i0, -,f0⟩:=a6.out _ a1.out rb k3;obtain⟨rfl,rfl⟩:sb=sb'/\so=so':=by rw[eT]at i0;injection i0 with h;injection h with h1 h2;exact⟨h1,h2⟩
         subst eT eR;clear i0 i1 m5 j4 b7 d0;have m3:=Ad (j:=3) (b6.out _ a1.out) rfl;have m4:=Ad (j:=4) (b6.out _ a1.out) rfl;obtain⟨va,g8⟩:∃o,o=Da x.nn rs ⟨law,ps,T,S,fin⟩ ra:=⟨_,rfl⟩;obtain⟨vb,g5⟩:∃o,o=Da x.nn rs ⟨law,ps,T,S,fin⟩ rb:=⟨_,rfl⟩;rw[←g8]at f2;rw[←g5]at f0;have a7:=hI g8.symm;have a8:=hI g5.symm;clear g8 g5
         cases va with
         |none=>
          cases vb with
          |none=>
           simp only[Bj]at f2 f0;go_wp2_with fail
           go_big_quiet (fail)
           go_wp2_with fail
           go_roundw
           case rel=>first|exact⟨r+1,by go_num,by omega,a2.out _ _ a1.out ((Below.refl _ _).drewN _)⟩|((repeat apply Exists.intro);exact⟨⟨r+1,by go_num,by omega,a2.out _ _ a1.out ((Below.refl _ _).drewN _)⟩,rfl⟩)
           case measure=>simp[intOf];omega
          |some t=>
           simp only[Bj]at f2 f0;have a5:=E8 a8.out;have j1:decide ((t:Int)<0)=false:=decide_eq_false (by omega);have j6:decide ((0:Int)<=(t:Int))=true:=decide_eq_true (by omega);simp only[Int.toNat_natCast]at a5;obtain⟨m,hm⟩:∃m,m=S*rl:=⟨_,rfl⟩;have b4:m<=1073741824*1073741824:=by rw[hm];exact Nat.mul_le_mul (by omega) a3
           have d1:(S:Int)*(rl:Int)=(m:Int):=by rw[hm];exact(Int.natCast_mul S rl).symm
           have b7:IntKind.u64.wrap ((S:Int)*(rl:Int))=(m:Int):=by rw[d1];exact IntWalk.u64_in _ (by omega)
           have g9:IntKind.u64.wrap (m:Int)=(m:Int):=IntWalk.u64_in _ (by omega);have i7:IntKind.u64.wrap (t:Int)=(t:Int):=IntWalk.u64_in _ (by omega);have g4:IntKind.u64.wrap (S:Int)=(S:Int):=IntWalk.u64_in _ (by omega);have j0:IntKind.u64.wrap (rl:Int)=(rl:Int):=IntWalk.u64_in _ (by omega);have d0:IntKind.u64.wrap ((t:Int)+(m:Int))=(t:Int)+(m:Int):=IntWalk.u64_in _ (by omega);have i3:IntKind.u64.wrap fin=fin:=IntWalk.u64_in _ (by omega)
           have a0:¬(t:Int)+(m:Int)<fin:=fun h=>by
            obtain⟨q',e1,_⟩:=Ku d3.out k4.out a8.out (by show((t+(S:Int).toNat*rl:Nat):Int)<fin;rw[Int.toNat_natCast,←hm];omega) (by show fin<=_;omega);rw[a7.out]at e1;cases e1
           have d5:decide ((t:Int)+(m:Int)<fin)=false:=decide_eq_false a0;clear a5 hm b4 a7 a8
           as_aux_lemma=>
            go_wp2_with fail
            go_big_quiet (fail)
            go_wp2_with fail
            go_big_quiet (fail)
            go_wp2_with fail
            go_big_quiet (fail)
            go_wp2_with fail
            go_roundw
            case rel=>first|exact⟨r+1,by go_num,by omega,a2.out _ _ a1.out (by first|exact(Below.refl _ _).drewN _|exact((Below.refl _ _).drewN _).drewN _|exact(((Below.refl _ _).drewN _).drewN _).drewN _|exact((((Below.refl _ _).drewN _).drewN _).drewN _).drewN _)⟩|((repeat apply Exists.intro);exact⟨⟨r+1,by go_num,by omega,a2.out _ _ a1.out (by first|exact(Below.refl _ _).drewN _|exact((Below.refl _ _).drewN _).drewN _|exact(((Below.refl _ _).drewN _).drewN _).drewN _|exact((((Below.refl _ _).drewN _).drewN _).drewN _).drewN _)⟩,rfl⟩)
            case measure=>simp[intOf];omega
         |some s=>
          cases vb with
          |none=>
           simp only[Bj]at f2 f0;have a5:=E8 a7.out;have j5:decide ((s:Int)<0)=false:=decide_eq_false (by omega);have f8:decide ((0:Int)<=(s:Int))=true:=decide_eq_true (by omega);simp only[Int.toNat_natCast]at a5;obtain⟨m,hm⟩:∃m,m=S*rl:=⟨_,rfl⟩;have b4:m<=1073741824*1073741824:=by rw[hm];exact Nat.mul_le_mul (by omega) a3
           have d1:(S:Int)*(rl:Int)=(m:Int):=by rw[hm];exact(Int.natCast_mul S rl).symm
           have b7:IntKind.u64.wrap ((S:Int)*(rl:Int))=(m:Int):=by rw[d1];exact IntWalk.u64_in _ (by omega)
           have g9:IntKind.u64.wrap (m:Int)=(m:Int):=IntWalk.u64_in _ (by omega);have i7:IntKind.u64.wrap (s:Int)=(s:Int):=IntWalk.u64_in _ (by omega);have g4:IntKind.u64.wrap (S:Int)=(S:Int):=IntWalk.u64_in _ (by omega);have j0:IntKind.u64.wrap (rl:Int)=(rl:Int):=IntWalk.u64_in _ (by omega);have d0:IntKind.u64.wrap ((s:Int)+(m:Int))=(s:Int)+(m:Int):=IntWalk.u64_in _ (by omega);have i3:IntKind.u64.wrap fin=fin:=IntWalk.u64_in _ (by omega)
           have a0:¬(s:Int)+(m:Int)<fin:=fun h=>by
            obtain⟨q',e1,_⟩:=Ku d3.out j9.out a7.out (by show((s+(S:Int).toNat*rl:Nat):Int)<fin;rw[Int.toNat_natCast,←hm];omega) (by show fin<=_;omega);rw[a8.out]at e1;cases e1
           have d5:decide ((s:Int)+(m:Int)<fin)=false:=decide_eq_false a0;clear a5 hm b4 a7 a8
           as_aux_lemma=>
            go_wp2_with fail
            go_big_quiet (fail)
            go_wp2_with fail
            go_big_quiet (fail)
            go_wp2_with fail
            go_big_quiet (fail)
            go_wp2_with fail
            go_roundw
            case rel=>first|exact⟨r+1,by go_num,by omega,a2.out _ _ a1.out (by first|exact(Below.refl _ _).drewN _|exact((Below.refl _ _).drewN _).drewN _|exact(((Below.refl _ _).drewN _).drewN _).drewN _|exact((((Below.refl _ _).drewN _).drewN _).drewN _).drewN _)⟩|((repeat apply Exists.intro);exact⟨⟨r+1,by go_num,by omega,a2.out _ _ a1.out (by first|exact(Below.refl _ _).drewN _|exact((Below.refl _ _).drewN _).drewN _|exact(((Below.refl _ _).drewN _).drewN _).drewN _|exact((((Below.refl _ _).drewN _).drewN _).drewN _).drewN _)⟩,rfl⟩)
            case measure=>simp[intOf];omega
          |some t=>
           simp only[Bj]at f2 f0;have j5:decide ((s:Int)<0)=false:=decide_eq_false (by omega);have f8:decide ((0:Int)<=(s:Int))=true:=decide_eq_true (by omega);have j1:decide ((t:Int)<0)=false:=decide_eq_false (by omega);have j6:decide ((0:Int)<=(t:Int))=true:=decide_eq_true (by omega);have b0:=E8 a7.out;have a5:=E8 a8.out;by_cases hts:t<s
           ·have f5:decide ((t:Int)<(s:Int))=true:=decide_eq_true (by omega);have f4:decide (t<s)=true:=decide_eq_true hts;simp only[Int.toNat_natCast]at a5;obtain⟨m,hm⟩:∃m,m=S*rl:=⟨_,rfl⟩;have b4:m<=1073741824*1073741824:=by rw[hm];exact Nat.mul_le_mul (by omega) a3
            have d1:(S:Int)*(rl:Int)=(m:Int):=by rw[hm];exact(Int.natCast_mul S rl).symm
            have b7:IntKind.u64.wrap ((S:Int)*(rl:Int))=(m:Int):=by rw[d1];exact IntWalk.u64_in _ (by omega)
            have g9:IntKind.u64.wrap (m:Int)=(m:Int):=IntWalk.u64_in _ (by omega);have i7:IntKind.u64.wrap (t:Int)=(t:Int):=IntWalk.u64_in _ (by omega);have g4:IntKind.u64.wrap (S:Int)=(S:Int):=IntWalk.u64_in _ (by omega);have j0:IntKind.u64.wrap (rl:Int)=(rl:Int):=IntWalk.u64_in _ (by omega);have d0:IntKind.u64.wrap ((t:Int)+(m:Int))=(t:Int)+(m:Int):=IntWalk.u64_in _ (by omega);have i3:IntKind.u64.wrap fin=fin:=IntWalk.u64_in _ (by omega);have p4:IntKind.u64.wrap (s:Int)=(s:Int):=IntWalk.u64_in _ (by omega);by_cases a0:(t:Int)+(m:Int)<fin
            ·obtain⟨q',e1,e2⟩:=Ku d3.out k4.out a8.out (by show((t+(S:Int).toNat*rl:Nat):Int)<fin;rw[Int.toNat_natCast,←hm];omega) (by show fin<=_;omega);rw[a7.out]at e1;obtain rfl:=Option.some.inj e1
             have p7:s<=t+m:=by
              have:s<=t+(S:Int).toNat*rl:=e2
              rw[Int.toNat_natCast,←hm]at this;exact this
             have f9:¬(t:Int)+(m:Int)<(s:Int):=by omega
             have d5:decide ((t:Int)+(m:Int)<fin)=true:=decide_eq_true a0;have o9:decide ((t:Int)+(m:Int)<(s:Int))=false:=decide_eq_false f9;clear a5 b0 hm b4 a7 a8 e1 e2
             as_aux_lemma=>
              go_wp2_with fail
              go_big_quiet (fail)
              go_wp2_with fail
              go_big_quiet (fail)
              go_wp2_with fail
              go_big_quiet (fail)
              go_wp2_with fail
              go_roundw
              case rel=>first|exact⟨r+1,by go_num,by omega,a2.out _ _ a1.out (by first|exact(Below.refl _ _).drewN _|exact((Below.refl _ _).drewN _).drewN _|exact(((Below.refl _ _).drewN _).drewN _).drewN _|exact((((Below.refl _ _).drewN _).drewN _).drewN _).drewN _)⟩|((repeat apply Exists.intro);exact⟨⟨r+1,by go_num,by omega,a2.out _ _ a1.out (by first|exact(Below.refl _ _).drewN _|exact((Below.refl _ _).drewN _).drewN _|exact(((Below.refl _ _).drewN _).drewN _).drewN _|exact((((Below.refl _ _).drewN _).drewN _).drewN _).drewN _)⟩,rfl⟩)
              case measure=>simp[intOf];omega
            ·have d5:decide ((t:Int)+(m:Int)<fin)=false:=decide_eq_false a0;clear a5 b0 hm b4 a7 a8
             as_aux_lemma=>
              go_wp2_with fail
              go_big_quiet (fail)
              go_wp2_with fail
              go_big_quiet (fail)
              go_wp2_with fail
              go_big_quiet (fail)
              go_wp2_with fail
              go_roundw
              case rel=>first|exact⟨r+1,by go_num,by omega,a2.out _ _ a1.out (by first|exact(Below.refl _ _).drewN _|exact((Below.refl _ _).drewN _).drewN _|exact(((Below.refl _ _).drewN _).drewN _).drewN _|exact((((Below.refl _ _).drewN _).drewN _).drewN _).drewN _)⟩|((repeat apply Exists.intro);exact⟨⟨r+1,by go_num,by omega,a2.out _ _ a1.out (by first|exact(Below.refl _ _).drewN _|exact((Below.refl _ _).drewN _).drewN _|exact(((Below.refl _ _).drewN _).drewN _).drewN _|exact((((Below.refl _ _).drewN _).drewN _).drewN _).drewN _)⟩,rfl⟩)
              case measure=>simp[intOf];omega
           ·have f5:decide ((t:Int)<(s:Int))=false:=decide_eq_false (by omega);have f4:decide (t<s)=false:=decide_eq_false hts;have f3:=a5;clear a5;have a5:=b0;simp only[Int.toNat_natCast]at a5;obtain⟨m,hm⟩:∃m,m=S*rl:=⟨_,rfl⟩;have b4:m<=1073741824*1073741824:=by rw[hm];exact Nat.mul_le_mul (by omega) a3
            have d1:(S:Int)*(rl:Int)=(m:Int):=by rw[hm];exact(Int.natCast_mul S rl).symm
            have b7:IntKind.u64.wrap ((S:Int)*(rl:Int))=(m:Int):=by rw[d1];exact IntWalk.u64_in _ (by omega)
            have g9:IntKind.u64.wrap (m:Int)=(m:Int):=IntWalk.u64_in _ (by omega);have i7:IntKind.u64.wrap (s:Int)=(s:Int):=IntWalk.u64_in _ (by omega);have g4:IntKind.u64.wrap (S:Int)=(S:Int):=IntWalk.u64_in _ (by omega);have j0:IntKind.u64.wrap (rl:Int)=(rl:Int):=IntWalk.u64_in _ (by omega);have d0:IntKind.u64.wrap ((s:Int)+(m:Int))=(s:Int)+(m:Int):=IntWalk.u64_in _ (by omega);have i3:IntKind.u64.wrap fin=fin:=IntWalk.u64_in _ (by omega);have p4:IntKind.u64.wrap (t:Int)=(t:Int):=IntWalk.u64_in _ (by omega);by_cases a0:(s:Int)+(m:Int)<fin
            ·obtain⟨q',e1,e2⟩:=Ku d3.out j9.out a7.out (by show((s+(S:Int).toNat*rl:Nat):Int)<fin;rw[Int.toNat_natCast,←hm];omega) (by show fin<=_;omega);rw[a8.out]at e1;obtain rfl:=Option.some.inj e1
             have p7:t<=s+m:=by
              have:t<=s+(S:Int).toNat*rl:=e2
              rw[Int.toNat_natCast,←hm]at this;exact this
             have f9:¬(s:Int)+(m:Int)<(t:Int):=by omega
             have d5:decide ((s:Int)+(m:Int)<fin)=true:=decide_eq_true a0;have o9:decide ((s:Int)+(m:Int)<(t:Int))=false:=decide_eq_false f9;clear a5 b0 f3 hm b4 a7 a8 e1 e2
             as_aux_lemma=>
              go_wp2_with fail
              go_big_quiet (fail)
              go_wp2_with fail
              go_big_quiet (fail)
              go_wp2_with fail
              go_big_quiet (fail)
              go_wp2_with fail
              go_roundw
              case rel=>first|exact⟨r+1,by go_num,by omega,a2.out _ _ a1.out (by first|exact(Below.refl _ _).drewN _|exact((Below.refl _ _).drewN _).drewN _|exact(((Below.refl _ _).drewN _).drewN _).drewN _|exact((((Below.refl _ _).drewN _).drewN _).drewN _).drewN _)⟩|((repeat apply Exists.intro);exact⟨⟨r+1,by go_num,by omega,a2.out _ _ a1.out (by first|exact(Below.refl _ _).drewN _|exact((Below.refl _ _).drewN _).drewN _|exact(((Below.refl _ _).drewN _).drewN _).drewN _|exact((((Below.refl _ _).drewN _).drewN _).drewN _).drewN _)⟩,rfl⟩)
              case measure=>simp[intOf];omega
            ·have d5:decide ((s:Int)+(m:Int)<fin)=false:=decide_eq_false a0;clear a5 b0 f3 hm b4 a7 a8
             as_aux_lemma=>
              go_wp2_with fail
              go_big_quiet (fail)
              go_wp2_with fail
              go_big_quiet (fail)
              go_wp2_with fail
              go_big_quiet (fail)
              go_wp2_with fail
              go_roundw
              case rel=>first|exact⟨r+1,by go_num,by omega,a2.out _ _ a1.out (by first|exact(Below.refl _ _).drewN _|exact((Below.refl _ _).drewN _).drewN _|exact(((Below.refl _ _).drewN _).drewN _).drewN _|exact((((Below.refl _ _).drewN _).drewN _).drewN _).drewN _)⟩|((repeat apply Exists.intro);exact⟨⟨r+1,by go_num,by omega,a2.out _ _ a1.out (by first|exact(Below.refl _ _).drewN _|exact((Below.refl _ _).drewN _).drewN _|exact(((Below.refl _ _).drewN _).drewN _).drewN _|exact((((Below.refl _ _).drewN _).drewN _).drewN _).drewN _)⟩,rfl⟩)
              case measure=>simp[intOf];omega
        ·obtain rfl:r=nr:=by omega
         go_wp2_with fail
         go_roundw
         case rel=>first|exact⟨k+1,by go_num,by omega,(i6.out _ a1.out),(d2.out _ a1.out)⟩|((repeat apply Exists.intro);exact⟨⟨k+1,by go_num,by omega,(i6.out _ a1.out),(d2.out _ a1.out)⟩,rfl⟩)
         case measure=>simp[intOf];omega
  ·obtain rfl:k=x.nv:=by omega
   go_wp2_with fail;refine(Dd wr (b5.out).g.t).mono ?_;rintro e wz ⟨rfl,i2⟩;go_wp2;go_ret;exact⟨rfl,(b5.out).bl.trans (i2.mono (b5.out).bl.size)⟩
end Go.Proofs.YtaglfmlgbcmakaaGreatDoor
