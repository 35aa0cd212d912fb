/-
  ablauttop.TopIsoglosses is true.
-/
import Derived.Test.YtaglfmlgbcmakaaGreatDoorH07
set_option linter.all false
set_option maxRecDepth 100000
set_option maxHeartbeats 4000000
namespace Go.Proofs.YtaglfmlgbcmakaaGreatDoor
open Go.RowKit Go.Shelf
theorem M0 (An:Option Addr)(nn cn:Nat)(names:List ByteArray)(Ar:Option Addr)(nr cr:Nat)(roads:List Db)(Al:Option Addr)(nl cl:Nat)(laws:List B8)(Av:Option Addr)(nv cv:Nat)(waves:List Cs)(Aw:Option Addr)(nw cw:Nat)(word:List Snd)(now:Int)(w:World)
  (hn:E0 w An nn cn names) (hr:Cv w Ar nr cr roads) (hl:B1 w Al nl cl laws) (hv:Ci w Av nv cv waves) (hw:Ae w Aw nw cw word) (hT:Cc w):
  Calls Tryz.prog 4 #[.agg #[.slice An nn cn, .slice Ar nr cr], .slice Al nl cl, .slice Av nv cv, .slice Aw nw cw, .int .i64 now] w (Ach w):=by
 have HN:=hI hn;have HR:=hI hr;have HL:=hI hl;have HV:=hI hv;have HW:=hI hw;have HT:=hI hT;have p9:nr<=9223372036854775807:=by have h1:=hr.1.2.1;have h2:=hr.1.2.2.1;unfold maxLen at h2;omega
 have p1:Hid (names.length=nn):=hn.len;have j0:Hid (roads.length=nr):=hr.2;clear hn hr hl hv hw hT;go_enter Tryz.func4,Tryz.ntmps4;have m5:Below w.heap.size w (w.alloc (.cells #[.slice An nn cn, .slice Ar nr cr] 25)):=(Below.refl _ w).alloc rr _;have k7:(w.alloc (.cells #[.slice An nn cn, .slice Ar nr cr] 25)).heap[w.heap.size]? =some (.cells #[.slice An nn cn, .slice Ar nr cr] 25 (0,0)):=hpt;have d7:=hI m5;have d8:=hI k7;clear m5 k7;go_wp2_with fail;obtain⟨bx,m0⟩:∃bx,bx=w.heap.size:=⟨_,rfl⟩;rw[←m0]at d8 ⊢;generalize w.alloc (.cells #[.slice An nn cn, .slice Ar nr cr] 25)=W0 at*;clear m0;refine(Ac6 An nn cn names Ar nr cr roads W0 (HN.out.below d7.out rr) (Dg.below HR.out d7.out rr)).mono ?_;rintro e w1 ⟨h1,g8⟩;have a2:=hI (d7.out.trans (g8.mono d7.out.size));have b8:=hI ((g8.block bx (lt_of_block d8.out)).trans d8.out);clear g8 d7 d8;have k0:=Aa (j:=0) b8.out rfl;have k1:=Aa (j:=1) b8.out rfl;rcases h1 with⟨b9,rfl⟩|⟨b9,b,rfl,hm⟩
 ·have p2:(Fc names roads !=0)=true:=by simpa using b9
  generalize Fc names roads=ne at*;clear b9;by_cases g1:12<nn
  ·have g1':(nn:Int)>12:=by omega
   go_wp2_with fail;refine(B6 _).mono ?_;rintro e wz ⟨rfl,a0⟩;go_wp2;go_ret;exact⟨rfl,Below.trans a2.out (a0.mono (Below.size a2.out))⟩
  have g1':¬(nn:Int)>12:=by omega
  by_cases g2:30<nr
  ·have g2':(nr:Int)>30:=by omega
   go_wp2_with fail;refine(B6 _).mono ?_;rintro e wz ⟨rfl,a0⟩;go_wp2;go_ret;exact⟨rfl,Below.trans a2.out (a0.mono (Below.size a2.out))⟩
  have g2':¬(nr:Int)>30:=by omega
  go_wp2_with fail;have a0:Below w1.heap.size w1 (w1.alloc (.cells #[.slice Aw nw cw] 28)):=(Below.refl _ w1).alloc rr _;have d6:B7 (w1.alloc (.cells #[.slice Aw nw cw] 28)) (some ⟨w1.heap.size,0,none⟩) 1 1 [word]:=Lq (HW.out.below a2.out rr) _;refine(Te Al nl cl laws (some ⟨w1.heap.size,0,none⟩) 1 1 [word] _ (HL.out.below (a2.out.trans (a0.mono a2.out.size)) rr) d6).mono ?_;rintro e w2 ⟨⟨qf,rfl⟩,d5⟩;have a4:=a0.trans (d5.mono a0.size);have a3:=hI (a2.out.trans (a4.mono a2.out.size));have a8:=hI a4;clear a0 d6 d5 a4
  cases qf with
  |false=>
   go_wp2_with fail;refine(B6 _).mono ?_;rintro e wz ⟨rfl,a0⟩;go_wp2;go_ret;exact⟨rfl,Below.trans a3.out (a0.mono (Below.size a3.out))⟩
  |true=>
   by_cases g3:4<nv
   ·have g3':(nv:Int)>4:=by omega
    go_wp2_with fail;refine(B6 _).mono ?_;rintro e wz ⟨rfl,a0⟩;go_wp2;go_ret;exact⟨rfl,Below.trans a3.out (a0.mono (Below.size a3.out))⟩
   have g3':¬(nv:Int)>4:=by omega
   go_wp2_with fail;refine(B6 _).mono ?_;rintro e wz ⟨rfl,a0⟩;go_wp2;go_ret;exact⟨rfl,a3.out.trans (a0.mono a3.out.size)⟩
 ·rw[p1.out]at hm;have o9:Hid (∀r∈roads,0<=r.1/\0<=r.2.1):=Qr (Xo b9);obtain⟨rs,b1⟩:∃rs,rs=roads.map B5:=⟨_,rfl⟩;rw[←b1]at hm;have k2:=hI b1;have o8:=hI hm.ok;have HM:=hI hm;clear b1 hm b9;by_cases g1:12<nn
  ·have g1':(nn:Int)>12:=by omega
   go_wp2_with fail;refine(B6 _).mono ?_;rintro e wz ⟨rfl,a0⟩;go_wp2;go_ret;exact⟨rfl,Below.trans a2.out (a0.mono (Below.size a2.out))⟩
  have g1':¬(nn:Int)>12:=by omega
  by_cases g2:30<nr
  ·have g2':(nr:Int)>30:=by omega
   go_wp2_with fail;refine(B6 _).mono ?_;rintro e wz ⟨rfl,a0⟩;go_wp2;go_ret;exact⟨rfl,Below.trans a2.out (a0.mono (Below.size a2.out))⟩
  have g2':¬(nr:Int)>30:=by omega
  go_wp2_with fail;have a0:Below w1.heap.size w1 (w1.alloc (.cells #[.slice Aw nw cw] 28)):=(Below.refl _ w1).alloc rr _;have d6:B7 (w1.alloc (.cells #[.slice Aw nw cw] 28)) (some ⟨w1.heap.size,0,none⟩) 1 1 [word]:=Lq (HW.out.below a2.out rr) _;refine(Te Al nl cl laws (some ⟨w1.heap.size,0,none⟩) 1 1 [word] _ (HL.out.below (a2.out.trans (a0.mono a2.out.size)) rr) d6).mono ?_;rintro e w2 ⟨⟨qf,rfl⟩,d5⟩;have a4:=a0.trans (d5.mono a0.size);have a3:=hI (a2.out.trans (a4.mono a2.out.size));have a8:=hI a4;clear a0 d6 d5 a4
  cases qf with
  |false=>
   go_wp2_with fail;refine(B6 _).mono ?_;rintro e wz ⟨rfl,a0⟩;go_wp2;go_ret;exact⟨rfl,Below.trans a3.out (a0.mono (Below.size a3.out))⟩
  |true=>
   by_cases g3:4<nv
   ·have g3':(nv:Int)>4:=by omega
    go_wp2_with fail;refine(B6 _).mono ?_;rintro e wz ⟨rfl,a0⟩;go_wp2;go_ret;exact⟨rfl,Below.trans a3.out (a0.mono (Below.size a3.out))⟩
   have g3':¬(nv:Int)>4:=by omega
   have i6:=hI (HM.out.below a8.out);have m9:=hI ((a8.out.block bx (lt_of_block b8.out)).trans b8.out);obtain⟨F,hF⟩:∃F:World->Prop,F=fun W=>Cl W b nn rs/\Cv W Ar nr cr roads/\B1 W Al nl cl laws/\Ci W Av nv cv waves/\Ae W Aw nw cw word/\Cc W/\W.heap[bx]? =some (.cells #[.slice An nn cn, .slice Ar nr cr] 25 (0,0))/\Below w.heap.size w W:=⟨_,rfl⟩
   have i8:Hid (F w2):=by
    show F w2;rw[hF];exact⟨i6.out,Dg.below HR.out a3.out rr,HL.out.below a3.out rr,HV.out.below a3.out,HW.out.below a3.out rr,HT.out.below a3.out rr,m9.out,a3.out⟩
   have b4:Hid (∀W W',F W->Below W.heap.size W W'->F W'):=fun W W' h hb=>by
    rw[hF]at h ⊢;obtain⟨h1,h2,h3,h4,h5,h6,h7,h8⟩:=h;exact⟨h1.below hb,Dg.below h2 hb rr,h3.below hb rr,h4.below hb,h5.below hb rr,h6.below hb rr,(hb.block bx (lt_of_block h7)).trans h7,h8.trans (hb.mono h8.size)⟩
   have a1:Hid (∀W,F W->Cl W b nn rs/\Cv W Ar nr cr roads/\B1 W Al nl cl laws/\Ci W Av nv cv waves/\Ae W Aw nw cw word/\Cc W/\W.heap[bx]? =some (.cells #[.slice An nn cn, .slice Ar nr cr] 25 (0,0))/\Below w.heap.size w W):=fun W h=>by rw[hF]at h;exact h
   clear hF HM i6 b8 m9 a3 a8 a2 HT;go_wp2_with fail
   go_loopw [13] (fun s13 wr=>∃k:Nat,s13= .int .i64 (k:Int)/\k<=nv/\Hid (F wr)) (fun s13 _=>nv-(intOf s13).toNat)
   case atStart=>exact⟨0,rfl,Nat.zero_le _,i8.out⟩
   case round=>
    obtain⟨k,rfl,hk,a5⟩:=hrel;clear i8;by_cases hkl:k<nv
    ·have q9:(k:Int)<(nv:Int):=by omega
     obtain⟨y,hy⟩:=(a1.out _ a5.out).2.2.2.1.get hkl;obtain⟨yb,yo,hA,r3, -,l0,l1,l2,l3,l4⟩:=(a1.out _ a5.out).2.2.2.1.at_ hy;subst hA;by_cases q1:4<y.n
     ·have q1':(y.n:Int)>4:=by omega
      go_wp2_with fail;refine(B6 _).mono ?_;rintro e wz ⟨rfl,a0⟩;go_wp2;go_ret;exact⟨rfl,Below.trans (a1.out _ a5.out).2.2.2.2.2.2.2 (a0.mono (Below.size (a1.out _ a5.out).2.2.2.2.2.2.2))⟩
     have q1':¬(y.n:Int)>4:=by omega
     by_cases q2:y.d.slow>1048576
     ·go_wp2_with fail;refine(B6 _).mono ?_;rintro e wz ⟨rfl,a0⟩;go_wp2;go_ret;exact⟨rfl,Below.trans (a1.out _ a5.out).2.2.2.2.2.2.2 (a0.mono (Below.size (a1.out _ a5.out).2.2.2.2.2.2.2))⟩
     clear hy l0 l2 l4;go_wp2_with fail
     go_roundw
     case rel=>first|exact⟨k+1,by go_num,by omega,a5.out⟩|((repeat apply Exists.intro);exact⟨⟨k+1,by go_num,by omega,a5.out⟩,rfl⟩)
     case measure=>simp[intOf];omega
    ·obtain rfl:k=nv:=by omega
     have f8:=hI (fun W (h:F W)=>Mc b nn rs Al nl cl laws Av k cv waves Aw nw cw word now W (a1.out _ h).1 (a1.out _ h).2.2.1 (a1.out _ h).2.2.2.1 (a1.out _ h).2.2.2.2.1 (a1.out _ h).2.2.2.2.2.1 (.inl (by omega)));have i3:=hI (fun W (h:F W)=>Ph b nn rs Al nl cl laws Av k cv waves Aw nw cw word now W (a1.out _ h).1 (a1.out _ h).2.2.1 (a1.out _ h).2.2.2.1 (a1.out _ h).2.2.2.2.1 (a1.out _ h).2.2.2.2.2.1 (.inl (by omega)));obtain⟨R,hR⟩:∃R,R=Bf nn rs (Ak laws) (Af waves) word now:=⟨_,rfl⟩;obtain⟨V,hV⟩:∃V,V=E6 nn rs (Ak laws) (Af waves) word now:=⟨_,rfl⟩;rw[←hR]at f8;rw[←hV]at i3;have b3:=hI hR;have i0:=hI hV;clear hR hV;obtain⟨er,fs⟩:=R;obtain⟨ev,vs⟩:=V;go_wp2_with fail;refine(f8.out _ a5.out).mono ?_;rintro e w4 ⟨A4,c4,ps,rfl,j6,d0,k9, -,k4⟩;have f7:=hI (b4.out _ _ a5.out k4);have g5:Hid (B7 w4 A4 ps.length c4 fs):=⟨ps,j6,Am.of_own d0 (by decide),k9⟩;obtain⟨q4,o0⟩:∃q4,q4=ps.length:=⟨_,rfl⟩;rw[←o0]at g5 ⊢;clear j6 d0 k9 k4 o0 a5 f8;go_wp2_with fail;refine(i3.out _ f7.out).mono ?_;rintro e w5 ⟨A5,q5,c5,rfl,m6,f9⟩;have d9:=hI (b4.out _ _ f7.out f9);have b2:=hI (B7.below g5.out f9 rr);have d1:=hI m6;clear m6 f9 g5 f7 i3;simp only at d1;by_cases he0:er=0
     case neg=>
      have p6:(er !=0)=true:=by simpa using he0
      have b7:(ev,vs)=(er,[]):=by rw[i0.out,Tf (by rw[←b3.out];exact he0),←b3.out]
      obtain⟨rfl,rfl⟩:=Prod.mk.inj b7;obtain rfl:q5=0:=d1.out.len.symm;have q3:(ev==ev)=true:=by simp
      clear b7 he0;go_wp2_with fail;refine(B6 w5).mono ?_;rintro e wz ⟨rfl,a0⟩;have d2:=(a1.out _ d9.out).2.2.2.2.2.2.2;go_wp2;go_ret;exact⟨rfl,d2.trans (a0.mono d2.size)⟩
     subst he0;obtain⟨m7, -,g6, -⟩:=U3 (by rw[←b3.out]);rw[←b3.out]at g6;have i9:fs=(List.range nn).map fun a=>(En nn rs (Ak laws) (Af waves) word now a).2:=congrArg Prod.snd g6
     have g9:fs.length=nn:=by rw[i9];simp
     have b7:(ev,vs)=(0,fs.map (Co fs)):=by rw[i0.out];exact Tj b3.out.symm
     obtain⟨rfl,rfl⟩:=Prod.mk.inj b7;obtain rfl:q4=nn:=by have:=b2.out.len;omega
     obtain rfl:q5=q4:=by have:=d1.out.len;rw[List.length_map]at this;omega
     have j1:q5≠0:=by have:=(E7 m7).1;omega
     have q7:=hI g9;obtain⟨P,hP⟩:∃P,P=Y6 rs (fs.map (Co fs)):=⟨_,rfl⟩;have p4:rs.length=nr:=by rw[k2.out,List.length_map];exact j0.out
     have o2:Nj q5 rs (fs.map (Co fs))=(0,Gz P nr):=by
      unfold Nj Mx;rw[List.length_map,g9,if_neg j1,if_neg (by simp),hP,p4]
     have i1:=hI (fun W (h:F W) (hi:Cm W A5 q5 c5 (fs.map (Co fs)))=>Adl b q5 rs A5 q5 c5 (fs.map (Co fs)) W (a1.out _ h).1 hi)
     rw[o2]at i1;have o6:=hI hP;clear b7 g6 i9 g9 m7 o2 hP j1 b3 i0;go_wp2_with fail;refine(i1.out _ d9.out d1.out).mono ?_;rintro e w6 ⟨A6,q6,c6,rfl,g7,g4⟩;have f5:=hI (b4.out _ _ d9.out g4);have d4:=hI (B7.below b2.out g4 rr);have o1:=hI g7;have o5:q6=Dk P nr:=by rw[←M7];exact g7.len.symm
     subst o5;clear g7 g4 b2 d1 d9 i1
     have m1:Hid (∀W,F W->Calls Tryz.prog 19 #[.pointer (some ⟨b,0,none⟩)] W fun e w'=>e= .returned (.int .i64 (q5:Int))/\Below W.heap.size W w'):=fun W h=>by
      obtain⟨_,_,_,_,_,_,_,c0,_⟩:=(a1.out _ h).1.cells;exact F2 b _ q5 _ W c0
     go_wp2_with fail;refine(m1.out _ f5.out).mono ?_;rintro e w7 ⟨rfl,f1⟩;have j4:=hI (b4.out _ _ f5.out f1);have b5:=hI (B7.below d4.out f1 rr);have m4:=hI (Cm.below o1.out f1 rr);clear f1 d4 o1 f5 m1;go_wp2_with fail
     go_loopw [20,21] (fun s20 s21 wr=>∃i:Nat,s20= .int .i64 ((Dk P i:Nat):Int)/\s21= .int .i64 (i:Int)/\i<=nr/\Hid (F wr)/\Hid (B7 wr A4 q5 c4 fs)/\Hid (Cm wr A6 (Dk P nr) c6 (Gz P nr))) (fun _ s21 _=>nr-(intOf s21).toNat)
     case atStart=>exact⟨0,rfl,rfl,Nat.zero_le _,j4.out,b5.out,m4.out⟩
     case round=>
      obtain⟨i,rfl,rfl,hi,b6,a6,j8⟩:=hrel;clear j4 b5 m4;have r0:Dk P i<=i:=Aa3;have k1:=Aa (j:=1) (a1.out _ b6.out).2.2.2.2.2.2.1 rfl;by_cases hil:i<nr
      ·have p7:(i:Int)<(nr:Int):=by omega
       obtain⟨⟨ia,ib,il⟩,f4⟩:∃d,roads[i]? =some d:=⟨roads[i]'(by rw[j0.out];exact hil),List.getElem?_eq_getElem _⟩;obtain⟨gb,gg,eR,q0,g0,g1,g2⟩:=(a1.out _ b6.out).2.1.at_ f4;obtain⟨j5,m8⟩:=o9.out _ (List.mem_of_getElem? f4);simp only at g0 g1 g2 j5 m8;obtain⟨ra,rfl⟩:∃r:Nat,ia=r:=⟨ia.toNat,by omega⟩;obtain⟨rb,rfl⟩:∃r:Nat,ib=r:=⟨ib.toNat,by omega⟩;have b1:rs[i]? =some (ra,rb,il.toNat):=by rw[k2.out,List.getElem?_map,f4];rfl
       obtain⟨j9,o3, -⟩:=o8.out.lt _ (List.mem_of_getElem? b1);simp only at j9 o3;obtain⟨wb,wo,Aq,nq1,cq1,xq,j3,k3,j7,i4,k8⟩:=a6.out.at_ j9;obtain⟨wb',wo',Az,nr1,cr1,xr,b0, -,k5,f6,j2⟩:=a6.out.at_ o3;obtain⟨rfl,rfl⟩:wb=wb'/\wo=wo':=by rw[j3]at b0;injection b0 with h;injection h with h1 h2;exact⟨h1,h2⟩
       have k6:P i=decide (xq≠xr):=by
        rw[o6.out];unfold Y6;rw[b1];show decide ((fs.map (Co fs))[ra]? ≠(fs.map (Co fs))[rb]?)=_;rw[List.getElem?_map,List.getElem?_map,i4,f6,Bool.eq_iff_iff,decide_eq_true_iff,decide_eq_true_iff]
        have:=Xq i4 f6
        simp only[Option.map_some,ne_eq,Option.some.injEq];rw[this]
       have m2:=hI k6;have o4:=hI k8;have i5:=hI j2
       have m3:Hid (∀W',Below wr.heap.size wr W'->W'.cell? ⟨wb,wo+ra,none⟩=some (.slice Aq nq1 cq1)/\W'.cell? ⟨wb,wo+rb,none⟩=some (.slice Az nr1 cr1)):=fun W' hb=>
        ⟨(hb.cell (p:=⟨wb,_,none⟩) k3).trans j7,(hb.cell (p:=⟨wb,_,none⟩) k3).trans k5⟩
       have p3:¬(q5:Int)<=(ra:Int):=by omega
       have o7:¬(q5:Int)<=(rb:Int):=by omega
       subst j3 eR;clear b0 i4 f6 k8 j2 f4 b1 k6 j7 k5 j5 m8;go_wp2_with fail;refine Br (fun W'=>W'.cell? ⟨wb,wo+ra,none⟩=some (.slice Aq nq1 cq1)/\W'.cell? ⟨wb,wo+rb,none⟩=some (.slice Az nr1 cr1)) (by kernel_rfl) (m3.out wr.drew (Below.refl _ wr).drew) (fun hHeld=> ?_)
       (refine' Ab 0 rfl ?_;(try simp only[Act.put,nY,nX]));(refine' Ab 1 rfl ?_;(try simp only[Act.put,nY,nX]));(refine' Ab 2 rfl ?_;(try simp only[Act.put,nY,nX]));(refine' Ab 3 rfl ?_;(try simp only[Act.put,nY,nX]));(refine' Ab 4 rfl ?_;(try simp only[Act.put,nY,nX]));(refine' Ab 5 rfl ?_;(try simp only[Act.put,nY,nX]));(refine' Ab 6 rfl ?_;(try simp only[Act.put,nY,nX]));(refine' Ab 7 rfl ?_;(try simp only[Act.put,nY,nX]))
       clear hHeld
       (refine Aeu 8 rfl (fun K' hK'=> ?_);simp only[nY];go_simp)
       have f2:Below wr.heap.size wr wr.drew:=(Below.refl _ wr).drew;refine(Rs Aq Az nq1 nr1 cq1 cr1 xq xr wr.drew (o4.out.below f2 rr) (i5.out.below f2 rr)).mono ?_;obtain⟨qe,i2⟩:∃qe,qe=decide (xq=xr):=⟨_,rfl⟩;have f3:Hid (P i= !qe):=by show _=_;rw[m2.out,i2];simp
       rw[←i2];rintro e wa ⟨rfl,i7⟩;have a9:=f2.trans i7;have f0:=hI (b4.out _ _ b6.out a9);have a7:=hI (B7.below a6.out a9 rr);have d3:=hI (Cm.below j8.out a9 rr);refine hK' _ _ ⟨.inl (by kernel_rfl),fun _=>Bc (by kernel_rfl) ?_ _⟩
       clear hK' K' f2 i7 a9 i2 m3 b6 a6 j8 o4 i5 m2 k1 g0 g1 g2
       cases qe with
       |true=>
        have HC:Hid (Dk P (i+1)=Dk P i):=Aa2 f3.out;go_wp2_with fail
        go_roundw
        case rel=>first|exact⟨i+1,by rw[HC.out],by go_num,by omega,f0.out,a7.out,d3.out⟩|((repeat apply Exists.intro);exact⟨⟨i+1,by rw[HC.out],by go_num,by omega,f0.out,a7.out,d3.out⟩,rfl⟩)
        case measure=>simp[intOf];omega
       |false=>
        have HC:Hid (Dk P (i+1)=Dk P i+1):=Acs f3.out
        obtain⟨r1,pb,po,p5,r2,p8⟩:Dk P i<Dk P nr∧∃pb po,A6=some ⟨pb,po,none⟩/\pb<wa.heap.size/\wa.cell? ⟨pb,po+Dk P i,none⟩=some (.int .i64 (i:Int)):=by
         rcases Aa5 (P:=P) hil with⟨h1,h2,h3⟩|⟨h1,h2⟩|⟨h1,h2,v,h3,h4⟩
         ·obtain⟨pb,po,v,e1,e2,e3,e4⟩:=d3.out.at_ h2;rw[h3]at e4;obtain rfl:=Option.some.inj e4;exact⟨h2,pb,po,e1,e2,e3⟩
         ·have:=f3.out;rw[h1]at this;cases this
         ·have:=f3.out;rw[h1]at this;cases this
        have p0:¬Dk P nr<=Dk P i:=by omega
        subst p5;go_wp2_with fail
        go_roundw
        case rel=>first|exact⟨i+1,by rw[HC.out];rfl,by go_num,by omega,f0.out,a7.out,d3.out⟩|((repeat apply Exists.intro);exact⟨⟨i+1,by rw[HC.out];rfl,by go_num,by omega,f0.out,a7.out,d3.out⟩,rfl⟩)
        case measure=>simp[intOf];omega
      ·obtain rfl:i=nr:=by omega
       have q8:(((Dk P i:Nat):Int)==((Dk P i:Nat):Int))=true:=by simp
       go_wp2_with fail;refine(B6 wr).mono ?_;rintro e wz ⟨rfl,a0⟩;have d2:=(a1.out _ b6.out).2.2.2.2.2.2.2;go_wp2;go_ret;exact⟨rfl,d2.trans (a0.mono d2.size)⟩
end Go.Proofs.YtaglfmlgbcmakaaGreatDoor
