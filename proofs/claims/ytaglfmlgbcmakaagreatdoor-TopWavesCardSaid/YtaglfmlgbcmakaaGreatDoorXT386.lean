/-
  ablauttop.TopWaves is true.
-/
import Derived.Test.YtaglfmlgbcmakaaGreatDoorH08
set_option linter.all false
set_option maxRecDepth 100000
set_option maxHeartbeats 4000000
namespace Go.Proofs.YtaglfmlgbcmakaaGreatDoor
open Go.RowKit Go.Shelf
theorem Aev {n:Nat}{rs:List Bb}{p c:Nat}(hp:p<n)(hc:c<n):Jt n rs (p:Int) (c:Int)=D3 n rs p c:=by
 unfold Jt;rw[if_pos ⟨⟨by omega,by omega⟩,by omega,by omega⟩];rfl
theorem Aig {t:Nat->Option Nat}{now:Int}{k:Nat}{S:List Nat}(h:Pb t now k S):S.length<=k:=by
 rw[Gp (B8 t) (fun i=>En now (t i)) k h.srt h.mem,Hr (B8 t)];exact Nat.le_trans (List.length_filter_le _ _) (by simp)
theorem Aby (An:Option Addr)(nn cn:Nat)(names:List ByteArray)(Ar:Option Addr)(nr cr:Nat)(roads:List Dt)(Al:Option Addr)(nl cl:Nat)(laws:List Bj)(Av:Option Addr)(nv cv:Nat)(waves:List Bu)(Aw:Option Addr)(nw cw:Nat)(word:List Snd)(now:Int)(w:World)
  (hn:E7 w An nn cn names) (hr:Cw w Ar nr cr roads) (hl:Br w Al nl cl laws) (hv:Bv w Av nv cv waves) (hw:Aj w Aw nw cw word) (hT:Cd w):
  Calls Tryz.prog 3 #[.agg #[.slice An nn cn, .slice Ar nr cr], .slice Al nl cl, .slice Av nv cv, .slice Aw nw cw, .int .i64 now] w (Rm w):=by
 have HN:=hI hn;have HR:=hI hr;have HL:=hI hl;have HV:=hI hv;have HW:=hI hw;have HT:=hI hT;have d3q:nr<=9223372036854775807:=by have h1:=hr.1.2.1;have h2:=hr.1.2.2.1;unfold maxLen at h2;omega
 have y9:Hid (names.length=nn):=hn.len;have f1q:Hid (roads.length=nr):=hr.2;clear hn hr hl hv hw hT;go_enter Tryz.func3,Tryz.ntmps3;have x0:Below w.heap.size w (w.alloc (.cells #[.slice An nn cn, .slice Ar nr cr] 25)):=(Below.refl _ w).alloc rr _;have x1:(w.alloc (.cells #[.slice An nn cn, .slice Ar nr cr] 25)).heap[w.heap.size]? =some (.cells #[.slice An nn cn, .slice Ar nr cr] 25 (0,0)):=hpt;have k9:=hI x0;have o2:=hI x1;clear x0 x1;go_wp2_with fail;obtain⟨bx,t8⟩:∃bx,bx=w.heap.size:=⟨_,rfl⟩;rw[←t8]at o2 ⊢;generalize w.alloc (.cells #[.slice An nn cn, .slice Ar nr cr] 25)=W0 at*;clear t8;refine(Acu An nn cn names Ar nr cr roads W0 (HN.out.below k9.out rr) (Cr.below HR.out k9.out rr)).mono ?_;rintro e w1 ⟨h1,t0⟩;have b6:=hI (k9.out.trans (t0.mono k9.out.size));have j3:=hI ((t0.block bx (lt_of_block o2.out)).trans o2.out);clear t0 k9 o2;have k0:=Ad (j:=0) j3.out rfl;have k1:=Ad (j:=1) j3.out rfl;rcases h1 with⟨j2,rfl⟩|⟨j2,b,rfl,hm⟩
 ·have a0q:(Dp names roads !=0)=true:=by simpa using j2
  generalize Dp names roads=ne at*;clear j2;by_cases g1:12<nn
  ·have g1':(nn:Int)>12:=by omega
   go_wp2_with fail;refine(Cp _).mono ?_;rintro e wz ⟨rfl,a6⟩;go_wp2;go_ret;exact⟨rfl,Below.trans b6.out (a6.mono (Below.size b6.out))⟩
  have g1':¬(nn:Int)>12:=by omega
  by_cases g2:30<nr
  ·have g2':(nr:Int)>30:=by omega
   go_wp2_with fail;refine(Cp _).mono ?_;rintro e wz ⟨rfl,a6⟩;go_wp2;go_ret;exact⟨rfl,Below.trans b6.out (a6.mono (Below.size b6.out))⟩
  have g2':¬(nr:Int)>30:=by omega
  go_wp2_with fail;have a6:Below w1.heap.size w1 (w1.alloc (.cells #[.slice Aw nw cw] 28)):=(Below.refl _ w1).alloc rr _;have g6:B3 (w1.alloc (.cells #[.slice Aw nw cw] 28)) (some ⟨w1.heap.size,0,none⟩) 1 1 [word]:=N8 (HW.out.below b6.out rr) _;refine(Zz Al nl cl laws (some ⟨w1.heap.size,0,none⟩) 1 1 [word] _ (HL.out.below (b6.out.trans (a6.mono b6.out.size)) rr) g6).mono ?_;rintro e w2 ⟨⟨qf,rfl⟩,j5⟩;have d0:=a6.trans (j5.mono a6.size);have b7:=hI (b6.out.trans (d0.mono b6.out.size));have f9:=hI d0;clear a6 g6 j5 d0
  cases qf with
  |false=>
   go_wp2_with fail;refine(Cp _).mono ?_;rintro e wz ⟨rfl,a6⟩;go_wp2;go_ret;exact⟨rfl,Below.trans b7.out (a6.mono (Below.size b7.out))⟩
  |true=>
   by_cases g3:4<nv
   ·have g3':(nv:Int)>4:=by omega
    go_wp2_with fail;refine(Cp _).mono ?_;rintro e wz ⟨rfl,a6⟩;go_wp2;go_ret;exact⟨rfl,Below.trans b7.out (a6.mono (Below.size b7.out))⟩
   have g3':¬(nv:Int)>4:=by omega
   as_aux_lemma=>
    go_wp2_with fail;refine(Cp _).mono ?_;rintro e wz ⟨rfl,a6⟩;go_wp2;go_ret;exact⟨rfl,b7.out.trans (a6.mono b7.out.size)⟩
 ·rw[y9.out]at hm;have f5q:Hid (∀r∈roads,0<=r.1/\0<=r.2.1):=Vq (Aey j2);obtain⟨rs,q7⟩:∃rs,rs=roads.map Be:=⟨_,rfl⟩;rw[←q7]at hm;have d9q:=hI q7;have u3:=hI hm.ok;have HM:=hI hm;clear q7 hm j2;by_cases g1:12<nn
  ·have g1':(nn:Int)>12:=by omega
   go_wp2_with fail;refine(Cp _).mono ?_;rintro e wz ⟨rfl,a6⟩;go_wp2;go_ret;exact⟨rfl,Below.trans b6.out (a6.mono (Below.size b6.out))⟩
  have g1':¬(nn:Int)>12:=by omega
  by_cases g2:30<nr
  ·have g2':(nr:Int)>30:=by omega
   go_wp2_with fail;refine(Cp _).mono ?_;rintro e wz ⟨rfl,a6⟩;go_wp2;go_ret;exact⟨rfl,Below.trans b6.out (a6.mono (Below.size b6.out))⟩
  have g2':¬(nr:Int)>30:=by omega
  go_wp2_with fail;have a6:Below w1.heap.size w1 (w1.alloc (.cells #[.slice Aw nw cw] 28)):=(Below.refl _ w1).alloc rr _;have g6:B3 (w1.alloc (.cells #[.slice Aw nw cw] 28)) (some ⟨w1.heap.size,0,none⟩) 1 1 [word]:=N8 (HW.out.below b6.out rr) _;refine(Zz Al nl cl laws (some ⟨w1.heap.size,0,none⟩) 1 1 [word] _ (HL.out.below (b6.out.trans (a6.mono b6.out.size)) rr) g6).mono ?_;rintro e w2 ⟨⟨qf,rfl⟩,j5⟩;have d0:=a6.trans (j5.mono a6.size);have b7:=hI (b6.out.trans (d0.mono b6.out.size));have f9:=hI d0;clear a6 g6 j5 d0
  cases qf with
  |false=>
   go_wp2_with fail;refine(Cp _).mono ?_;rintro e wz ⟨rfl,a6⟩;go_wp2;go_ret;exact⟨rfl,Below.trans b7.out (a6.mono (Below.size b7.out))⟩
  |true=>
   by_cases g3:4<nv
   ·have g3':(nv:Int)>4:=by omega
    go_wp2_with fail;refine(Cp _).mono ?_;rintro e wz ⟨rfl,a6⟩;go_wp2;go_ret;exact⟨rfl,Below.trans b7.out (a6.mono (Below.size b7.out))⟩
   have g3':¬(nv:Int)>4:=by omega
   have v4:=hI (HM.out.below f9.out);have u7:=hI ((f9.out.block bx (lt_of_block j3.out)).trans j3.out);obtain⟨F,hF⟩:∃F:World->Prop,F=fun W=>C0 W b nn rs/\Cw W Ar nr cr roads/\Br W Al nl cl laws/\Bv W Av nv cv waves/\Aj W Aw nw cw word/\Cd W/\W.heap[bx]? =some (.cells #[.slice An nn cn, .slice Ar nr cr] 25 (0,0))/\Below w.heap.size w W:=⟨_,rfl⟩
   have v6:Hid (F w2):=by
    show F w2;rw[hF];exact⟨v4.out,Cr.below HR.out b7.out rr,HL.out.below b7.out rr,HV.out.below b7.out,HW.out.below b7.out rr,HT.out.below b7.out rr,u7.out,b7.out⟩
   have f5:Hid (∀W W',F W->Below W.heap.size W W'->F W'):=fun W W' h hb=>by
    rw[hF]at h ⊢;obtain⟨h1,h2,h3,h4,h5,h6,h7,h8⟩:=h;exact⟨h1.below hb,Cr.below h2 hb rr,h3.below hb rr,h4.below hb,h5.below hb rr,h6.below hb rr,(hb.block bx (lt_of_block h7)).trans h7,h8.trans (hb.mono h8.size)⟩
   have b2:Hid (∀W,F W->C0 W b nn rs/\Cw W Ar nr cr roads/\Br W Al nl cl laws/\Bv W Av nv cv waves/\Aj W Aw nw cw word/\Cd W/\W.heap[bx]? =some (.cells #[.slice An nn cn, .slice Ar nr cr] 25 (0,0))/\Below w.heap.size w W):=fun W h=>by rw[hF]at h;exact h
   clear hF HM v4 j3 u7 b7 f9 b6 HT;go_wp2_with fail
   go_loopw [13] (fun s13 wr=>∃k:Nat,s13= .int .i64 (k:Int)/\k<=nv/\Hid (∀i,i<k→∀y,waves[i]? =some y->y.d.slow<=1048576)/\Hid (F wr)) (fun s13 _=>nv-(intOf s13).toNat)
   case atStart=>exact⟨0,rfl,Nat.zero_le _,fun i hi=>absurd hi (Nat.not_lt_zero _),v6.out⟩
   case round=>
    obtain⟨k,rfl,hk,x8,d9⟩:=hrel;clear v6;by_cases hkl:k<nv
    ·have b9q:(k:Int)<(nv:Int):=by omega
     obtain⟨y,hy⟩:=(b2.out _ d9.out).2.2.2.1.get hkl;obtain⟨yb,yo,hA,g8, -,l0,l1,l2,l3,l4⟩:=(b2.out _ d9.out).2.2.2.1.at_ hy;subst hA;by_cases q1:4<y.n
     ·have q1':(y.n:Int)>4:=by omega
      go_wp2_with fail;refine(Cp _).mono ?_;rintro e wz ⟨rfl,a6⟩;go_wp2;go_ret;exact⟨rfl,Below.trans (b2.out _ d9.out).2.2.2.2.2.2.2 (a6.mono (Below.size (b2.out _ d9.out).2.2.2.2.2.2.2))⟩
     have q1':¬(y.n:Int)>4:=by omega
     by_cases q2:y.d.slow>1048576
     ·go_wp2_with fail;refine(Cp _).mono ?_;rintro e wz ⟨rfl,a6⟩;go_wp2;go_ret;exact⟨rfl,Below.trans (b2.out _ d9.out).2.2.2.2.2.2.2 (a6.mono (Below.size (b2.out _ d9.out).2.2.2.2.2.2.2))⟩
     have x5:Hid (∀i,i<k+1→∀z,waves[i]? =some z->z.d.slow<=1048576):=fun i hi z hz=>by
      by_cases h:i<k
      ·exact x8.out i h z hz
      ·obtain rfl:i=k:=by omega
       rw[hy]at hz;cases hz;omega
     clear hy l0 l2 l4;go_wp2_with fail
     go_roundw
     case rel=>first|exact⟨k+1,by go_num,by omega,x5.out,d9.out⟩|((repeat apply Exists.intro);exact⟨⟨k+1,by go_num,by omega,x5.out,d9.out⟩,rfl⟩)
     case measure=>simp[intOf];omega
    ·obtain rfl:k=nv:=by omega
     as_aux_lemma=>
      have o7:=hI (fun W (h:F W)=>Lr b nn rs Al nl cl laws Av k cv waves Aw nw cw word now W (b2.out _ h).1 (b2.out _ h).2.2.1 (b2.out _ h).2.2.2.1 (b2.out _ h).2.2.2.2.1 (b2.out _ h).2.2.2.2.2.1 (.inl (by omega)));obtain⟨R,hR⟩:∃R,R=Bo nn rs (Ah laws) (Ae waves) word now:=⟨_,rfl⟩;rw[←hR]at o7;have k3:=hI hR;clear hR;obtain⟨er,fs⟩:=R;go_wp2_with fail;refine(o7.out _ d9.out).mono ?_;rintro e w4 ⟨A4,c4,ps,rfl,u0,a3,q8, -,v7⟩;have o0:=hI (f5.out _ _ d9.out v7);have k5:Hid (B3 w4 A4 ps.length c4 fs):=⟨ps,u0,Am.of_own a3 (by decide),q8⟩;obtain⟨q4,t6⟩:∃q4,q4=ps.length:=⟨_,rfl⟩;rw[←t6]at k5 ⊢;clear u0 a3 q8 v7 t6 d9 o7;by_cases he0:er=0
      case neg=>
       have b5q:(er !=0)=true:=by simpa using he0
       have b4q:fs=[]:=by
        have h1:(er,fs).2=[]:=by rw[k3.out];exact Ab1 (by rw[←k3.out];exact he0)
        exact h1
       subst b4q;obtain rfl:q4=0:=k5.out.len.symm;clear he0;go_wp2_with fail;refine(Cp w4).mono ?_;rintro e wz ⟨rfl,a6⟩;have u2:=(b2.out _ o0.out).2.2.2.2.2.2.2;go_wp2;go_ret;exact⟨rfl,u2.trans (a6.mono u2.size)⟩
      subst he0;obtain⟨t4, -,p5,j6⟩:=Ab0 (by rw[←k3.out]);rw[←k3.out]at p5;have o9:fs=(List.range nn).map fun a=>(Eo nn rs (Ah laws) (Ae waves) word now a).2:=congrArg Prod.snd p5
      have y6:fs.length=nn:=by rw[o9];simp
      have s0:Hid (∀a,a<nn->fs[a]? =some (Eo nn rs (Ah laws) (Ae waves) word now a).2):=fun a ha=>by rw[o9,List.getElem?_map,List.getElem?_range ha];rfl
      obtain rfl:q4=nn:=by have:=k5.out.len;omega
      have j9:Hid (∀y∈waves,Di q4 y.d=0/\0<=y.d.law/\y.d.law<(nl:Int)):=fun y hy=>by
       obtain⟨h1,h2,h3⟩:=(Dj t4).2.2.2 y.d (List.mem_map.2 ⟨y,hy,rfl⟩);rw[Ah,List.length_map,HL.out.len]at h2;exact⟨h3,h1,h2⟩
      have p8:=hI j6;have g6:waves.length=k:=HV.out.len;obtain⟨g,hg⟩:=Al9 laws waves (fun y hy=>by have:=(j9.out y hy).2;rw[HL.out.len];exact this);have HG:=hI hg;have p6:=hI (Z2 hg);have r7:=hI g6
      have s6:Hid (∀W,F W->Calls Tryz.prog 19 #[.pointer (some ⟨b,0,none⟩)] W fun e w'=>e= .returned (.int .i64 (q4:Int))/\Below W.heap.size W w'):=fun W h=>by
       obtain⟨_,_,_,_,_,_,_,c0,_⟩:=(b2.out _ h).1.cells;exact Gz b _ q4 _ W c0
      clear p5 o9 y6 t4 j6 hg g6 k3;go_wp2_with fail;refine(s6.out _ o0.out).mono ?_;rintro e w5 ⟨rfl,q9⟩;have u9:=hI (f5.out _ _ o0.out q9);have k2:=hI (B3.below k5.out q9 rr);clear q9 k5 o0;go_wp2_with fail
      go_loopw [16] (fun s16 wr=>∃a:Nat,s16= .int .i64 (a:Int)/\a<=q4/\Hid (F wr)/\Hid (B3 wr A4 q4 c4 fs)) (fun s16 _=>q4-(intOf s16).toNat)
      case atStart=>exact⟨0,rfl,Nat.zero_le _,u9.out,k2.out⟩
      case round=>
       obtain⟨a,rfl,ha,q3,j4⟩:=hrel;clear u9 k2;go_wp2_with fail;refine(s6.out _ q3.out).mono ?_;rintro e w7 ⟨rfl,i7⟩;have p0:=hI (f5.out _ _ q3.out i7);have q5:=hI (B3.below j4.out i7 rr);clear i7 q3 j4;by_cases hal:a<q4
       ·have d8q:(a:Int)<(q4:Int):=by omega
        obtain⟨T0,x3⟩:∃T0,T0=tAt q4 rs (Ae waves) a:=⟨_,rfl⟩;have t9:=hI x3;clear x3;go_wp2_with fail
        go_loopw [17,18,19] (fun s17 s18 s19 wr=>∃(j:Nat) (S:List Nat),s19= .int .i64 (j:Int)/\j<=k/\Hid (Pb T0 now j S)/\Hid (wr.ownsRow w7.heap.size 55 18 s17 S.length ((S.map g).flatMap Bj.cells))/\Hid (wr.ownsRow w7.heap.size 2 1 s18 S.length ((S.map fun i=>((Dw T0 i:Nat):Int)).map (Value.int .i64)))/\Hid (Below w7.heap.size w7 wr)) (fun _ _ s19 _=>k-(intOf s19).toNat)
        case atStart=>exact⟨0,[],rfl,Nat.zero_le _,Pb.nil _ _,World.ownsRow_nil _ _ _ _,World.ownsRow_nil _ _ _ _,Below.refl _ _⟩
        case round=>
         obtain⟨j,S,rfl,hj,f8,d4,d5,d6⟩:=hrel;obtain⟨wo,rfl⟩:∃wo:World,wo=wr:=⟨_,rfl⟩;have f4:=hI (f5.out _ _ p0.out d6.out);have f3q:=Aig f8.out;obtain⟨A17,c17,rfl⟩:=Bh d4.out;obtain⟨A18,c18,rfl⟩:=Bh d5.out;by_cases hjk:j<k
         ·have f4q:(j:Int)<(k:Int):=by omega
          as_aux_lemma=>
           obtain⟨y,hy⟩:=(b2.out _ f4.out).2.2.2.1.get hjk;obtain⟨yb,yo,hA,g8,s5,l0,l1,l2,l3,l4⟩:=(b2.out _ f4.out).2.2.2.1.at_ hy;obtain⟨h1,z6,y2⟩:=j9.out y (List.mem_of_getElem? hy);obtain⟨v5,z0,a7q,a2q,j8⟩:=Ab9 h1;have m7:Hid (T0 j=De q4 rs y.d a):=by show _=_;rw[t9.out];exact Air (Pa hy)
           have a5q:=hI (HG.out j y hy);have q0:=s5.u.fin;have z8:=hI h1;have z5:=hI v5;have t7:=hI s5;have b1q:=hI (x8.out j hjk y hy);obtain⟨⟨law,ps,T,S0,fin⟩,Ay,ny,cy⟩:=y;simp only at l0 l1 l2 l3 l4 z0 a7q a2q j8 q0 z6 y2;obtain⟨T,rfl⟩:∃T':Nat,T=T':=⟨T.toNat,by omega⟩;obtain⟨S0,rfl⟩:∃S':Nat,S0=S':=⟨S0.toNat,by omega⟩;obtain⟨lz,rfl⟩:∃l':Nat,law=l':=⟨law.toNat,by omega⟩;have p2:Hid (Bn wo Ay ny cy ps):=t7.out.pts
           have o3:Hid (∀W',Below wo.heap.size wo W'->W'.cell? ⟨yb,yo+j*5,none⟩=some (.int .i64 (lz:Int))/\W'.cell? ⟨yb,yo+j*5+1,none⟩=some (.slice Ay ny cy)/\W'.cell? ⟨yb,yo+j*5+2,none⟩=some (.int .i64 (T:Int))/\W'.cell? ⟨yb,yo+j*5+3,none⟩=some (.int .i64 (S0:Int))/\W'.cell? ⟨yb,yo+j*5+4,none⟩=some (.int .i64 fin)):=fun W' hb=>
            ⟨(hb.cell (p:=⟨yb,_,none⟩) g8).trans l0,(hb.cell (p:=⟨yb,_,none⟩) g8).trans l1,(hb.cell (p:=⟨yb,_,none⟩) g8).trans l2,(hb.cell (p:=⟨yb,_,none⟩) g8).trans l3,(hb.cell (p:=⟨yb,_,none⟩) g8).trans l4⟩
           subst hA;clear hy s5 h1 v5;go_wp2_with fail;clear l0 l1 l2 l3 l4;refine(J2 b q4 rs ⟨⟨lz,ps,T,S0,fin⟩,Ay,ny,cy⟩ wo (b2.out _ f4.out).1 t7.out).mono ?_
           have k6:Cx q4 rs ⟨lz,ps,T,S0,fin⟩=(0,(List.range q4).map fun c=>Bf (De q4 rs ⟨lz,ps,T,S0,fin⟩ c)):=by
            unfold Cx;rw[if_neg (by omega),if_neg (by rw[z8.out];simp)]
           rw[k6];rintro e w9 ⟨A9,n9,c9,rfl,p4,o8⟩;obtain rfl:n9=q4:=by have:=p4.len;simpa using this.symm
           have f7:=hI o8;have i9:=hI (f5.out _ _ f4.out o8);have v0:=hI p4;clear k6 o8 p4;obtain⟨l0,l1,l2,l3,l4⟩:=o3.out w9 f7.out;go_wp2_with fail;clear l0 l1 l2 l3 l4;refine(s6.out _ i9.out).mono ?_;rintro e w10 ⟨rfl,g0⟩;have f0:=hI (f7.out.trans (g0.mono f7.out.size));have s2:=hI (f5.out _ _ i9.out g0);have r3:=hI (Bn.below v0.out g0 rr);clear g0 f7 i9 v0 f4;have z7:¬(lz:Int)<0:=by omega
           have y5:¬(nl:Int)<=(lz:Int):=by omega
           obtain⟨l0,l1,l2,l3,l4⟩:=o3.out w10 f0.out;go_wp2_with fail;clear l0 l1 l2 l3 l4;have b8q:=p2.out.max;have m0:ps.length=ny:=p2.out.len;have b3q:=hI m0;clear m0
           go_loopw [22,23,24] (fun s22 s23 s24 wx=>∃q:Nat,s22= .int .i64 (((Jc n9 rs ps a q).getD 0:Nat):Int)/\s23= .bool (Jc n9 rs ps a q).isSome/\s24= .int .i64 (q:Int)/\q<=ny/\Hid (Below w10.heap.size w10 wx)) (fun _ _ s24 _=>ny-(intOf s24).toNat)
           case atStart=>exact⟨0,rfl,rfl,rfl,Nat.zero_le _,Below.refl _ _⟩
           case round=>
            obtain⟨q,rfl,rfl,rfl,hq,j1⟩:=hrel;have g7:=hI (f0.out.trans (j1.out.mono f0.out.size));have m5:=hI (f5.out _ _ s2.out j1.out);obtain⟨l0,l1,l2,l3,l4⟩:=o3.out wr g7.out;obtain⟨o,ho⟩:∃o,o=Jc n9 rs ps a q:=⟨_,rfl⟩;have HO:=hI ho;rw[←ho];clear ho;by_cases hql:q<ny
            ·have f7q:(q:Int)<(ny:Int):=by omega
             obtain⟨ab,ao,p,eA,f8q,d5q,hp⟩:=(Bn.below p2.out g7.out rr).at_ hql;obtain⟨b2q,d2q⟩:=z5.out p (List.mem_of_getElem? hp);obtain⟨p,rfl⟩:∃p':Nat,p=p':=⟨p.toNat,by omega⟩;have d8:Hid (Jc n9 rs ps a (q+1)=Jm o (D3 n9 rs p a)):=by show _=_;rw[Ae0 hp,←HO.out];rfl
             subst eA;clear hp b2q l0 l2 l3 l4;go_wp2_with fail;refine(Ahp b n9 rs (p:Int) (a:Int) wr (b2.out _ m5.out).1).mono ?_;rw[Aev (by omega) hal];obtain⟨dd,x6⟩:∃dd,dd=D3 n9 rs p a:=⟨_,rfl⟩;rw[←x6]at d8 ⊢;clear x6;rintro e wd ⟨rfl,x4⟩;have g4:=hI (j1.out.trans (x4.mono j1.out.size));clear x4 l1 m5 j1 g7
             cases dd with
             |none=>
              have HM:Hid (Jc n9 rs ps a (q+1)=o):=by show _=_;rw[d8.out,Lo]
              simp only[Option.getD_none,Option.isSome_none]
              as_aux_lemma=>
               go_wp2_with fail
               go_roundw
               case rel=>first|exact⟨q+1,by first|(rw[HM.out];done)|(rw[HM.out];rfl),by first|(rw[HM.out];done)|(rw[HM.out];rfl),by go_num,by omega,g4.out⟩|((repeat apply Exists.intro);exact⟨⟨q+1,by first|(rw[HM.out];done)|(rw[HM.out];rfl),by first|(rw[HM.out];done)|(rw[HM.out];rfl),by go_num,by omega,g4.out⟩,rfl⟩)
               case measure=>simp[intOf];omega
             |some d=>
              simp only[Option.getD_some,Option.isSome_some]
              cases o with
              |none=>
               have HM:Hid (Jc n9 rs ps a (q+1)=some d):=by show _=_;rw[d8.out];rfl
               simp only[Option.getD_none,Option.isSome_none]
               as_aux_lemma=>
                go_wp2_with fail
                go_roundw
                case rel=>first|exact⟨q+1,by first|(rw[HM.out];done)|(rw[HM.out];rfl),by first|(rw[HM.out];done)|(rw[HM.out];rfl),by go_num,by omega,g4.out⟩|((repeat apply Exists.intro);exact⟨⟨q+1,by first|(rw[HM.out];done)|(rw[HM.out];rfl),by first|(rw[HM.out];done)|(rw[HM.out];rfl),by go_num,by omega,g4.out⟩,rfl⟩)
                case measure=>simp[intOf];omega
              |some e0=>
               simp only[Option.getD_some,Option.isSome_some];by_cases hde:d<e0
               ·have HM:Hid (Jc n9 rs ps a (q+1)=some d):=by show _=_;rw[d8.out,Lp,if_pos hde]
                have s1:(d:Int)<(e0:Int):=by omega
                as_aux_lemma=>
                 go_wp2_with fail
                 go_roundw
                 case rel=>first|exact⟨q+1,by first|(rw[HM.out];done)|(rw[HM.out];rfl),by first|(rw[HM.out];done)|(rw[HM.out];rfl),by go_num,by omega,g4.out⟩|((repeat apply Exists.intro);exact⟨⟨q+1,by first|(rw[HM.out];done)|(rw[HM.out];rfl),by first|(rw[HM.out];done)|(rw[HM.out];rfl),by go_num,by omega,g4.out⟩,rfl⟩)
                 case measure=>simp[intOf];omega
               ·have HM:Hid (Jc n9 rs ps a (q+1)=some e0):=by show _=_;rw[d8.out,Lp,if_neg hde]
                have s1:¬(d:Int)<(e0:Int):=by omega
                as_aux_lemma=>
                 go_wp2_with fail
                 go_roundw
                 case rel=>first|exact⟨q+1,by first|(rw[HM.out];done)|(rw[HM.out];rfl),by first|(rw[HM.out];done)|(rw[HM.out];rfl),by go_num,by omega,g4.out⟩|((repeat apply Exists.intro);exact⟨⟨q+1,by first|(rw[HM.out];done)|(rw[HM.out];rfl),by first|(rw[HM.out];done)|(rw[HM.out];rfl),by go_num,by omega,g4.out⟩,rfl⟩)
                 case measure=>simp[intOf];omega
            ·obtain rfl:q=ny:=by omega
             have m4:Hid (L5 n9 rs ⟨lz,ps,T,S0,fin⟩ a=o):=by
              have:=Ait u3.out (x:=⟨lz,ps,T,S0,fin⟩) (c:=a)
              show _=_;rw[HO.out,←this];show Jc n9 rs ps a ps.length=_;rw[b3q.out]
             obtain⟨sb,so,vv,eT,d0q,i5,r4⟩:=(Bn.below r3.out j1.out rr).at_ hal;rw[List.getElem?_map,List.getElem?_range hal,Option.map_some]at r4;obtain rfl:=Option.some.inj r4;have u8:=(b2.out _ m5.out).1.few;clear HO r4 l0;subst eT
             as_aux_lemma=>
              cases o with
              |none=>
               have d3:De n9 rs ⟨lz,ps,T,S0,fin⟩ a=none:=Ae1 m4.out;have m1:Hid (En now (T0 j)=false):=by show _=_;rw[m7.out,d3];rfl
               rw[d3]at i5;simp only[Bf]at i5;simp only[Option.getD_none,Option.isSome_none];have y7:IntKind.i64.wrap ((S0:Int)*((0:Nat):Int))=0:=by simp[IntKind.wrap_i64]
               have f2q:IntKind.i64.wrap (T:Int)=(T:Int):=IntWalk.i64_in _ (by omega);clear d3
               as_aux_lemma=>
                have g5:=hI (f8.out.skip m1.out);go_wp2_with fail;clear l1
                go_big_quiet (fail)
                have b5:Below wo.heap.size wo (wr.drewN nq):=g7.out.drewN _;have a9:=hI (d6.out.trans (b5.mono d6.out.size));have b3:Hid ((wr.drewN nq).ownsRow w7.heap.size 55 18 (.slice A17 S.length c17) S.length ((S.map g).flatMap Bj.cells)):=Bc d4.out fun p e=>b5.block p (d4.out.lt p e).2
                have b0:Hid ((wr.drewN nq).ownsRow w7.heap.size 2 1 (.slice A18 S.length c18) S.length ((S.map fun i=>((Dw T0 i:Nat):Int)).map (Value.int .i64))):=Bc d5.out fun p e=>b5.block p (d5.out.lt p e).2
                clear b5;go_wp2_with fail
                go_roundw
                case rel=>first|exact⟨j+1,S,by go_num,by omega,g5.out,b3.out,b0.out,a9.out⟩|((repeat apply Exists.intro);exact⟨⟨j+1,S,by go_num,by omega,g5.out,b3.out,b0.out,a9.out⟩,rfl⟩)
                case measure=>simp[intOf];omega
              |some d=>
               have m2:=Aku u3.out m4.out;simp only[Option.getD_some,Option.isSome_some];obtain⟨m,hm⟩:∃m,m=S0*d:=⟨_,rfl⟩;have f6q:(S0:Int)<=1048576:=b1q.out
               have s8:m<=1048576*(1073741824*11):=by
                rw[hm];exact Nat.mul_le_mul (by omega) (Nat.le_trans m2 (Nat.mul_le_mul_left _ (by omega)))
               have a9q:(S0:Int)*(d:Int)=(m:Int):=by rw[hm];exact(Int.natCast_mul S0 d).symm
               have y7:IntKind.i64.wrap ((S0:Int)*(d:Int))=(m:Int):=by rw[a9q];exact IntWalk.i64_in _ (by omega)
               have d6q:IntKind.i64.wrap ((T:Int)+(m:Int))=(T:Int)+(m:Int):=IntWalk.i64_in _ (by omega);have d1q:IntKind.i64.wrap (m:Int)=(m:Int):=IntWalk.i64_in _ (by omega);by_cases hlate:fin<=(T:Int)+(m:Int)
               ·have d3:De n9 rs ⟨lz,ps,T,S0,fin⟩ a=none:=Ab8 m4.out (by show fin<=((((T:Int).toNat)+((S0:Int).toNat)*d:Nat):Int);rw[Int.toNat_natCast,Int.toNat_natCast,←hm];omega);have m1:Hid (En now (T0 j)=false):=by show _=_;rw[m7.out,d3];rfl
                rw[d3]at i5;simp only[Bf]at i5;clear d3 hm s8 m2
                as_aux_lemma=>
                 have g5:=hI (f8.out.skip m1.out);go_wp2_with fail;clear l1
                 go_big_quiet (fail)
                 have b5:Below wo.heap.size wo (wr.drewN nq):=g7.out.drewN _;have a9:=hI (d6.out.trans (b5.mono d6.out.size));have b3:Hid ((wr.drewN nq).ownsRow w7.heap.size 55 18 (.slice A17 S.length c17) S.length ((S.map g).flatMap Bj.cells)):=Bc d4.out fun p e=>b5.block p (d4.out.lt p e).2
                 have b0:Hid ((wr.drewN nq).ownsRow w7.heap.size 2 1 (.slice A18 S.length c18) S.length ((S.map fun i=>((Dw T0 i:Nat):Int)).map (Value.int .i64))):=Bc d5.out fun p e=>b5.block p (d5.out.lt p e).2
                 clear b5;go_wp2_with fail
                 go_roundw
                 case rel=>first|exact⟨j+1,S,by go_num,by omega,g5.out,b3.out,b0.out,a9.out⟩|((repeat apply Exists.intro);exact⟨⟨j+1,S,by go_num,by omega,g5.out,b3.out,b0.out,a9.out⟩,rfl⟩)
                 case measure=>simp[intOf];omega
               ·have d3:De n9 rs ⟨lz,ps,T,S0,fin⟩ a=some (T+m):=by
                 rw[Ab7 m4.out (by show fin<=_;omega) (by show((((T:Int).toNat)+((S0:Int).toNat)*d:Nat):Int)<fin;rw[Int.toNat_natCast,Int.toNat_natCast,←hm];omega)];show some ((T:Int).toNat+(S0:Int).toNat*d)=_;rw[Int.toNat_natCast,Int.toNat_natCast,←hm]
                rw[d3]at i5;simp only[Bf,Int.natCast_add]at i5;have z2:(((T:Int)+(m:Int)) != -1)=true:=by simp;omega
                have r5:¬(T:Int)+(m:Int)>=fin:=by omega
                by_cases hnow:(T:Int)+(m:Int)>now
                ·have m1:Hid (En now (T0 j)=false):=by show _=_;rw[m7.out,d3];simp only[En,decide_eq_false_iff_not];omega
                 clear d3 hm s8 m2
                 as_aux_lemma=>
                  have g5:=hI (f8.out.skip m1.out);go_wp2_with fail;clear l1
                  go_big_quiet (fail)
                  have b5:Below wo.heap.size wo (wr.drewN nq):=g7.out.drewN _;have a9:=hI (d6.out.trans (b5.mono d6.out.size));have b3:Hid ((wr.drewN nq).ownsRow w7.heap.size 55 18 (.slice A17 S.length c17) S.length ((S.map g).flatMap Bj.cells)):=Bc d4.out fun p e=>b5.block p (d4.out.lt p e).2
                  have b0:Hid ((wr.drewN nq).ownsRow w7.heap.size 2 1 (.slice A18 S.length c18) S.length ((S.map fun i=>((Dw T0 i:Nat):Int)).map (Value.int .i64))):=Bc d5.out fun p e=>b5.block p (d5.out.lt p e).2
                  clear b5;go_wp2_with fail
                  go_roundw
                  case rel=>first|exact⟨j+1,S,by go_num,by omega,g5.out,b3.out,b0.out,a9.out⟩|((repeat apply Exists.intro);exact⟨⟨j+1,S,by go_num,by omega,g5.out,b3.out,b0.out,a9.out⟩,rfl⟩)
                  case measure=>simp[intOf];omega
                ·have u6:Hid (T0 j=some (T+m)):=by show _=_;rw[m7.out,d3]
                 clear d3 hm s8 m2
                 as_aux_lemma=>
                  go_wp2_with fail;clear l1
                  go_big_quiet (fail)
                  go_upto_block 8 with fail
                  have b5:Below wo.heap.size wo (wr.drewN nq):=g7.out.drewN _;have a9:=hI (d6.out.trans (b5.mono d6.out.size));have b3:Hid ((wr.drewN nq).ownsRow w7.heap.size 55 18 (.slice A17 S.length c17) S.length ((S.map g).flatMap Bj.cells)):=Bc d4.out fun p e=>b5.block p (d4.out.lt p e).2
                  have b0:Hid ((wr.drewN nq).ownsRow w7.heap.size 2 1 (.slice A18 S.length c18) S.length ((S.map fun i=>((Dw T0 i:Nat):Int)).map (Value.int .i64))):=Bc d5.out fun p e=>b5.block p (d5.out.lt p e).2
                  have p9:=hI b5;have u4:Hid (F (wr.drewN nq)):=f5.out _ _ m5.out ((Below.refl _ wr).drewN nq);generalize wr.drewN nq=we at*;clear b5 i5 l2 l3 l4 d4 d5
                  go_cut [28]from 233 to 245 (fun s28 wx=>∃p:Nat,s28= .int .i64 (p:Int)/\p<=S.length/\Hid (∀(z i:Nat),p<=z->S[z]? =some i->T+m<Dw T0 i)/\Hid (p=0∨∃i,S[p-1]? =some i/\Dw T0 i<=T+m)/\wx=we)
                  case first=>
                   as_aux_lemma=>
                    go_wp2_with fail
                    go_loopw [28] (fun s28 wx=>∃p:Nat,s28= .int .i64 (p:Int)/\p<=S.length/\Hid (∀(z i:Nat),p<=z->S[z]? =some i->T+m<Dw T0 i)/\wx=we) (fun s28 _=>(intOf s28).toNat)
                    case atStart=>exact⟨S.length,rfl,rr,fun z i h1 h2=>(by rw[List.getElem?_eq_none h1]at h2;cases h2),rfl⟩
                    case round=>
                     obtain⟨p,rfl,hp,j0,g9⟩:=hrel;subst g9;by_cases q8:(p:Int)>0
                     case neg=>
                      go_wp2_with fail;go_meet;exact⟨p,rfl,hp,j0.out, .inl (by omega),rfl⟩
                     obtain⟨sb2,so2,x2,y1,a6q,d7q,hx⟩:=Bn.at_ (show Bn wr A18 S.length c18 _ from Am.of_own b0.out (by decide)) (k:=p-1) (by omega);rw[List.getElem?_map]at hx;obtain⟨i2,m6,rfl⟩:=Option.map_eq_some_iff.1 hx;subst y1;have hw:IntKind.i64.wrap ((p:Int)-1)=(p:Int)-1:=IntWalk.i64_in _ (by omega);have b6q:((p:Int)-1).toNat=p-1:=by omega
                     have f0q:(0:Int)<=(p:Int)-1:=by omega
                     have d4q:(p:Int)-1<(S.length:Int):=by omega
                     by_cases hgt:((Dw T0 i2:Nat):Int)>(T:Int)+(m:Int)
                     ·have r2:Hid (∀(z i:Nat),p-1<=z->S[z]? =some i->T+m<Dw T0 i):=fun z i h1 h2=>by
                       by_cases h3:p<=z
                       ·exact j0.out z i h3 h2
                       ·obtain rfl:z=p-1:=by omega
                        rw[m6]at h2;obtain rfl:=Option.some.inj h2;omega
                      clear hx m6;go_wp2_with fail
                      go_roundw
                      case rel=>
                       have z1:(p:Int)-1=((p-1:Nat):Int):=by omega
                       refine⟨p-1, ?_, ?_,r2.out, ?_⟩
                       ·first|trivial|rw[z1]|go_num
                       ·omega
                       ·first|trivial|rfl
                      case measure=>simp[intOf];omega
                     ·have q6:Hid (p=0∨∃i,S[p-1]? =some i/\Dw T0 i<=T+m):= .inr ⟨i2,m6,by omega⟩;clear hx m6;go_wp2_with fail;go_meet;exact⟨p,rfl,hp,j0.out,q6.out,rfl⟩
                  case rest=>
                   as_aux_lemma=>
                    obtain⟨p,rfl,hp,j0,u5,g9⟩:=hcut;subst g9;obtain⟨we,g9⟩:∃we:World,we=wc:=⟨_,rfl⟩;subst g9;have m9:=hI (f8.out.put u6.out (by omega) hp j0.out u5.out);have t5:laws[lz]? =some (g j):=by have:=a5q.out;simpa using this
                    obtain⟨lb,lo,y4,z4,x9⟩:=(b2.out _ u4.out).2.2.1.at_ t5;obtain⟨l0, -, -, -, -⟩:=o3.out we p9.out;have p3:yb<we.heap.size:=Nat.lt_of_lt_of_le g8 p9.out.size
                    have b9:Hid (∀W',Below we.heap.size we W'->W'.cell? ⟨yb,yo+j*5,none⟩=some (.int .i64 (lz:Int))/\W'.rangeAt lb (lo+lz*18) (g j).cells):=fun W' hb=>
                     ⟨(hb.cell (p:=⟨yb,_,none⟩) p3).trans l0,Gx x9 hb z4⟩
                    have f6:=Cr.of_own b3.out Bj.len (by decide);have z9:=f6.1.2.1;have v8:=f6.drop Bj.len hp;obtain⟨A8,f3⟩:∃A8,A8=if c17=p then A17 else Option.map (fun x=>x.add (p*18)) A17:=⟨_,rfl⟩
                    have o1:Hid (Cr Bj.cells 18 we A17 p c17 ((S.map g).take p)):=f6.take Bj.len hp;have m3:Hid (Cr Bj.cells 18 we A8 (S.length-p) (c17-p) ((S.map g).drop p)):=by rw[f3];exact v8
                    have s4:lz<nl:=by omega
                    have b0q:decide ((nl:Int)<=(lz:Int))=false:=decide_eq_false (by omega);have o5:decide (nl<=lz)=false:=decide_eq_false (by omega);have t1:decide ((lz:Int)<0)=false:=decide_eq_false (by omega);have y8:(0:Int)<=(p:Int):=by omega
                    have a4q:(p:Int)<=(c17:Int):=by omega
                    have z3:(p:Int)<=(S.length:Int):=by omega
                    subst y4;clear v8 f6 x9 l0 t5 j0 u5
                    go_upto_region 43 with fail
                    go_cut [17]from 246 to 264 (fun s17 wx=>Hid (wx.ownsRow w7.heap.size 55 18 s17 (S.take p++j::S.drop p).length (((S.take p++j::S.drop p).map g).flatMap Bj.cells))/\Hid (Below we.heap.size we wx))
                    case first=>
                     as_aux_lemma=>
                      refine Bg (fun W'=>W'.cell? ⟨yb,yo+j*5,none⟩=some (.int .i64 (lz:Int))/\W'.rangeAt lb (lo+lz*18) (g j).cells) (by kernel_rfl) (b9.out we.drew (Below.refl _ we).drew) (fun hHeld=> ?_)
                      (refine' Ab 1 rfl ?_;(try simp only[Act.put,nY,nX]));(refine' Ab 2 rfl ?_;(try simp only[Act.put,nY,nX]));(refine' Ab 3 rfl ?_;(try simp only[Act.put,nY,nX]));(refine' Ab 5 rfl ?_;(try simp only[Act.put,nY,nX]));(refine' Ab 6 rfl ?_;(try simp only[Act.put,nY,nX]));(refine' Ab 7 rfl ?_;(try simp only[Act.put,nY,nX]));(refine' Ab 8 rfl ?_;(try simp only[Act.put,nY,nX]));(refine' Ab 9 rfl ?_;(try simp only[Act.put,nY,nX]));(refine' Ab 10 rfl ?_;(try simp only[Act.put,nY,nX]));(refine' Ab 11 rfl ?_;(try simp only[Act.put,nY,nX]))
                      (refine' Bm (i:=12) (v:=Ez (g j).l (g j).a) rfl (by kernel_rfl) (by kernel_rfl) (by kernel_rfl) (by kernel_rfl) (fun _ _ _ h=>h) (Z4 (by rfl) (.tmp 257) rfl lb (lo+lz*18) (g j) (by rfl) (fun w' hSw=>hSw.2)) (by assumption) ?_;(try simp only[Act.put,nY,nX]))
                      (refine' Ab 15 rfl ?_;(try simp only[Act.put,nY,nX]));(refine' Ab 16 rfl ?_;(try simp only[Act.put,nY,nX]));(refine' Ab 17 rfl ?_;(try simp only[Act.put,nY,nX]))
                      rw[←f3];clear hHeld f3;have d2:Below we.heap.size we we.drew:=(Below.refl _ we).drew;obtain⟨W0,j7⟩:∃W0,W0=we.drew:=⟨_,rfl⟩;rw[←j7]at d2 ⊢;clear j7;obtain⟨bs,y0⟩:∃bs,bs=W0.heap.size:=⟨_,rfl⟩;have i4:bs<=W0.heap.size:=by omega
                      have p7:we.heap.size<=bs:=by have:=d2.size;omega
                      have i8:Hid (w7.heap.size<=bs):=Nat.le_trans a9.out.size p7;refine Ju (i:=0) (j:=13) (by kernel_rfl) rfl rfl (fun K' hK'=> ?_) (fun K' hK'=> ?_)
                      all_goals rw[if_pos (by rfl)]
                      ·go_simp;have h1:Below we.heap.size we (W0.alloc (.cells #[] 55)):=d2.alloc d2.size _;have a8:bs<=(W0.alloc (.cells #[] 55)).heap.size:=Nat.le_trans i4 (by simp);have a3:=Pt (World.ownsRow_made (e:=55) (size:=18) W0 #[] 0 rr (by simp[maxLen]) rfl) i4;refine hK' _ _ ⟨.inr (b9.out _ h1),fun _=> ?_⟩
                       clear hK' K'
                       (try simp only[Act.put,nY,nX])
                       have j8:W0.heap.size<(W0.alloc (.cells #[] 55)).heap.size:=by simp
                       generalize W0.alloc (.cells #[] 55)=X1 at*;refine Ju (i:=4) (j:=13) (by kernel_rfl) rfl rfl (fun K' hK'=> ?_) (fun K' hK'=> ?_)
                       all_goals rw[if_pos (by rfl)]
                       ·refine G9 (.tmp 246) (.tmp 249) rfl bs _ 0 [] (by rfl) a3 A17 p c17 ((S.map g).take p) (by rfl) (Cr.below o1.out h1 rr) (by omega) a8 ?_;intro v1 X2 a0 b1 _;have h2:Below we.heap.size we X2:=h1.grown b1 h1.size (fun b hb=>by have:=(a3.lt b hb).1;omega);have a7:bs<=X2.heap.size:=Nat.le_trans a8 b1.size;refine hK' _ _ ⟨.inr (b9.out _ h2),fun _=> ?_⟩
                        clear hK' K'
                        (try simp only[Act.put,nY,nX])
                        refine Am8 13 rfl (fun K' hK'=> ?_);rw[if_pos (by rfl)];refine Mn (.tmp 258) rfl (g j) (by rfl) ?_;have a2:Cr Bj.cells 18 (X2.alloc (.cells (g j).cells.toArray 55)) (some ⟨X2.heap.size,0,none⟩) 1 1 [g j]:=Xc _ _;have h3:Below we.heap.size we (X2.alloc (.cells (g j).cells.toArray 55)):=h2.alloc h2.size _;have a5:bs<=(X2.alloc (.cells (g j).cells.toArray 55)).heap.size:=Nat.le_trans a7 (by simp);have a0:=a0.alloc (.cells (g j).cells.toArray 55);refine hK' _ _ ⟨.inr (b9.out _ h3),fun _=> ?_⟩
                        clear hK' K'
                        (try simp only[Act.put,nY,nX])
                        as_aux_lemma=>
                         refine Am8 14 rfl (fun K' hK'=> ?_);rw[if_pos (by rfl)];refine G9 (.tmp 250) (.tmp 259) rfl bs _ (0+p) ([]++(S.map g).take p) (by rfl) a0 _ 1 1 [g j] (by rfl) a2 (by omega) a5 ?_;intro v2 X8 a1 b4 _;have h8:Below we.heap.size we X8:=h3.grown b4 h3.size (fun b hb=>by have:=(a0.lt b hb).1;omega);have f1:bs<=X8.heap.size:=Nat.le_trans a5 b4.size;refine hK' _ _ ⟨.inr (b9.out _ h8),fun _=> ?_⟩
                         clear hK' K'
                         (try simp only[Act.put,nY,nX])
                         refine Am8 18 rfl (fun K' hK'=> ?_);rw[if_pos (by rfl)];refine G9 (.tmp 260) (.tmp 263) rfl bs _ (0+p+1) ([]++(S.map g).take p++[g j]) (by rfl) a1 A8 (S.length-p) (c17-p) ((S.map g).drop p) (by rfl) (Cr.below m3.out h8 rr) (by omega) f1 ?_;intro v3 X9 a4 d1 _;have h9:Below we.heap.size we X9:=h8.grown d1 h8.size (fun b hb=>by have:=(a1.lt b hb).1;omega);refine hK' _ _ ⟨.inr (b9.out _ h9),fun _=> ?_⟩
                         clear hK' K'
                         (try simp only[Act.put,nY,nX])
                         (refine Am8 19 rfl (fun K' hK'=> ?_);simp only[nY];go_simp)
                         refine hK' _ _ ⟨.inl (by kernel_rfl),fun _=>Ba (by kernel_rfl) ?_ _⟩
                         clear hK' K';go_wp2_with fail;go_meet;exact⟨(Td hp i8.out a4:X9.ownsRow _ _ _ _ _ _),h9⟩
                       ·refine Mn (.tmp 258) rfl (g j) (by rfl) ?_;have a2:Cr Bj.cells 18 (X1.alloc (.cells (g j).cells.toArray 55)) (some ⟨X1.heap.size,0,none⟩) 1 1 [g j]:=Xc _ _;have h2:Below we.heap.size we (X1.alloc (.cells (g j).cells.toArray 55)):=h1.alloc h1.size _;have a7:bs<=(X1.alloc (.cells (g j).cells.toArray 55)).heap.size:=Nat.le_trans a8 (by simp);have a3:=a3.alloc (.cells (g j).cells.toArray 55);refine hK' _ _ ⟨.inr (b9.out _ h2),fun _=> ?_⟩
                        clear hK' K'
                        (try simp only[Act.put,nY,nX])
                        refine Am8 4 rfl (fun K' hK'=> ?_);rw[if_pos (by rfl)];refine G9 (.tmp 246) (.tmp 249) rfl bs _ 0 [] (by rfl) a3 A17 p c17 ((S.map g).take p) (by rfl) (Cr.below o1.out h2 rr) (by omega) a7 ?_;intro v1 X3 a0 b1 _;have h3:Below we.heap.size we X3:=h2.grown b1 h2.size (fun b hb=>by have:=(a3.lt b hb).1;omega);have a5:bs<=X3.heap.size:=Nat.le_trans a7 b1.size;refine hK' _ _ ⟨.inr (b9.out _ h3),fun _=> ?_⟩
                        clear hK' K'
                        (try simp only[Act.put,nY,nX])
                        have a2:=Te a2 b1 (by show some _≠some _;simp;omega)
                        as_aux_lemma=>
                         refine Am8 14 rfl (fun K' hK'=> ?_);rw[if_pos (by rfl)];refine G9 (.tmp 250) (.tmp 259) rfl bs _ (0+p) ([]++(S.map g).take p) (by rfl) a0 _ 1 1 [g j] (by rfl) a2 (by omega) a5 ?_;intro v2 X8 a1 b4 _;have h8:Below we.heap.size we X8:=h3.grown b4 h3.size (fun b hb=>by have:=(a0.lt b hb).1;omega);have f1:bs<=X8.heap.size:=Nat.le_trans a5 b4.size;refine hK' _ _ ⟨.inr (b9.out _ h8),fun _=> ?_⟩
                         clear hK' K'
                         (try simp only[Act.put,nY,nX])
                         refine Am8 18 rfl (fun K' hK'=> ?_);rw[if_pos (by rfl)];refine G9 (.tmp 260) (.tmp 263) rfl bs _ (0+p+1) ([]++(S.map g).take p++[g j]) (by rfl) a1 A8 (S.length-p) (c17-p) ((S.map g).drop p) (by rfl) (Cr.below m3.out h8 rr) (by omega) f1 ?_;intro v3 X9 a4 d1 _;have h9:Below we.heap.size we X9:=h8.grown d1 h8.size (fun b hb=>by have:=(a1.lt b hb).1;omega);refine hK' _ _ ⟨.inr (b9.out _ h9),fun _=> ?_⟩
                         clear hK' K'
                         (try simp only[Act.put,nY,nX])
                         (refine Am8 19 rfl (fun K' hK'=> ?_);simp only[nY];go_simp)
                         refine hK' _ _ ⟨.inl (by kernel_rfl),fun _=>Ba (by kernel_rfl) ?_ _⟩
                         clear hK' K';go_wp2_with fail;go_meet;exact⟨(Td hp i8.out a4:X9.ownsRow _ _ _ _ _ _),h9⟩
                      ·refine Mn (.tmp 258) rfl (g j) (by rfl) ?_;have a2:Cr Bj.cells 18 (W0.alloc (.cells (g j).cells.toArray 55)) (some ⟨W0.heap.size,0,none⟩) 1 1 [g j]:=Xc _ _;have h1:Below we.heap.size we (W0.alloc (.cells (g j).cells.toArray 55)):=d2.alloc d2.size _;have a8:bs<=(W0.alloc (.cells (g j).cells.toArray 55)).heap.size:=Nat.le_trans i4 (by simp)
                       skip
                       refine hK' _ _ ⟨.inr (b9.out _ h1),fun _=> ?_⟩
                       clear hK' K'
                       (try simp only[Act.put,nY,nX])
                       have j8:W0.heap.size<(W0.alloc (.cells (g j).cells.toArray 55)).heap.size:=by simp
                       generalize W0.alloc (.cells (g j).cells.toArray 55)=X1 at*;refine Am8 0 rfl (fun K' hK'=> ?_);rw[if_pos (by rfl)];go_simp;have h2:Below we.heap.size we (X1.alloc (.cells #[] 55)):=h1.alloc h1.size _;have a7:bs<=(X1.alloc (.cells #[] 55)).heap.size:=Nat.le_trans a8 (by simp);have a3:=Pt (World.ownsRow_made (e:=55) (size:=18) X1 #[] 0 rr (by simp[maxLen]) rfl) a8;refine hK' _ _ ⟨.inr (b9.out _ h2),fun _=> ?_⟩
                       clear hK' K'
                       (try simp only[Act.put,nY,nX])
                       have a2:=Cr.below a2 ((Below.refl _ X1).alloc rr (.cells #[] 55)) rr;refine Am8 4 rfl (fun K' hK'=> ?_);rw[if_pos (by rfl)];refine G9 (.tmp 246) (.tmp 249) rfl bs _ 0 [] (by rfl) a3 A17 p c17 ((S.map g).take p) (by rfl) (Cr.below o1.out h2 rr) (by omega) a7 ?_;intro v1 X3 a0 b1 _;have h3:Below we.heap.size we X3:=h2.grown b1 h2.size (fun b hb=>by have:=(a3.lt b hb).1;omega);have a5:bs<=X3.heap.size:=Nat.le_trans a7 b1.size;refine hK' _ _ ⟨.inr (b9.out _ h3),fun _=> ?_⟩
                       clear hK' K'
                       (try simp only[Act.put,nY,nX])
                       have a2:=Te a2 b1 (by show some _≠some _;simp;omega)
                       as_aux_lemma=>
                        refine Am8 14 rfl (fun K' hK'=> ?_);rw[if_pos (by rfl)];refine G9 (.tmp 250) (.tmp 259) rfl bs _ (0+p) ([]++(S.map g).take p) (by rfl) a0 _ 1 1 [g j] (by rfl) a2 (by omega) a5 ?_;intro v2 X8 a1 b4 _;have h8:Below we.heap.size we X8:=h3.grown b4 h3.size (fun b hb=>by have:=(a0.lt b hb).1;omega);have f1:bs<=X8.heap.size:=Nat.le_trans a5 b4.size;refine hK' _ _ ⟨.inr (b9.out _ h8),fun _=> ?_⟩
                        clear hK' K'
                        (try simp only[Act.put,nY,nX])
                        refine Am8 18 rfl (fun K' hK'=> ?_);rw[if_pos (by rfl)];refine G9 (.tmp 260) (.tmp 263) rfl bs _ (0+p+1) ([]++(S.map g).take p++[g j]) (by rfl) a1 A8 (S.length-p) (c17-p) ((S.map g).drop p) (by rfl) (Cr.below m3.out h8 rr) (by omega) f1 ?_;intro v3 X9 a4 d1 _;have h9:Below we.heap.size we X9:=h8.grown d1 h8.size (fun b hb=>by have:=(a1.lt b hb).1;omega);refine hK' _ _ ⟨.inr (b9.out _ h9),fun _=> ?_⟩
                        clear hK' K'
                        (try simp only[Act.put,nY,nX])
                        (refine Am8 19 rfl (fun K' hK'=> ?_);simp only[nY];go_simp)
                        refine hK' _ _ ⟨.inl (by kernel_rfl),fun _=>Ba (by kernel_rfl) ?_ _⟩
                        clear hK' K';go_wp2_with fail;go_meet;exact⟨(Td hp i8.out a4:X9.ownsRow _ _ _ _ _ _),h9⟩
                    case rest=>
                     as_aux_lemma=>
                      obtain⟨b8,s7⟩:=hcut;have i6:Hid (Below w7.heap.size w7 wc):=a9.out.trans (s7.out.mono a9.out.size);obtain⟨S9,o4⟩:∃S9,S9=S.take p++j::S.drop p:=⟨_,rfl⟩;rw[←o4]at b8 m9;have s9:=hI o4;clear o4;obtain⟨A0,c0,p1⟩:=Bh b8.out
                      have m8:Hid (Bn wc A18 S.length c18 (S.map fun i=>((Dw T0 i:Nat):Int))):=by
                       show Bn _ _ _ _ _;exact Am.of_own (Bc b0.out fun b e=>s7.out.block b (b0.out.lt b e).2) (by decide)
                      subst p1;clear f3 o1 m3 b9 b0q o5 t1 s4 b3;obtain⟨tz,r6⟩:∃tz,tz=S.map fun i=>((Dw T0 i:Nat):Int):=⟨_,rfl⟩
                      rw[←r6]at m8;have r8:=hI r6;have r1:Hid (((Dw T0 j:Nat):Int)=(T:Int)+(m:Int)):=by show _=_;unfold Dw;rw[u6.out];simp
                      clear r6 p9 u4 a9;clear s7;obtain⟨we,g9⟩:∃we:World,we=wc:=⟨_,rfl⟩;subst g9;have x7:S.length<=c18:=m8.out.2.1;have a8q:(p:Int)<=(c18:Int):=by omega
                      go_wp2_with fail;refine Bg (fun _=>True) (by kernel_rfl) trivial (fun hHeld=> ?_)
                      (refine' Ab 1 rfl ?_;(try simp only[Act.put,nY,nX]));(refine' Ab 2 rfl ?_;(try simp only[Act.put,nY,nX]));(refine' Ab 3 rfl ?_;(try simp only[Act.put,nY,nX]));(refine' Ab 5 rfl ?_;(try simp only[Act.put,nY,nX]));(refine' Ab 8 rfl ?_;(try simp only[Act.put,nY,nX]));(refine' Ab 9 rfl ?_;(try simp only[Act.put,nY,nX]));(refine' Ab 10 rfl ?_;(try simp only[Act.put,nY,nX]))
                      have i1:=Am.take m8.out hp;have i3:=Am.drop m8.out hp;obtain⟨A8,f3⟩:∃A8,A8=if c18=p then A18 else Option.map (fun x=>x.add (p*1)) A18:=⟨_,rfl⟩
                      have o6:Hid (Am we A18 p c18 1 ((tz.take p).map (Value.int .i64))):=by
                       rw[Nat.mul_one,←List.map_take]at i1;exact i1
                      have r9:Hid (Am we A8 (S.length-p) (c18-p) 1 ((tz.drop p).map (Value.int .i64))):=by
                       rw[Nat.mul_one,←List.map_drop]at i3;rw[f3,Nat.mul_one];exact i3
                      first|rw[←f3]|(rw[Nat.mul_one]at f3;rw[←f3])
                      clear hHeld f3 i1 i3;have d2:Below we.heap.size we we.drew:=(Below.refl _ we).drew;obtain⟨W0,j7⟩:∃W0,W0=we.drew:=⟨_,rfl⟩;rw[←j7]at d2 ⊢;clear j7;obtain⟨bs,y0⟩:∃bs,bs=W0.heap.size:=⟨_,rfl⟩;have i4:bs<=W0.heap.size:=by omega
                      have p7:we.heap.size<=bs:=by have:=d2.size;omega
                      have i8:Hid (w7.heap.size<=bs):=Nat.le_trans i6.out.size p7;refine Ju (i:=0) (j:=6) (by kernel_rfl) rfl rfl (fun K' hK'=> ?_) (fun K' hK'=> ?_)
                      all_goals rw[if_pos (by rfl)]
                      ·go_simp;have h1:Below we.heap.size we (W0.alloc (.cells #[] 2)):=d2.alloc d2.size _;have a8:bs<=(W0.alloc (.cells #[] 2)).heap.size:=Nat.le_trans i4 (by simp);have a3:=Pt (World.ownsRow_made (e:=2) (size:=1) W0 #[] 0 rr (by simp[maxLen]) rfl) i4;refine hK' _ _ ⟨.inr trivial,fun _=> ?_⟩
                       clear hK' K'
                       (try simp only[Act.put,nY,nX])
                       have j8:W0.heap.size<(W0.alloc (.cells #[] 2)).heap.size:=by simp
                       generalize W0.alloc (.cells #[] 2)=X1 at*;refine Ju (i:=4) (j:=6) (by kernel_rfl) rfl rfl (fun K' hK'=> ?_) (fun K' hK'=> ?_)
                       all_goals rw[if_pos (by rfl)]
                       ·refine Ha (.tmp 265) (.tmp 268) rfl bs _ 0 [] (by rfl) a3 A18 p c18 (tz.take p) (by rfl) (o6.out.below h1 rr) (by omega) a8 ?_;intro v1 X2 a0 b1 _;have h2:Below we.heap.size we X2:=h1.grown b1 h1.size (fun b hb=>by have:=(a3.lt b hb).1;omega);have a7:bs<=X2.heap.size:=Nat.le_trans a8 b1.size;refine hK' _ _ ⟨.inr trivial,fun _=> ?_⟩
                        clear hK' K'
                        (try simp only[Act.put,nY,nX])
                        refine Am8 6 rfl (fun K' hK'=> ?_);rw[if_pos (by rfl)];go_simp;have a2:Am (X2.alloc (.cells #[.int .i64 ((T:Int)+(m:Int))] 2)) (some ⟨X2.heap.size,0,none⟩) 1 1 1 ([((T:Int)+(m:Int))].map (Value.int .i64)):=Xd _ _;have h3:Below we.heap.size we (X2.alloc (.cells #[.int .i64 ((T:Int)+(m:Int))] 2)):=h2.alloc h2.size _;have a5:bs<=(X2.alloc (.cells #[.int .i64 ((T:Int)+(m:Int))] 2)).heap.size:=Nat.le_trans a7 (by simp);have a0:=a0.alloc (.cells #[.int .i64 ((T:Int)+(m:Int))] 2);refine hK' _ _ ⟨.inr trivial,fun _=> ?_⟩
                        clear hK' K'
                        (try simp only[Act.put,nY,nX])
                        as_aux_lemma=>
                         refine Am8 7 rfl (fun K' hK'=> ?_);rw[if_pos (by rfl)];refine Ha (.tmp 269) (.tmp 271) rfl bs _ (0+p) ([]++tz.take p) (by rfl) a0 _ 1 1 [((T:Int)+(m:Int))] (by rfl) a2 (by omega) a5 ?_;intro v2 X8 a1 b4 _;have h8:Below we.heap.size we X8:=h3.grown b4 h3.size (fun b hb=>by have:=(a0.lt b hb).1;omega);have f1:bs<=X8.heap.size:=Nat.le_trans a5 b4.size;refine hK' _ _ ⟨.inr trivial,fun _=> ?_⟩
                         clear hK' K'
                         (try simp only[Act.put,nY,nX])
                         refine Am8 11 rfl (fun K' hK'=> ?_);rw[if_pos (by rfl)];refine Ha (.tmp 272) (.tmp 275) rfl bs _ (0+p+1) ([]++tz.take p++[((T:Int)+(m:Int))]) (by rfl) a1 A8 (S.length-p) (c18-p) (tz.drop p) (by rfl) (r9.out.below h8 rr) (by omega) f1 ?_;intro v3 X9 a4 d1 _;have h9:Below we.heap.size we X9:=h8.grown d1 h8.size (fun b hb=>by have:=(a1.lt b hb).1;omega);refine hK' _ _ ⟨.inr trivial,fun _=> ?_⟩
                         clear hK' K'
                         (try simp only[Act.put,nY,nX])
                         (refine Am8 12 rfl (fun K' hK'=> ?_);simp only[nY];go_simp)
                         refine hK' _ _ ⟨.inl (by kernel_rfl),fun _=>Ba (by kernel_rfl) ?_ _⟩
                         clear hK' K';go_wp2_with fail
                         have d7:Hid (X9.ownsRow w7.heap.size 2 1 v3 S9.length ((S9.map fun i=>((Dw T0 i:Nat):Int)).map (Value.int .i64))):=by
                          show World.ownsRow _ _ _ _ _ _ _;rw[s9.out];exact Pu hp r8.out r1.out i8.out a4
                         have f2:Hid (X9.ownsRow w7.heap.size 55 18 _ S9.length ((S9.map g).flatMap Bj.cells)):=Bc b8.out fun b e=>h9.block b (b8.out.lt b e).2
                         have k8:Hid (Below w7.heap.size w7 X9):=i6.out.trans (h9.mono i6.out.size);clear a4 a1 a0 b1 b4 d1 h8 h9
                         go_roundw
                         case rel=>exact⟨j+1,S9,by go_num,by omega,m9.out,f2.out,d7.out,k8.out⟩
                         case measure=>simp[intOf];omega
                       ·go_simp;have a2:Am (X1.alloc (.cells #[.int .i64 ((T:Int)+(m:Int))] 2)) (some ⟨X1.heap.size,0,none⟩) 1 1 1 ([((T:Int)+(m:Int))].map (Value.int .i64)):=Xd _ _;have h2:Below we.heap.size we (X1.alloc (.cells #[.int .i64 ((T:Int)+(m:Int))] 2)):=h1.alloc h1.size _;have a7:bs<=(X1.alloc (.cells #[.int .i64 ((T:Int)+(m:Int))] 2)).heap.size:=Nat.le_trans a8 (by simp);have a3:=a3.alloc (.cells #[.int .i64 ((T:Int)+(m:Int))] 2);refine hK' _ _ ⟨.inr trivial,fun _=> ?_⟩
                        clear hK' K'
                        (try simp only[Act.put,nY,nX])
                        refine Am8 4 rfl (fun K' hK'=> ?_);rw[if_pos (by rfl)];refine Ha (.tmp 265) (.tmp 268) rfl bs _ 0 [] (by rfl) a3 A18 p c18 (tz.take p) (by rfl) (o6.out.below h2 rr) (by omega) a7 ?_;intro v1 X3 a0 b1 _;have h3:Below we.heap.size we X3:=h2.grown b1 h2.size (fun b hb=>by have:=(a3.lt b hb).1;omega);have a5:bs<=X3.heap.size:=Nat.le_trans a7 b1.size;refine hK' _ _ ⟨.inr trivial,fun _=> ?_⟩
                        clear hK' K'
                        (try simp only[Act.put,nY,nX])
                        have a2:=Lg a2 b1 (by show some _≠some _;simp;omega)
                        as_aux_lemma=>
                         refine Am8 7 rfl (fun K' hK'=> ?_);rw[if_pos (by rfl)];refine Ha (.tmp 269) (.tmp 271) rfl bs _ (0+p) ([]++tz.take p) (by rfl) a0 _ 1 1 [((T:Int)+(m:Int))] (by rfl) a2 (by omega) a5 ?_;intro v2 X8 a1 b4 _;have h8:Below we.heap.size we X8:=h3.grown b4 h3.size (fun b hb=>by have:=(a0.lt b hb).1;omega);have f1:bs<=X8.heap.size:=Nat.le_trans a5 b4.size;refine hK' _ _ ⟨.inr trivial,fun _=> ?_⟩
                         clear hK' K'
                         (try simp only[Act.put,nY,nX])
                         refine Am8 11 rfl (fun K' hK'=> ?_);rw[if_pos (by rfl)];refine Ha (.tmp 272) (.tmp 275) rfl bs _ (0+p+1) ([]++tz.take p++[((T:Int)+(m:Int))]) (by rfl) a1 A8 (S.length-p) (c18-p) (tz.drop p) (by rfl) (r9.out.below h8 rr) (by omega) f1 ?_;intro v3 X9 a4 d1 _;have h9:Below we.heap.size we X9:=h8.grown d1 h8.size (fun b hb=>by have:=(a1.lt b hb).1;omega);refine hK' _ _ ⟨.inr trivial,fun _=> ?_⟩
                         clear hK' K'
                         (try simp only[Act.put,nY,nX])
                         (refine Am8 12 rfl (fun K' hK'=> ?_);simp only[nY];go_simp)
                         refine hK' _ _ ⟨.inl (by kernel_rfl),fun _=>Ba (by kernel_rfl) ?_ _⟩
                         clear hK' K';go_wp2_with fail
                         have d7:Hid (X9.ownsRow w7.heap.size 2 1 v3 S9.length ((S9.map fun i=>((Dw T0 i:Nat):Int)).map (Value.int .i64))):=by
                          show World.ownsRow _ _ _ _ _ _ _;rw[s9.out];exact Pu hp r8.out r1.out i8.out a4
                         have f2:Hid (X9.ownsRow w7.heap.size 55 18 _ S9.length ((S9.map g).flatMap Bj.cells)):=Bc b8.out fun b e=>h9.block b (b8.out.lt b e).2
                         have k8:Hid (Below w7.heap.size w7 X9):=i6.out.trans (h9.mono i6.out.size);clear a4 a1 a0 b1 b4 d1 h8 h9
                         go_roundw
                         case rel=>exact⟨j+1,S9,by go_num,by omega,m9.out,f2.out,d7.out,k8.out⟩
                         case measure=>simp[intOf];omega
                      ·go_simp;have a2:Am (W0.alloc (.cells #[.int .i64 ((T:Int)+(m:Int))] 2)) (some ⟨W0.heap.size,0,none⟩) 1 1 1 ([((T:Int)+(m:Int))].map (Value.int .i64)):=Xd _ _;have h1:Below we.heap.size we (W0.alloc (.cells #[.int .i64 ((T:Int)+(m:Int))] 2)):=d2.alloc d2.size _;have a8:bs<=(W0.alloc (.cells #[.int .i64 ((T:Int)+(m:Int))] 2)).heap.size:=Nat.le_trans i4 (by simp)
                       skip
                       refine hK' _ _ ⟨.inr trivial,fun _=> ?_⟩
                       clear hK' K'
                       (try simp only[Act.put,nY,nX])
                       have j8:W0.heap.size<(W0.alloc (.cells #[.int .i64 ((T:Int)+(m:Int))] 2)).heap.size:=by simp
                       generalize W0.alloc (.cells #[.int .i64 ((T:Int)+(m:Int))] 2)=X1 at*;refine Am8 0 rfl (fun K' hK'=> ?_);rw[if_pos (by rfl)];go_simp;have h2:Below we.heap.size we (X1.alloc (.cells #[] 2)):=h1.alloc h1.size _;have a7:bs<=(X1.alloc (.cells #[] 2)).heap.size:=Nat.le_trans a8 (by simp);have a3:=Pt (World.ownsRow_made (e:=2) (size:=1) X1 #[] 0 rr (by simp[maxLen]) rfl) a8;refine hK' _ _ ⟨.inr trivial,fun _=> ?_⟩
                       clear hK' K'
                       (try simp only[Act.put,nY,nX])
                       have a2:=Am.below a2 ((Below.refl _ X1).alloc rr (.cells #[] 2)) rr;refine Am8 4 rfl (fun K' hK'=> ?_);rw[if_pos (by rfl)];refine Ha (.tmp 265) (.tmp 268) rfl bs _ 0 [] (by rfl) a3 A18 p c18 (tz.take p) (by rfl) (o6.out.below h2 rr) (by omega) a7 ?_;intro v1 X3 a0 b1 _;have h3:Below we.heap.size we X3:=h2.grown b1 h2.size (fun b hb=>by have:=(a3.lt b hb).1;omega);have a5:bs<=X3.heap.size:=Nat.le_trans a7 b1.size;refine hK' _ _ ⟨.inr trivial,fun _=> ?_⟩
                       clear hK' K'
                       (try simp only[Act.put,nY,nX])
                       have a2:=Lg a2 b1 (by show some _≠some _;simp;omega)
                       as_aux_lemma=>
                        refine Am8 7 rfl (fun K' hK'=> ?_);rw[if_pos (by rfl)];refine Ha (.tmp 269) (.tmp 271) rfl bs _ (0+p) ([]++tz.take p) (by rfl) a0 _ 1 1 [((T:Int)+(m:Int))] (by rfl) a2 (by omega) a5 ?_;intro v2 X8 a1 b4 _;have h8:Below we.heap.size we X8:=h3.grown b4 h3.size (fun b hb=>by have:=(a0.lt b hb).1;omega);have f1:bs<=X8.heap.size:=Nat.le_trans a5 b4.size;refine hK' _ _ ⟨.inr trivial,fun _=> ?_⟩
                        clear hK' K'
                        (try simp only[Act.put,nY,nX])
                        refine Am8 11 rfl (fun K' hK'=> ?_);rw[if_pos (by rfl)];refine Ha (.tmp 272) (.tmp 275) rfl bs _ (0+p+1) ([]++tz.take p++[((T:Int)+(m:Int))]) (by rfl) a1 A8 (S.length-p) (c18-p) (tz.drop p) (by rfl) (r9.out.below h8 rr) (by omega) f1 ?_;intro v3 X9 a4 d1 _;have h9:Below we.heap.size we X9:=h8.grown d1 h8.size (fun b hb=>by have:=(a1.lt b hb).1;omega);refine hK' _ _ ⟨.inr trivial,fun _=> ?_⟩
                        clear hK' K'
                        (try simp only[Act.put,nY,nX])
                        (refine Am8 12 rfl (fun K' hK'=> ?_);simp only[nY];go_simp)
                        refine hK' _ _ ⟨.inl (by kernel_rfl),fun _=>Ba (by kernel_rfl) ?_ _⟩
                        clear hK' K';go_wp2_with fail
                        have d7:Hid (X9.ownsRow w7.heap.size 2 1 v3 S9.length ((S9.map fun i=>((Dw T0 i:Nat):Int)).map (Value.int .i64))):=by
                         show World.ownsRow _ _ _ _ _ _ _;rw[s9.out];exact Pu hp r8.out r1.out i8.out a4
                        have f2:Hid (X9.ownsRow w7.heap.size 55 18 _ S9.length ((S9.map g).flatMap Bj.cells)):=Bc b8.out fun b e=>h9.block b (b8.out.lt b e).2
                        have k8:Hid (Below w7.heap.size w7 X9):=i6.out.trans (h9.mono i6.out.size);clear a4 a1 a0 b1 b4 d1 h8 h9
                        go_roundw
                        case rel=>exact⟨j+1,S9,by go_num,by omega,m9.out,f2.out,d7.out,k8.out⟩
                        case measure=>simp[intOf];omega
         ·obtain rfl:j=k:=by omega
          as_aux_lemma=>
           have t3:Hid (B9 (Ah (S.map g)) word=(0,(Eo q4 rs (Ah laws) (Ae waves) word now a).2)):=by
            show _=_
            have h1:S=Jd q4 rs (Ae waves) a now:=by
             have h2:(Ae waves).length=j:=by rw[Ae,List.length_map];exact r7.out
             have h3:=f8.out;rw[t9.out,←h2]at h3;exact h3.line
            rw[p6.out S (fun i hi=>by have:=(f8.out.mem i).1 hi;have:=r7.out;omega)];have h4:B9 (Df (Ah laws) (S.map (Li (Ae waves)))) word=Eo q4 rs (Ah laws) (Ae waves) word now a:=by unfold Eo Et;rw[←h1]
            rw[h4];exact Prod.ext (p8.out a hal) rfl
           have u1:Hid (Br wo A17 S.length c17 (S.map g)):=⟨Cr.of_own d4.out Bj.len (by decide),fun x hx=>by
            obtain⟨i,hi,rfl⟩:=List.mem_map.1 hx;have h1:=(f8.out.mem i).1 hi;have h2:waves[i]? =some (waves[i]'(by have:=r7.out;omega)):=List.getElem?_eq_getElem _;exact(b2.out _ f4.out).2.2.1.2 _ (List.mem_of_getElem? (HG.out i _ h2))⟩
           clear f8 d4 d5;go_wp2_with fail;refine(X0 A17 S.length c17 (S.map g) Aw nw cw word wo u1.out (b2.out _ f4.out).2.2.2.2.1 (b2.out _ f4.out).2.2.2.2.2.1).mono ?_;rw[t3.out];rintro e w9 ⟨A6,n6,c6,rfl,t2,s3, -⟩;have i9:=hI (f5.out _ _ f4.out s3);have i0:Hid (B3 w9 A4 q4 c4 fs):=B3.below q5.out (d6.out.trans (s3.mono d6.out.size)) rr;obtain⟨zb,zo,A8,n8,c8,xs8,eA,b7q,a1q,r0,k4⟩:=i0.out.at_ hal;rw[s0.out a hal]at r0;obtain rfl:=Option.some.inj r0;subst eA;have a3q:=hI t2;have y3:=hI k4;clear t2 s3 u1 t3 r0 k4 f4;go_wp2_with fail;refine(Xr A6 A8 n6 n8 c6 c8 _ _ w9 a3q.out y3.out).mono ?_;rintro e wz ⟨rfl,i7⟩;rw[decide_eq_true rfl];have v9:=hI (f5.out _ _ i9.out i7);have k7:=hI (B3.below i0.out i7 rr);clear i7 a1q i9 i0;go_wp2_with fail
           go_roundw
           case rel=>first|exact⟨a+1,by go_num,by omega,v9.out,k7.out⟩|((repeat apply Exists.intro);exact⟨⟨a+1,by go_num,by omega,v9.out,k7.out⟩,rfl⟩)
           case measure=>simp[intOf];omega
       ·obtain rfl:a=q4:=by omega
        go_wp2_with fail;refine(Cp _).mono ?_;rintro e wz ⟨rfl,a6⟩;go_wp2;go_ret;exact⟨rfl,Below.trans (b2.out _ p0.out).2.2.2.2.2.2.2 (a6.mono (Below.size (b2.out _ p0.out).2.2.2.2.2.2.2))⟩
end Go.Proofs.YtaglfmlgbcmakaaGreatDoor
