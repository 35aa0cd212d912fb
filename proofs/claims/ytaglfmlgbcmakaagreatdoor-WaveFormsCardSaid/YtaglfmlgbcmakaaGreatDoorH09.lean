/-
  maps and same of ablautlaw38.
  ablautref38: Check.
  ablautref38: Line, Relics, Crossed.
  Rows of words: many words more.
  ablautref38: Forms, Values.
-/
import Derived.Test.YtaglfmlgbcmakaaGreatDoorXR36N
import Derived.Test.YtaglfmlgbcmakaaGreatDoorXR38c
import Derived.Test.YtaglfmlgbcmakaaGreatDoorG30
set_option linter.all false
set_option maxRecDepth 100000
set_option maxHeartbeats 4000000
namespace Go.Proofs.YtaglfmlgbcmakaaGreatDoor
open Go.RowKit Go.Shelf
theorem Yu:(Tryz.prog.info? 85).map (fun i=>(i.zero,i.size,i.bytes))=some (some (.agg #[.int .i64 0, .slice none 0 0, .int .i64 0, .int .i64 0, .int .i64 0]),5,56):=by kernel_rfl
def Qh (x:EdR):Nat:=if Ed x.names x.roads=0 then x.nn else 0
def Aj9 (w:World)(x:EdR)(e:Ending)(w':World):Prop:=∃v u,e= .returned (.tuple #[v,u])/\Aaq w' v (Qh x) (x.roads.map Bm)/\H8 w' u (Qh x) (x.roads.map Bm)/\Below w.heap.size w w'
theorem Agw (x:EdR)(w:World)(hx:Wq w x)(h12:x.nn<=12\/128<x.nn)(h40:x.nr<=40\/512<x.nr):Calls Tryz.prog 28 #[edV x] w (Aj9 w x):=by
 have HX:=hI hx;have b5:=hI h12;have b2:=hI h40;have a6:Hid (x.names.length=x.nn):=hx.names.len;clear hx h12 h40;go_enter Tryz.func28,Tryz.ntmps28;have a9:Below w.heap.size w (w.alloc (.cells #[.slice x.An x.nn x.cn, .slice x.Ar x.nr x.cr, .slice x.Al x.nl x.cl, .slice x.Av x.nv x.cv, .slice x.Aw x.nw x.cw, .int .i64 x.a, .int .i64 x.i, .int .i64 x.j, .int .i64 x.now] 66)):=(Below.refl _ w).alloc rr _;have b1:(w.alloc (.cells #[.slice x.An x.nn x.cn, .slice x.Ar x.nr x.cr, .slice x.Al x.nl x.cl, .slice x.Av x.nv x.cv, .slice x.Aw x.nw x.cw, .int .i64 x.a, .int .i64 x.i, .int .i64 x.j, .int .i64 x.now] 66)).heap[w.heap.size]? =some (.cells #[.slice x.An x.nn x.cn, .slice x.Ar x.nr x.cr, .slice x.Al x.nl x.cl, .slice x.Av x.nv x.cv, .slice x.Aw x.nw x.cw, .int .i64 x.a, .int .i64 x.i, .int .i64 x.j, .int .i64 x.now] 66 (0,0)):=hpt;have a0:=hI a9;have a2:=hI b1;clear a9 b1;go_wp2_with fail;obtain⟨bx,a8⟩:∃bx,bx=w.heap.size:=⟨_,rfl⟩;rw[←a8]at a2 ⊢;generalize w.alloc (.cells #[.slice x.An x.nn x.cn, .slice x.Ar x.nr x.cr, .slice x.Al x.nl x.cl, .slice x.Av x.nv x.cv, .slice x.Aw x.nw x.cw, .int .i64 x.a, .int .i64 x.i, .int .i64 x.j, .int .i64 x.now] 66)=W0 at*;clear a8;refine(Alk x.An x.nn x.cn x.names x.Ar x.nr x.cr x.roads W0 ((HX.out.below a0.out).names) ((HX.out.below a0.out).roads)).mono ?_;rintro e w2 ⟨h2,a4⟩;have a1:=hI (a0.out.trans (a4.mono a0.out.size));have a3:=hI ((a4.block bx (lt_of_block a2.out)).trans a2.out)
 have h3:∃v er,e= .returned (.tuple #[v, .int .i64 er])/\Aaq w2 v (Qh x) (x.roads.map Bm):=by
  rcases h2 with⟨b3,rfl⟩|⟨he,b,rfl,hm⟩
  ·exact⟨_,_,rfl, .inl ⟨rfl,by unfold Qh;rw[if_neg b3]⟩⟩
  ·rw[a6.out]at hm;exact⟨_,_,rfl, .inr ⟨b,rfl,by unfold Qh;rw[if_pos he];exact hm⟩⟩
 obtain⟨v,er,rfl,a7⟩:=h3;have b8:=hI a7;clear a4 a0 a2 h2 a7;have c0:=Ad (j:=0) a3.out rfl;have c1:=Ad (j:=1) a3.out rfl;go_wp2_with fail;clear c0 c1;refine(Ah4 x.An x.nn x.cn x.names x.Ar x.nr x.cr x.roads w2 ((HX.out.below a1.out).names) HX.out.nsz ((HX.out.below a1.out).roads) b5.out b2.out).mono ?_;rintro e w3 ⟨u,rfl,b0,a5⟩;have b7:=hI (b8.out.below a5);have b4:=hI (a1.out.trans (a5.mono a1.out.size));have b6:Hid (H8 w3 u (Qh x) (x.roads.map Bm)):=by show H8 _ _ _ _;unfold Qh;rw[←a6.out];exact b0
 clear b0 a5 a1 a3;generalize Ed x.names x.roads=ne;go_wp2
 go_ret2
 exact⟨v,u,rfl,b7.out,b6.out,b4.out⟩
theorem Yv (A:Option Addr)(m c:Nat)(ys:List Cs)(w:World)(hy:Cm w A m c ys)(hm:m<=100):
  Calls Tryz.prog 31 #[.slice A m c] w fun e w'=>∃A' c',e= .returned (.slice A' m c')/\Cm w' A' m c' ys/\Below w.heap.size w w':=by
 have HY:=hI hy;have HL:Hid (ys.length=m):=hy.len;clear hy;go_enter Tryz.func31,Tryz.ntmps31;go_wp2_with fail
 go_loopw [3,4] (fun s3 i wr=>∃k:Nat,k<=m/\i= .int .i64 (k:Int)/\Hid (wr.ownsRow w.heap.size 85 5 s3 k ((ys.take k).flatMap Cs.cells))/\Hid (Below w.heap.size w wr)) (fun _ i _=>m-(intOf i).toNat)
 case atStart=>exact⟨0,Nat.zero_le _,rfl,World.ownsRow_nil _ _ _ _,Below.refl _ _⟩
 case round=>
  obtain⟨k,hk,rfl,HO,HB⟩:=hrel;by_cases hlt:k<m
  ·have b5:(k:Int)<(m:Int):=by omega
   obtain⟨x,hx⟩:=HY.out.get hlt;obtain⟨yb,yo,hA,a0, -,k0,k1,k2,k3,k4⟩:=HY.out.at_ hx;have b4:Hid ((ys.take (k+1)).flatMap Cs.cells=(ys.take k).flatMap Cs.cells++x.cells):=by show _=_;rw[Bd ys k x hx,List.flatMap_append,List.flatMap_singleton]
   subst hA;obtain⟨A3,c3,a3⟩:=Bh HO.out;subst a3;clear hx;obtain⟨⟨law,ps,T,S,fin⟩,Aw,nw,cw⟩:=x;simp only at k0 k1 k2 k3 k4
   have a4:Hid (∀W',Below w.heap.size w W'->W'.cell? ⟨yb,yo+k*5,none⟩=some (.int .i64 law)/\W'.cell? ⟨yb,yo+k*5+1,none⟩=some (.slice Aw nw cw)/\W'.cell? ⟨yb,yo+k*5+2,none⟩=some (.int .i64 T)/\W'.cell? ⟨yb,yo+k*5+3,none⟩=some (.int .i64 S)/\W'.cell? ⟨yb,yo+k*5+4,none⟩=some (.int .i64 fin)):=fun W' h=>
    ⟨(h.cell (p:=⟨yb,_,none⟩) a0).trans k0,(h.cell (p:=⟨yb,_,none⟩) a0).trans k1,(h.cell (p:=⟨yb,_,none⟩) a0).trans k2,(h.cell (p:=⟨yb,_,none⟩) a0).trans k3,(h.cell (p:=⟨yb,_,none⟩) a0).trans k4⟩
   clear k0 k1 k2 k3 k4 a0;go_wp2_with fail;refine Bg (fun W'=>W'.cell? ⟨yb,yo+k*5,none⟩=some (.int .i64 law)/\W'.cell? ⟨yb,yo+k*5+1,none⟩=some (.slice Aw nw cw)/\W'.cell? ⟨yb,yo+k*5+2,none⟩=some (.int .i64 T)/\W'.cell? ⟨yb,yo+k*5+3,none⟩=some (.int .i64 S)/\W'.cell? ⟨yb,yo+k*5+4,none⟩=some (.int .i64 fin)) (by kernel_rfl) (a4.out _ HB.out.drew) (fun hHeld=> ?_)
   (refine' Ae 0 rfl ?_;(try simp only[Act.put,nY,nX]))
   (refine' Ae 1 rfl ?_;(try simp only[Act.put,nY,nX]));(refine' Ae 2 rfl ?_;(try simp only[Act.put,nY,nX]));(refine' Ae 3 rfl ?_;(try simp only[Act.put,nY,nX]));(refine' Ae 4 rfl ?_;(try simp only[Act.put,nY,nX]));(refine' Ae 5 rfl ?_;(try simp only[Act.put,nY,nX]));(refine' Ae 6 rfl ?_;(try simp only[Act.put,nY,nX]));(refine' Ae 7 rfl ?_;(try simp only[Act.put,nY,nX]));(refine' Ae 8 rfl ?_;(try simp only[Act.put,nY,nX]));(refine' Ae 9 rfl ?_;(try simp only[Act.put,nY,nX]));(refine' Ae 10 rfl ?_;(try simp only[Act.put,nY,nX]));(refine' Ae 11 rfl ?_;(try simp only[Act.put,nY,nX]));(refine' Ae 12 rfl ?_;(try simp only[Act.put,nY,nX]));(refine' Ae 13 rfl ?_;(try simp only[Act.put,nY,nX]));(refine' Ae 14 rfl ?_;(try simp only[Act.put,nY,nX]));(refine' Ae 15 rfl ?_;(try simp only[Act.put,nY,nX]));(refine' Ae 16 rfl ?_;(try simp only[Act.put,nY,nX]));(refine' Ae 17 rfl ?_;(try simp only[Act.put,nY,nX]));(refine' Ae 18 rfl ?_;(try simp only[Act.put,nY,nX]));(refine' Ae 19 rfl ?_;(try simp only[Act.put,nY,nX]));(refine' Ae 20 rfl ?_;(try simp only[Act.put,nY,nX]));(refine' Ae 21 rfl ?_;(try simp only[Act.put,nY,nX]));(refine' Ae 22 rfl ?_;(try simp only[Act.put,nY,nX]));(refine' Ae 23 rfl ?_;(try simp only[Act.put,nY,nX]));(refine' Ae 24 rfl ?_;(try simp only[Act.put,nY,nX]));(refine' Ae 25 rfl ?_;(try simp only[Act.put,nY,nX]))
   (refine' Ae 26 rfl ?_;(try simp only[Act.put,nY,nX]))
   clear hHeld
   (refine Anv 27 rfl (fun K' hK'=> ?_);simp only[nY];go_simp)
   have b0:Below wr.heap.size wr wr.drew:=(Below.refl _ _).drew;have a6:Below wr.heap.size wr (wr.drew.alloc (.cells #[.int .i64 law, .slice Aw nw cw, .int .i64 T, .int .i64 S, .int .i64 fin] 85)):=b0.alloc b0.size _;have hz:∀(u:Nat) v,[Value.int .i64 law, .slice Aw nw cw, .int .i64 T, .int .i64 S, .int .i64 fin][u]? =some v->(wr.drew.alloc (.cells #[.int .i64 law, .slice Aw nw cw, .int .i64 T, .int .i64 S, .int .i64 fin] 85)).cell? ⟨wr.drew.heap.size,u,none⟩=some v:=fun u v hv=>B8 (by simpa using hv)
   have a8:=Bj HO.out fun q e=>a6.block q (HO.out.lt q e).2
   have a2:=HB.out.trans (a6.mono HB.out.size);have a5:=a2.size;refine hK' _ _ ⟨.inr (a4.out _ a2),fun _=> ?_⟩
   clear hK' K'
   (try simp only[Act.put,nY,nX])
   refine Anv 28 rfl (fun K' hK'=> ?_);rw[if_pos (by rfl)]
   refine Ce (.tmp 11) (.tmp 38) 73 rfl w.heap.size 85 (.agg #[.int .i64 0, .slice none 0 0, .int .i64 0, .int .i64 0, .int .i64 0]) 5 56 Tryz.underlying73 Yu rfl (by decide) (.slice A3 k c3) k ((ys.take k).flatMap Cs.cells) (by rfl) a8 ⟨wr.drew.heap.size,0,none⟩ 1 1 [.int .i64 law, .slice Aw nw cw, .int .i64 T, .int .i64 S, .int .i64 fin] (by rfl) rfl
    (fun u v hv=>by rw[Ht,Nat.zero_add];exact hz u v hv) (by intro u hu;simp at hu;rcases hu with rfl|rfl|rfl|rfl|rfl<;>rfl) (by unfold maxLen;omega) (by omega) a5 ?_
   intro v' X2 a1 b3 _ _;have a9:Below w.heap.size w X2:=a2.grown b3 a5 fun q e=>(a8.lt q e).1
   have b1:=hI a9;have b2:Hid (X2.ownsRow w.heap.size 85 5 v' (k+1) ((ys.take (k+1)).flatMap Cs.cells)):=by show World.ownsRow _ _ _ _ _ _ _;rw[b4.out];exact a1
   refine hK' _ _ ⟨.inr (a4.out _ a9),fun _=> ?_⟩
   clear hK' K' a6 b0 hz a8 a2 a5 a1 b3 a9 HO HB
   (try simp only[Act.put,nY,nX])
   (refine Anv 29 rfl (fun K' hK'=> ?_);simp only[nY];go_simp)
   refine hK' _ _ ⟨.inl (by kernel_rfl),fun _=>Bf (by kernel_rfl) ?_ _⟩
   clear hK' K';go_wp2_with fail
   go_roundw
   case rel=>first|exact⟨k+1,by omega,by go_num,b2.out,b1.out⟩|((repeat apply Exists.intro);exact⟨⟨k+1,by omega,by go_num,b2.out,b1.out⟩,rfl⟩)
   case measure=>simp[intOf];omega
  ·obtain rfl:k=m:=by omega
   have h1:=HO.out;rw[List.take_of_length_le (by rw[HL.out];exact rr)]at h1;obtain⟨A3,c3,a3⟩:=Bh h1;subst a3;have a7:Hid (Cm wr A3 k c3 ys):=⟨Eb.of_own h1 Cs.len (by decide),fun y hy=>(HY.out.2 y hy).below HB.out⟩
   clear h1 HO;go_wp2;go_ret;exact⟨A3,c3,rfl,a7.out,HB.out⟩
structure StR (w:World)(x:EdR)(v u:Value)(bx:Nat)(W:World):Prop where
 e:Wq W x
 t:Cw W
 m:Aaq W v (Qh x) (x.roads.map Bm)
 r:H8 W u (Qh x) (x.roads.map Bm)
 k:W.heap[bx]? =some (.cells #[.slice x.An x.nn x.cn, .slice x.Ar x.nr x.cr, .slice x.Al x.nl x.cl, .slice x.Av x.nv x.cv, .slice x.Aw x.nw x.cw, .int .i64 x.a, .int .i64 x.i, .int .i64 x.j, .int .i64 x.now] 66 (0,0))
 bl:Below w.heap.size w W
section
variable {w W W':World}{x:EdR}{v u:Value}{bx:Nat}
theorem StR.step (h:StR w x v u bx W)(hb:Below W.heap.size W W'):StR w x v u bx W':=
 ⟨h.e.below hb,h.t.below hb rr,h.m.below hb,h.r.below hb,(hb.block bx (lt_of_block h.k)).trans h.k,h.bl.trans (hb.mono h.bl.size)⟩
theorem StR.c2 (h:StR w x v u bx W):W.cell? ⟨bx,2,none⟩=some (.slice x.Al x.nl x.cl):=Ad h.k rfl
theorem StR.c3 (h:StR w x v u bx W):W.cell? ⟨bx,3,none⟩=some (.slice x.Av x.nv x.cv):=Ad h.k rfl
theorem StR.c4 (h:StR w x v u bx W):W.cell? ⟨bx,4,none⟩=some (.slice x.Aw x.nw x.cw):=Ad h.k rfl
theorem StR.c5 (h:StR w x v u bx W):W.cell? ⟨bx,5,none⟩=some (.int .i64 x.a):=Ad h.k rfl
theorem StR.c6 (h:StR w x v u bx W):W.cell? ⟨bx,6,none⟩=some (.int .i64 x.i):=Ad h.k rfl
theorem StR.c8 (h:StR w x v u bx W):W.cell? ⟨bx,8,none⟩=some (.int .i64 x.now):=Ad h.k rfl
end
theorem Abs (v:Value)(n:Nat)(rs:List Bk)(Ax:Option Addr)(nx cx:Nat)(xs:List Cb)(A:Option Addr)(m c:Nat)(ys:List Cs)(w:World)(hm:H8 w v n rs)(hx:Cf w Ax nx cx xs)(hu:Pm xs)(hy:Cm w A m c ys):
  Calls Tryz.prog 38 #[v, .slice Ax nx cx, .slice A m c] w fun e w'=>e= .returned (.int .i64 (Dy n (Au xs) (Aj ys)))/\Below w.heap.size w w':=by
 have d5:=hy.max;have d6:=hx.max;have HM:=hI hm;have HX:=hI hx;have HY:=hI hy;have HU:=hI hu;have b9:Hid ((Au xs).length=nx):=by show _=_;rw[Au,List.length_map];exact hx.len
 have b8:Hid ((Aj ys).length=m):=by show _=_;rw[Aj,List.length_map];exact hy.len
 clear hm hx hy hu;go_enter Tryz.func38,Tryz.ntmps38;go_wp2_with fail;refine(Te v n rs w HM.out).mono ?_;rintro e w1 ⟨rfl,b6⟩;have a3:=hI b6;clear b6;by_cases hn0:n=0
 ·have HV:Hid (Dy n (Au xs) (Aj ys)=1):=by show _=_;unfold Dy;rw[if_pos hn0]
  have hz:(n:Int)=0:=by omega
  go_wp2;go_ret;exact⟨by rw[HV.out];rfl,a3.out⟩
 ·have hz:((n:Int)==0)=false:=by simpa using hn0
  have HV:Hid (Dy n (Au xs) (Aj ys)=if C8 (Au xs)≠0 then C8 (Au xs)else if 64<(Aj ys).length then 12 else Ey n (Au xs).length (Aj ys)):=by show _=_;unfold Dy;rw[if_neg hn0]
  go_wp2_with fail;refine(S9 Ax nx cx xs w1 (HX.out.below a3.out rr) HU.out).mono ?_;obtain⟨er,b0⟩:∃er,er=C8 (Au xs):=⟨_,rfl⟩;rw[←b0];rintro e w2 ⟨rfl,b5⟩;have a9:=hI (a3.out.trans (b5.mono a3.out.size));have a5:=hI b0;clear b5 a3 b0;by_cases he0:er=0
  ·have d1:(er !=0)=false:=by simp[he0]
   have a2:Hid (Dy n (Au xs) (Aj ys)=if 64<m then 12 else Ey n nx (Aj ys)):=by
    show _=_;rw[HV.out,if_neg (by rw[←a5.out];simpa using he0),b9.out,b8.out]
   clear HV a5 he0;by_cases hm64:64<m
   ·have a1:(64:Int)<(m:Int):=by omega
    go_wp2;go_ret;exact⟨by rw[a2.out,if_pos hm64];rfl,a9.out⟩
   ·have a1:¬(64:Int)<(m:Int):=by omega
    have a6:Hid (Dy n (Au xs) (Aj ys)=Ey n nx (Aj ys)):=by show _=_;rw[a2.out,if_neg hm64]
    clear a2;go_wp2_with fail
    go_loopw [7,8] (fun _ i wr=>∃k:Nat,k<=m/\i= .int .i64 (k:Int)/\Hid (Ey n nx (Aj ys)=Ey n nx ((Aj ys).drop k))/\Hid (Below w.heap.size w wr)) (fun _ i _=>m-(intOf i).toNat)
    case atStart=>exact⟨0,Nat.zero_le _,rfl,rfl,a9.out⟩
    case round=>
     obtain⟨k,hk,rfl,HE,HB⟩:=hrel;clear a9;by_cases hlt:k<m
     ·have d3:(k:Int)<(m:Int):=by omega
      obtain⟨x,hx⟩:=(HY.out.below HB.out).get hlt;obtain⟨yb,yo,hA,d4,b4,k0,k1,k2,k3,k4⟩:=(HY.out.below HB.out).at_ hx;subst hA;have b2:(Aj ys)[k]? =some x.d:=by rw[Aj,List.getElem?_map,hx];rfl
      have HS:Hid (Ey n nx ((Aj ys).drop k)=if x.d.law<0\/(nx:Int)<=x.d.law then 3 else if Em n x.d≠0 then Em n x.d else Ey n nx ((Aj ys).drop (k+1))):=by
       show _=_;rw[Rd b2];rfl
      have b3:=hI b4;clear hx b2 b4;obtain⟨⟨law,ps,T,S,fin⟩,Aw,nw,cw⟩:=x;simp only at k0 k1 k2 k3 k4;have d2:=b3.out.u.law;simp only at d2;by_cases hl0:law<0
      ·go_wp2;go_ret;exact⟨by rw[a6.out,HE.out,HS.out,if_pos (.inl hl0)];rfl,HB.out⟩
      ·by_cases hln:(nx:Int)<=law
       ·go_wp2;go_ret;exact⟨by rw[a6.out,HE.out,HS.out,if_pos (.inr hln)];rfl,HB.out⟩
       ·have a7:Hid (Ey n nx ((Aj ys).drop k)=if Em n ⟨law,ps,T,S,fin⟩≠0 then Em n ⟨law,ps,T,S,fin⟩else Ey n nx ((Aj ys).drop (k+1))):=by
         show _=_
         have:=HS.out
         rw[if_neg (by show¬(law<0\/(nx:Int)<=law);omega)]at this;exact this
        clear HS;go_wp2_with fail;refine(Ah7 v n rs ⟨⟨law,ps,T,S,fin⟩,Aw,nw,cw⟩ _ (HM.out.below HB.out) b3.out).mono ?_;obtain⟨e1,a0⟩:∃e1,e1=Em n ⟨law,ps,T,S,fin⟩:=⟨_,rfl⟩;rw[←a0];rintro e w3 ⟨rfl,b7⟩;have b1:=hI (HB.out.trans (b7.mono HB.out.size));have a4:=hI a0;clear b7 HB a0 k0 k1 k2 k3 k4;by_cases h10:e1=0
        ·have d0:(e1 !=0)=false:=by simp[h10]
         have a8:Hid (Ey n nx ((Aj ys).drop k)=Ey n nx ((Aj ys).drop (k+1))):=by
          show _=_;rw[a7.out,if_neg (by rw[←a4.out];simpa using h10)]
         clear a7 a4 h10;go_wp2_with fail
         go_roundw
         case rel=>first|exact⟨k+1,by omega,by go_num,by show _=_;rw[HE.out,a8.out],b1.out⟩|((repeat apply Exists.intro);exact⟨⟨k+1,by omega,by go_num,by show _=_;rw[HE.out,a8.out],b1.out⟩,rfl⟩)
         case measure=>simp[intOf];omega
        ·have d0:(e1 !=0)=true:=by simpa using h10
         have a8:Hid (Ey n nx ((Aj ys).drop k)=e1):=by
          show _=_;rw[a7.out,if_pos (by rw[←a4.out];exact h10),a4.out]
         clear a7 a4 h10;go_wp2;go_ret;exact⟨by rw[a6.out,HE.out,a8.out];rfl,b1.out⟩
     ·obtain rfl:k=m:=by omega
      go_wp2;go_ret;exact⟨by rw[a6.out,HE.out,List.drop_eq_nil_of_le (by rw[b8.out];exact rr)];rfl,HB.out⟩
  ·have d1:(er !=0)=true:=by simpa using he0
   have a2:Hid (Dy n (Au xs) (Aj ys)=er):=by
    show _=_;rw[HV.out,if_pos (by rw[←a5.out];exact he0),a5.out]
   clear HV a5 he0;go_wp2;go_ret;exact⟨by rw[a2.out];rfl,a9.out⟩
end Go.Proofs.YtaglfmlgbcmakaaGreatDoor
namespace Go.Proofs.YtaglfmlgbcmakaaGreatDoor
open Go.RowKit Go.Shelf
end Go.Proofs.YtaglfmlgbcmakaaGreatDoor
namespace Go.Proofs.YtaglfmlgbcmakaaGreatDoor
open Go.RowKit Go.Shelf
theorem Dz.lts {w:World}{B:Nat}{v:Value}{ps:List Part}(h:Dz w B v ps):∀k,v.ownBlock=some k->B<=k/\k<w.heap.size:=fun k e=>h.own.lt k e
theorem Dz.form {w:World}{B:Nat}{v:Value}{ps:List Part}(h:Dz w B v ps):∃A c,v= .slice A ps.length c:=Bh h.own
theorem Dz.cells {w:World}{B n c:Nat}{A:Option Addr}{ps:List Part}(h:Dz w B (.slice A n c) ps)(hn:ps.length=n):Az w A n c 1 (ps.map Part.val):=by
 subst hn;exact Az.of_own h.own (by decide)
theorem Dz.old {w w0:World}{B:Nat}{v:Value}{ps:List Part}{q:Part}(h:Dz w B v ps)(hb:Below w0.heap.size w0 w)(hB:w0.heap.size<=B)(hq:Ak w0 q.1 q.2.1 q.2.2.1 q.2.2.2):Et v w q:=
 ⟨hq.below hb rr,fun ad had hn e=>by have h1:=(h.own.lt _ e).1;have h2:=Wi hq had hn;omega⟩
theorem Dz.grow {w X:World}{B:Nat}{v:Value}{w0:World}(hb:Below w0.heap.size w0 w)(hg:w.grownBy X v.ownBlock)(hv:∀k,v.ownBlock=some k->w0.heap.size<=k):Below w0.heap.size w0 X:=
 hb.grown hg hb.size hv
def Pn (w:World)(r:Int×List (List Snd))(e:Ending)(w':World):Prop:=
 ∃A k c,∃ps:List Part,e= .returned (.tuple #[.slice A k c, .int .i64 r.1])/\ps.map Part.word=r.2/\Az w' A k c 1 (ps.map Part.val)/\Hu w' ps/\(∀p∈ps,∀ad,p.1=some ad->w.heap.size<=ad.block)/\(∀ad,A=some ad->w.heap.size<=ad.block)/\Below w.heap.size w w'
theorem Pn.bad {w w':World}{r:Int×List (List Snd)}{er:Int}(h:r=(er,[]))(hb:Below w.heap.size w w'):Pn w r (.returned (.tuple #[.slice none 0 0, .int .i64 er])) w':=by
 subst h;exact⟨none,0,0,[],rfl,rfl,Az.nil _ _,(fun p hp=>absurd hp (List.not_mem_nil)),(fun p hp=>absurd hp (List.not_mem_nil)),(fun ad h=>by cases h),hb⟩
theorem Pn.ok {w w':World}{r:Int×List (List Snd)}{B:Nat}{v:Value}{ps:List Part}(h:r=(0,ps.map Part.word))(hw:Dz w' B v ps)(hB:w.heap.size<=B)(hf:∀p∈ps,∀ad,p.1=some ad->w.heap.size<=ad.block)(hb:Below w.heap.size w w'):Pn w r (.returned (.tuple #[v, .int .i64 0])) w':=by
 subst h;obtain⟨A,c,rfl⟩:=hw.form;exact⟨A,_,c,ps,rfl,rfl,Az.of_own hw.own (by decide),fun p hp=>(hw.pp p hp).1,hf,fun ad had=>Nat.le_trans hB (hw.own.lt ad.block (by subst had;rfl)).1,hb⟩
theorem Th (v:Value)(n:Nat)(rs:List Bk)(Ax:Option Addr)(nx cx:Nat)(xs:List Cb)(A:Option Addr)(m c:Nat)(ys:List Cs)(Aw:Option Addr)(nw cw:Nat)(ws:List Snd)(now:Int)(w:World)(hm:H8 w v n rs)(hx:Cf w Ax nx cx xs)(hu:Pm xs)(hy:Cm w A m c ys)(hw:Ak w Aw nw cw ws)(hwu:Ck ws)(h19:m<=19\/64<m):
  Calls Tryz.prog 43 #[v, .slice Ax nx cx, .slice A m c, .slice Aw nw cw, .int .i64 now] w (Pn w (Bp n rs (Au xs) (Aj ys) ws now)):=by
 have i7:=hm.few;have HM:=hI hm;have HX:=hI hx;have HY:=hI hy;have HW:=hI hw;have HU:=hI hu;have i4:=hI hwu;have g3:Hid ((Aj ys).length=m):=by show _=_;rw[Aj,List.length_map];exact hy.len
 have m0:=hI h19;have p2:=hx.len;clear hm hx hy hu hw hwu h19;go_enter Tryz.func43,Tryz.ntmps43;go_wp2_with fail;refine(Abs v n rs Ax nx cx xs A m c ys w HM.out HX.out HU.out HY.out).mono ?_;obtain⟨er,f5⟩:∃er,er=Dy n (Au xs) (Aj ys):=⟨_,rfl⟩;rw[←f5];rintro e w1 ⟨rfl,k5⟩;have b4:=hI k5;have f2:=hI f5;clear k5 f5;by_cases he0:er=0
 case neg=>
  have m1:(er==0)=false:=by simpa using he0
  have k0:(er !=0)=true:=by simpa using he0
  have HV:Hid (Bp n rs (Au xs) (Aj ys) ws now=(er,[])):=by show _=_;unfold Bp;rw[if_pos (by rw[←f2.out];exact he0),f2.out]
  clear he0;go_wp2
  go_ret2
  exact Pn.bad HV.out b4.out
 have m1:(er==0)=true:=by simp[he0]
 have a5:Hid (Dy n (Au xs) (Aj ys)=0):=by show _=_;rw[←f2.out,he0]
 have k4:n≠0:=by have:=(F1 a5.out).1;omega
 have f6:m<=19:=by have:=(F1 a5.out).2.2.1;rw[g3.out]at this;have:=m0.out;omega
 have f8:Hid (∀y∈ys,Em n y.d=0):=fun y hy=>((F1 a5.out).2.2.2 y.d (List.mem_map.2 ⟨y,hy,rfl⟩)).2.2
 have g7:Hid (∀y∈ys,0<=y.d.law/\y.d.law<(xs.length:Int)):=fun y hy=>by
  have:=(F1 a5.out).2.2.2 y.d (List.mem_map.2 ⟨y,hy,rfl⟩)
  rw[Au,List.length_map]at this;exact⟨this.1,this.2.1⟩
 obtain⟨b,rfl,j6⟩:=HM.out.at_ k4;have k7:=hI j6;clear f2 j6 k4;subst he0;go_wp2_with fail;refine(Mx Aw nw cw ws w1 (HW.out.below b4.out rr) i4.out).mono ?_;obtain⟨d7,a8⟩:∃er,er=B4 ws:=⟨_,rfl⟩;rw[←a8];rintro e w2 ⟨rfl,k1⟩;have f0:=hI (b4.out.trans (k1.mono b4.out.size));have a0:=hI a8;clear k1 a8 b4;by_cases he0:d7=0
 case neg=>
  have k0:(d7 !=0)=true:=by simpa using he0
  have HV:Hid (Bp n rs (Au xs) (Aj ys) ws now=(d7,[])):=by show _=_;unfold Bp;rw[if_neg (by rw[a5.out];simp),if_pos (by rw[←a0.out];exact he0),a0.out]
  clear he0;go_wp2
  go_ret2
  exact Pn.bad HV.out f0.out
 have k0:(d7 !=0)=false:=by simpa using he0
 have HV:Hid (Bp n rs (Au xs) (Aj ys) ws now=Fb (Ra n rs (Au xs) (Aj ys) ws now) [] (List.range n)):=by
  show _=_;unfold Bp;rw[if_neg (by rw[a5.out];simp),if_neg (by rw[←a0.out];simpa using he0)]
 clear a0;subst he0;have a7:Hid (Dz w2 w2.heap.size (.slice none 0 0) []):=Dz.nil w2;obtain⟨F,hF⟩:∃F,F=Ra n rs (Au xs) (Aj ys) ws now:=⟨_,rfl⟩;rw[←hF]at HV;have HF:=hI hF
 have m6:xs.length<=64:=by
  have:=(F1 a5.out).2.1
  have h:=Qe this;rwa[Au,List.length_map]at h
 obtain⟨B,hB⟩:∃B,B=w2.heap.size:=⟨_,rfl⟩;have o2:w.heap.size<=B:=by have:=f0.out.size;omega
 rw[←hB]at a7;clear hF hB;go_wp2_with fail
 go_loopw [13,14] (fun u13 i wr=>∃(k:Nat) (ps:List Part),k<=n/\i= .int .i64 (k:Int)/\Hid (Dz wr B u13 ps)/\Hid (ps.map Part.word=(List.range k).map fun a=>(F a).2)/\Hid (∀a,a<k->(F a).1=0)/\Hid (∀p∈ps,∀ad,p.1=some ad->w.heap.size<=ad.block)/\Hid (Below w.heap.size w wr)) (fun _ i _=>n-(intOf i).toNat)
 case atStart=>exact⟨0,[],Nat.zero_le _,rfl,a7.out,rfl,(fun a ha=>by omega),(fun p hp=>absurd hp (List.not_mem_nil)),f0.out⟩
 case round=>
  obtain⟨k,ps,hk,rfl,i3,f3,f7,j3,HB⟩:=hrel;clear a7 f0;go_wp2_with fail;refine(Te _ n rs wr (HM.out.below HB.out)).mono ?_;rintro e w3 ⟨rfl,i2⟩;have a4:=hI (i3.out.below i2);have a9:=hI (HB.out.trans (i2.mono HB.out.size));clear i2 i3 HB;by_cases hkn:k<n
  ·have o0:(k:Int)<(n:Int):=by omega
   go_wp2_with fail;refine(Aee b n rs A m c ys k now w3 (k7.out.below a9.out) (HY.out.below a9.out) f8.out hkn f6).mono ?_;rintro e w4 ⟨A4,q,c4,rfl,d9,g9⟩;obtain⟨L,hL⟩:∃L,L=Jd n rs (Aj ys) k now:=⟨_,rfl⟩;rw[←hL]at d9;have hq:L.length=q:=d9.len
   have j7:q<=19:=by
    have h1:=K8 (Cr (tAt n rs (Aj ys) k)) (fun i=>Gt now (tAt n rs (Aj ys) k i)) (Aj ys).length;have h2:=List.length_filter_le (fun i=>Gt now (tAt n rs (Aj ys) k i)) (List.range (Aj ys).length);rw[List.length_range,g3.out]at h2;rw[←hq,hL];unfold Jd Lx;rw[List.length_map,h1,g3.out];omega
   have m2:Hid (∀x∈L,0<=x/\x<(xs.length:Int)):=fun x hx=>by
    rw[hL]at hx;obtain⟨j,hj,rfl⟩:=List.mem_map.1 hx;have j8:=((Fs (Cr _) _ _ _).1 hj).1;unfold Rw;obtain⟨y,hy⟩:∃y,ys[j]? =some y:=⟨ys[j]'(by rw[Aj,List.length_map]at j8;exact j8),List.getElem?_eq_getElem _⟩;rw[Aj,List.getElem?_map,hy];exact g7.out y (List.mem_of_getElem? hy)
   have d4:Hid (F k=Bz (En (Au xs) L) ws):=by show _=_;rw[HF.out,hL];rfl
   have k9:=hI d9;have b8:=hI (a4.out.below g9);have d8:=hI (a9.out.trans (g9.mono a9.out.size));have HQ:=hI hq;have o9:q<=9223372036854775807:=by omega
   clear d9 g9 hL hq a4 a9;go_wp2_with fail
   go_loopw [15,17] (fun s15 i wq=>∃j:Nat,j<=q/\i= .int .i64 (j:Int)/\Hid (wq.ownsRow w4.heap.size 55 18 s15 j ((J9 xs (L.take j)).flatMap Cb.cells))/\Hid (Below w4.heap.size w4 wq)) (fun _ i _=>q-(intOf i).toNat)
   case atStart=>exact⟨0,Nat.zero_le _,rfl,World.ownsRow_nil _ _ _ _,Below.refl _ _⟩
   case round=>
    obtain⟨j,hj,rfl,HO,b1⟩:=hrel;by_cases hjq:j<q
    ·have o3:(j:Int)<(q:Int):=by omega
     have d0:L[j]? =some (L[j]'(by have:=HQ.out;omega)):=List.getElem?_eq_getElem _;obtain⟨x,j1⟩:∃x,x=L[j]'(by have:=HQ.out;omega):=⟨_,rfl⟩;rw[←j1]at d0;have o8:=m2.out x (List.mem_of_getElem? d0);obtain⟨z,rfl⟩:∃z:Nat,x=z:=⟨x.toNat,by omega⟩;have o7:z<xs.length:=by omega
     obtain⟨s,hs⟩:∃s,xs[z]? =some s:=⟨xs[z]'o7,List.getElem?_eq_getElem _⟩;have m5:Hid (L.take (j+1)=L.take j++[(z:Int)]):=by show _=_;rw[List.take_add_one,d0];rfl
     have g6:Hid (J9 xs (L.take (j+1))=J9 xs (L.take j)++[s]):=by show _=_;rw[m5.out];exact We xs _ _ s hs
     obtain⟨gl,ol,vv,m4,p0,i0,p3⟩:=(Az.below k9.out b1.out rr).at1 (k:=j) (by omega);rw[List.getElem?_map,d0]at i0;obtain rfl:vv= .int .i64 (z:Int):=by simpa using i0.symm
     subst m4;obtain⟨b0,off0,o1,m7,j4⟩:=(HX.out.below (d8.out.trans (b1.out.mono d8.out.size)) rr).at_ hs;subst o1;have p1:(z:Int)<(nx:Int):=by omega
     have m3:=hI j4;obtain⟨A6,c6,rfl⟩:=Bh HO.out;have a1:(wr.alloc (.cells (s.cells).toArray 55)).ownsRow w4.heap.size 55 18 (.slice A6 j c6) j ((J9 xs (L.take j)).flatMap Cb.cells):=HO.out.alloc _
     have b5:Eb Cb.cells 18 (wr.alloc (.cells (s.cells).toArray 55)) (some ⟨wr.heap.size,0,none⟩) 1 1 [s]:=
      ⟨⟨by simp[Cb.len],rr,by unfold maxLen;omega,(fun h=>by cases h),fun _=>⟨wr.heap.size,0,rfl,by simp,fun j v hv=>by rw[Nat.zero_add];exact B8 (by simpa using hv)⟩⟩,rfl⟩
     have a6:Below w4.heap.size w4 (wr.alloc (.cells (s.cells).toArray 55)):=b1.out.alloc b1.out.size _;have d2:=a6.size;have a2:=hI a1;have g0:=hI b5;have g5:=hI a6;clear a1 b5 a6 j4 hs d0 i0 j1;go_wp2_with(first|(refine Qg rfl (.tmp 54) rfl b0 (off0+z*18) s rfl m3.out ?_)|(refine Ss rfl (.tmp 55) rfl s rfl ?_)|(at_builtin;refine Re rfl (.tmp 48) (.tmp 56) rfl w4.heap.size (.slice A6 j c6) j (J9 xs (L.take j)) rfl a2.out (some ⟨wr.heap.size,0,none⟩) 1 1 [s] rfl g0.out (by omega) d2 ?hl))
     case hl=>
      intro v' w9 a3 k3 _;have b7:Hid (Below w4.heap.size w4 w9):=g5.out.grown k3 d2 fun p hp=>(a2.out.lt _ hp).1
      have i5:Hid (w9.ownsRow w4.heap.size 55 18 v' (j+1) ((J9 xs (L.take (j+1))).flatMap Cb.cells)):=by
       show World.ownsRow _ _ _ _ _ _ _;rw[g6.out,List.flatMap_append,List.flatMap_singleton];simpa using a3
      clear a3 k3;go_wp2_with fail
      go_roundw
      case rel=>first|exact⟨j+1,by omega,by go_num,i5.out,b7.out⟩|((repeat apply Exists.intro);exact⟨⟨j+1,by omega,by go_num,i5.out,b7.out⟩,rfl⟩)
      case measure=>simp[intOf];omega
    ·obtain rfl:j=q:=by omega
     have k6:L.take j=L:=List.take_of_length_le (by rw[HQ.out];exact rr);rw[k6]at HO;obtain⟨A6,c6,rfl⟩:=Bh HO.out;have d1:=hI (d8.out.trans (b1.out.mono d8.out.size));have j0:Cf wr A6 j c6 (J9 xs L):=⟨Eb.of_own HO.out Cb.len (by decide),fun y hy=>(HX.out.below d1.out rr).2 y (T8 hy)⟩
     have o5:=hI j0;have b3:=hI (b8.out.below b1.out);have m8:Hid (Pm (J9 xs L)):=fun y hy=>HU.out y (T8 hy)
     clear k6 j0 HO b8;go_wp2_with fail;refine(Xa A6 j c6 (J9 xs L) Aw nw cw ws wr o5.out (HW.out.below d1.out rr) m8.out i4.out).mono ?_;rw[Acl];obtain⟨dv,i8⟩:∃dv,dv=Bz (En (Au xs) L) ws:=⟨_,rfl⟩;rw[←i8]at d4 ⊢;clear i8;obtain⟨e3,dw⟩:=dv;rintro e w8 ⟨Ac,nc,cc,rfl,i9,f9,g4⟩;have k2:=hI (b3.out.fresh (q:=(Ac,nc,cc,dw)) i9 g4);have f4:=hI (b3.out.below f9);have d5:=hI (d1.out.trans (f9.mono d1.out.size));have g2:Hid (∀ad,Ac=some ad->w.heap.size<=ad.block):=fun ad had=>Nat.le_trans d1.out.size (g4 ad had)
     clear i9 f9 g4;by_cases h30:e3=0
     ·have o4:(e3 !=0)=false:=by simp[h30]
      have g1:Hid ((F k).1=0):=by show _=_;rw[d4.out];exact h30
      obtain⟨A13,c13,i1⟩:=f4.out.form;have o6:ps.length<=k:=by have:=congrArg List.length f3.out;simp at this;omega
      subst i1;have d6:Below w8.heap.size w8 (w8.alloc (.cells #[.slice Ac nc cc] 28)):=(Below.refl _ w8).alloc rr _;have f1:=hI (f4.out.below d6);have m9:=hI (k2.out.below d6);have j5:=hI (d5.out.trans (d6.mono d5.out.size));have g8:=f1.out.sz;clear d6 f4 k2 d5 h30;go_wp2_with(at_builtin;refine He rfl (.tmp 67) (.tmp 69) rfl B (.slice A13 ps.length c13) ps.length (ps.map Part.val) rfl f1.out.own ⟨w8.heap.size,0,none⟩ 1 (.slice Ac nc cc) rfl (cell_one_new _ _ _) rfl (by omega) g8 ?hc)
      case hc=>
       intro v' w7 b6 hg j2;have j9:=hI (f1.out.push (q:=(Ac,nc,cc,dw)) m9.out b6 hg (by simpa using j2));have i6:Hid (Below w.heap.size w w7):=j5.out.grown hg j5.out.size fun p e=>by have:=(f1.out.own.lt p e).1;omega
       have d3:Hid ((ps++[((Ac,nc,cc,dw):Part)]).map Part.word=(List.range (k+1)).map fun a=>(F a).2):=by
        show _=_;rw[List.map_append,f3.out,List.range_succ,List.map_append];show _++[dw]=_++[(F k).2];rw[d4.out]
       have b9:Hid (∀a,a<k+1->(F a).1=0):=fun a ha=>by
        by_cases e:a=k
        ·rw[e];exact g1.out
        ·exact f7.out a (by omega)
       have b2:Hid (∀p∈ps++[((Ac,nc,cc,dw):Part)],∀ad,p.1=some ad->w.heap.size<=ad.block):=fun p hp ad had=>by
        rcases List.mem_append.1 hp with hp|hp
        ·exact j3.out p hp ad had
        ·obtain rfl:p=((Ac,nc,cc,dw):Part):=by simpa using hp
         exact g2.out ad had
       clear b6 hg j2;go_wp2_with fail
       go_roundw
       case rel=>first|exact⟨k+1,_,by omega,by go_num,j9.out,d3.out,b9.out,b2.out,i6.out⟩|((repeat apply Exists.intro);exact⟨⟨k+1,_,by omega,by go_num,j9.out,d3.out,b9.out,b2.out,i6.out⟩,rfl⟩)
       case measure=>simp[intOf];omega
     ·have o4:(e3 !=0)=true:=by simpa using h30
      have g1:Hid (Bp n rs (Au xs) (Aj ys) ws now=(e3,[])):=by
       show _=_;rw[HV.out,Rz hkn,Mp _ _ _ _ (fun b hb=>f7.out b (List.mem_range.1 hb)) (by rw[d4.out];exact h30),d4.out]
      clear h30;go_wp2
      go_ret2
      exact Pn.bad g1.out d5.out
  ·obtain rfl:k=n:=by omega
   have k8:Hid (Bp k rs (Au xs) (Aj ys) ws now=(0,ps.map Part.word)):=by
    show _=_;rw[HV.out,Nz _ _ (fun a ha=>f7.out a (List.mem_range.1 ha)),f3.out];rfl
   go_wp2
   go_ret2
   exact Pn.ok k8.out a4.out o2 j3.out a9.out
theorem Zs (v:Value)(n:Nat)(rs:List Bk)(Ax:Option Addr)(nx cx:Nat)(xs:List Cb)(A:Option Addr)(m c:Nat)(ys:List Cs)(Aw:Option Addr)(nw cw:Nat)(ws:List Snd)(now:Int)(w:World)(hm:H8 w v n rs)(hx:Cf w Ax nx cx xs)(hu:Pm xs)(hy:Cm w A m c ys)(hw:Ak w Aw nw cw ws)(hwu:Ck ws)(h19:m<=19\/64<m):
  Calls Tryz.prog 44 #[v, .slice Ax nx cx, .slice A m c, .slice Aw nw cw, .int .i64 now] w (Jk w (Hs n rs (Au xs) (Aj ys) ws now)):=by
 have f2:=hm.few;have HF:=hI (Th v n rs Ax nx cx xs A m c ys Aw nw cw ws now w hm hx hu hy hw hwu h19);have HN:Hid ((Bp n rs (Au xs) (Aj ys) ws now).2.length<=n):=Wf _ _ _ _ _ _;have HV:Hid (Hs n rs (Au xs) (Aj ys) ws now=if(Bp n rs (Au xs) (Aj ys) ws now).1≠0 then((Bp n rs (Au xs) (Aj ys) ws now).1,[])else(0,(Bp n rs (Au xs) (Aj ys) ws now).2.map (Dd (Bp n rs (Au xs) (Aj ys) ws now).2))):=rfl;obtain⟨R,hR⟩:∃R,R=Bp n rs (Au xs) (Aj ys) ws now:=⟨_,rfl⟩;obtain⟨V,hV⟩:∃V,V=Hs n rs (Au xs) (Aj ys) ws now:=⟨_,rfl⟩;rw[←hR]at HF HN HV;rw[←hV]at HV ⊢;obtain⟨er,fs⟩:=R;clear hm hx hu hy hw hwu h19 hR hV
 (try simp only at HF HN HV)
 go_enter Tryz.func44,Tryz.ntmps44;go_wp2_with fail;refine HF.out.mono ?_;rintro e w1 ⟨A1,k,c1,ps,rfl,f8,f6,d6, -, -,f9⟩
 have b0:Bs w1 A1 k c1 fs:=by
  have:ps.map Part.word=fs:=f8
  rw[←this];exact Bs.mk f6 d6
 have i4:k<=128:=by have h1:=b0.len;have h2:=HN.out;(try simp only at h1 h2);omega
 have d5:Hid (fs.length=k):=b0.len;have g0:Hid (Bs w1 A1 k c1 fs):=b0;have b4:=hI f9;clear f9 HF b0 f8 f6 d6;by_cases h0:er=0
 case neg=>
  have i7:(er !=0)=true:=by simpa using h0
  have b2:Hid (V=(er,[])):=by show _=_;rw[HV.out,if_pos h0]
  clear h0;go_wp2
  go_ret2
  exact Jk.bad b2.out b4.out
 subst h0;have b2:Hid (V=(0,fs.map (Dd fs))):=by show _=_;rw[HV.out,if_neg (by simp)]
 clear HV;obtain⟨B,hB⟩:∃B,B=w1.heap.size:=⟨_,rfl⟩;have i1:w1.heap.size<=B:=by omega
 have d2:Hid (D9 w1 B (.slice none 0 0) []):=D9.nil (by omega);clear hB;go_wp2_with fail
 go_loopw [14,15] (fun s14 s15 wr=>∃a:Nat,a<=k/\s15= .int .i64 (a:Int)/\Hid (D9 wr B s14 ((fs.take a).map (Dd fs)))/\Hid (Below w1.heap.size w1 wr)) (fun _ s15 _=>k-(intOf s15).toNat)
 case atStart=>exact⟨0,Nat.zero_le _,rfl,d2.out,Below.refl _ _⟩
 case round=>
  obtain⟨a,ha,rfl,b1,b5⟩:=hrel;clear d2;by_cases hak:a<k
  ·have i2:(a:Int)<(k:Int):=by omega
   obtain⟨x,hx⟩:∃x,fs[a]? =some x:=⟨fs[a]'(by rw[d5.out];exact hak),List.getElem?_eq_getElem _⟩;have b7:=hI hx;have b9:Hid ((fs.take (a+1)).map (Dd fs)=(fs.take a).map (Dd fs)++[Dd fs x]):=by show _=_;rw[Bd fs a x hx,List.map_append];rfl
   clear hx;go_wp2_with fail
   go_loopw [16,17] (fun s16 s17 wr=>∃t f:Nat,t<=f/\f<=a/\s17= .int .i64 ((t:Int)-1)/\s16= .int .i64 (f:Int)/\Hid (fs[f]? =some x∧∀j,t<=j->j<f->fs[j]? ≠some x)/\Hid (D9 wr B u14 ((fs.take a).map (Dd fs)))/\Hid (Below w1.heap.size w1 wr)) (fun _ s17 _=>(intOf s17+1).toNat)
   case atStart=>exact⟨a,a,rr,rr,by go_num,rfl,⟨b7.out,fun j h1 h2=>by omega⟩,b1.out,b5.out⟩
   case round=>
    obtain⟨t,f,i6,b8,rfl,rfl,a5,a2,a0⟩:=hrel;clear b1 b5;by_cases ht:t=0
    ·subst ht;have g5:Hid (Dd fs x=(f:Int)):=Aiu a5.out.1 fun j hj=>a5.out.2 j (Nat.zero_le _) hj
     obtain⟨A8,c8,g8⟩:=a2.out.form;subst g8;obtain⟨L,hL⟩:∃L,L=(fs.take a).map (Dd fs):=⟨_,rfl⟩;have g3:L.length+1<=4096:=by rw[hL,List.length_map,List.length_take];omega
     rw[←hL]at a2 b9 ⊢;have b3:=a2.out.below ((Below.refl _ wr).alloc rr (.cells #[.int .i64 (f:Int)] 3));have a9:=hI b3;have g6:=b3.2;have f7:Hid (Below w1.heap.size w1 (wr.alloc (.cells #[.int .i64 (f:Int)] 3))):=a0.out.alloc a0.out.size _;clear b3 hL a2 a0 a5;go_wp2_with(at_builtin;refine Eu rfl (.tmp 53) (.tmp 55) rfl B (.slice A8 L.length c8) L.length (L.map (Value.int .i64)) rfl a9.out.1 ⟨wr.heap.size,0,none⟩ 1 (.int .i64 (f:Int)) rfl (cell_one_new _ _ _) rfl g3 g6 ?hc)
     case hc=>
      intro v' w9 a3 hg _;have f0:Hid (D9 w9 B v' ((fs.take (a+1)).map (Dd fs))):=by show D9 _ _ _ _;rw[b9.out,g5.out];exact a9.out.push a3 hg
      have d9:=hI (a9.out.grow f7.out i1 hg);clear a3 hg a9 f7;go_wp2_with fail
      go_roundw
      case rel=>first|exact⟨a+1,by omega,by go_num,f0.out,d9.out⟩|((repeat apply Exists.intro);exact⟨⟨a+1,by omega,by go_num,f0.out,d9.out⟩,rfl⟩)
      case measure=>simp[intOf];omega
    ·obtain⟨t,rfl⟩:∃t',t=t'+1:=⟨t-1,by omega⟩;have d8:((t+1:Nat):Int)-1=(t:Int):=by omega
     rw[d8];have i5:(t:Int)<(k:Int):=by omega
     have b6:=g0.out.below a0.out rr;obtain⟨g1,o1,Aa,na,ca,xa,g4,g9,d1,f5,f1⟩:=b6.at_ hak;obtain⟨g2,o2,Ab,nb,cb,y,f3, -,d0,d7,d3⟩:=b6.at_ (k:=t) (by omega);obtain rfl:x=xa:=by have:=b7.out;rw[f5]at this;injection this with this;exact this.symm
     subst g4;simp only[Option.some.injEq,Addr.mk.injEq,and_true]at f3;obtain⟨rfl,rfl⟩:=f3;have i3:=hI f1;have i0:=hI d3;have f4:=hI d7;clear b6 f5 f1 d3 d7;go_wp2_with fail;refine Bg (fun W'=>W'.cell? ⟨g1,o1+a,none⟩=some (.slice Aa na ca)/\W'.cell? ⟨g1,o1+t,none⟩=some (.slice Ab nb cb)) (by kernel_rfl) ⟨d1,d0⟩ (fun hHeld=> ?_)
     (refine' Ae 0 rfl ?_;(try simp only[Act.put,nY,nX]));(refine' Ae 1 rfl ?_;(try simp only[Act.put,nY,nX]));(refine' Ae 2 rfl ?_;(try simp only[Act.put,nY,nX]));(refine' Ae 3 rfl ?_;(try simp only[Act.put,nY,nX]));(refine' Ae 4 rfl ?_;(try simp only[Act.put,nY,nX]));(refine' Ae 5 rfl ?_;(try simp only[Act.put,nY,nX]));(refine' Ae 6 rfl ?_;(try simp only[Act.put,nY,nX]));(refine' Ae 7 rfl ?_;(try simp only[Act.put,nY,nX]))
     clear hHeld
     (refine Anv 8 rfl (fun K' hK'=> ?_);simp only[nY];go_simp)
     have a6:Below wr.heap.size wr wr.drew:=(Below.refl wr.heap.size wr).drew;refine(Yd Aa Ab na nb ca cb x y _ (i3.out.below a6 rr) (i0.out.below a6 rr)).mono ?_;obtain⟨d,hd⟩:∃d,d=decide (x=y):=⟨_,rfl⟩;rw[←hd];rintro e w6 ⟨rfl,d4⟩;have a1:=a6.trans (d4.mono a6.size);have a8:=hI (a2.out.below a1);have a7:=hI (a0.out.trans (a1.mono a0.out.size));have HD:=hI hd;refine hK' _ _ ⟨.inl (by kernel_rfl),fun _=>Bf (by kernel_rfl) ?_ _⟩
     clear hK' K' hd a6 d4 a1 d1 d0 g9 a2 a0 d8
     cases d with
     |true=>
      have a4:Hid (fs[t]? =some x∧∀j,t<=j->j<t->fs[j]? ≠some x):=⟨by rw[f4.out,of_decide_eq_true HD.out.symm],fun j h1 h2=>by omega⟩
      go_wp2_with fail
      go_roundw
      case rel=>first|exact⟨t,t,rr,by omega,by go_num,rfl,a4.out,a8.out,a7.out⟩|((repeat apply Exists.intro);exact⟨⟨t,t,rr,by omega,by go_num,rfl,a4.out,a8.out,a7.out⟩,rfl⟩)
      case measure=>(simp[intOf];try omega)
     |false=>
      have a4:Hid (fs[f]? =some x∧∀j,t<=j->j<f->fs[j]? ≠some x):=⟨a5.out.1,fun j h1 h2=>by
       by_cases e:j=t
       ·subst e;rw[f4.out];intro h;injection h with h
        exact of_decide_eq_false HD.out.symm h.symm
       ·exact a5.out.2 j (by omega) h2⟩
      go_wp2_with fail
      go_roundw
      case rel=>first|exact⟨t,f,by omega,b8,by go_num,rfl,a4.out,a8.out,a7.out⟩|((repeat apply Exists.intro);exact⟨⟨t,f,by omega,b8,by go_num,rfl,a4.out,a8.out,a7.out⟩,rfl⟩)
      case measure=>(simp[intOf];try omega)
  ·obtain rfl:a=k:=by omega
   have g7:Hid (V=(0,(fs.take a).map (Dd fs))):=by show _=_;rw[b2.out,List.take_of_length_le (by rw[d5.out];exact rr)]
   go_wp2
   go_ret2
   exact Jk.own g7.out b1.out.1 (b4.out.trans (b5.out.mono b4.out.size))
end Go.Proofs.YtaglfmlgbcmakaaGreatDoor
