/-
  maps and same of ablautlaw38.
  ablautref38: Check.
  ablautref38: Line, Relics, Crossed.
  A parameter that is a case of chapter 38 is opened, with the ranges of its numbers.
-/
import Derived.Test.YtaglfmlgbcmakaaGreatDoorXR36N
import Derived.Test.YtaglfmlgbcmakaaGreatDoorXR38c
import Derived.Test.YtaglfmlgbcmakaaGreatDoorH09
import Derived.Test.YtaglfmlgbcmakaaGreatDoorG29
set_option linter.all false
set_option maxRecDepth 100000
set_option maxHeartbeats 4000000
namespace Go.Proofs.YtaglfmlgbcmakaaGreatDoor
open Go.RowKit Go.Shelf
theorem Yo:(Tryz.prog.info? 85).map (fun i=>(i.zero,i.size,i.bytes))=some (some (.agg #[.int .i64 0, .slice none 0 0, .int .i64 0, .int .i64 0, .int .i64 0]),5,56):=by kernel_rfl
def Jh (x:EdR):Nat:=if Dp x.names x.roads=0 then x.nn else 0
def Ajy (w:World)(x:EdR)(e:Ending)(w':World):Prop:=∃v u,e= .returned (.tuple #[v,u])/\Tm w' v (Jh x) (x.roads.map Be)/\Gc w' u (Jh x) (x.roads.map Be)/\Below w.heap.size w w'
theorem R8 (x:EdR)(w:World)(hx:Qr w x)(h12:x.nn<=12\/128<x.nn)(h40:x.nr<=40\/512<x.nr):Calls Tryz.prog 28 #[edV x] w (Ajy w x):=by
 have HX:=hI hx;have b5:=hI h12;have b2:=hI h40;have a6:Hid (x.names.length=x.nn):=hx.names.len;clear hx h12 h40;go_enter Tryz.func28,Tryz.ntmps28;have a9:Below w.heap.size w (w.alloc (.cells #[.slice x.An x.nn x.cn, .slice x.Ar x.nr x.cr, .slice x.Al x.nl x.cl, .slice x.Av x.nv x.cv, .slice x.Aw x.nw x.cw, .int .i64 x.a, .int .i64 x.i, .int .i64 x.j, .int .i64 x.now] 66)):=(Below.refl _ w).alloc rr _;have b1:(w.alloc (.cells #[.slice x.An x.nn x.cn, .slice x.Ar x.nr x.cr, .slice x.Al x.nl x.cl, .slice x.Av x.nv x.cv, .slice x.Aw x.nw x.cw, .int .i64 x.a, .int .i64 x.i, .int .i64 x.j, .int .i64 x.now] 66)).heap[w.heap.size]? =some (.cells #[.slice x.An x.nn x.cn, .slice x.Ar x.nr x.cr, .slice x.Al x.nl x.cl, .slice x.Av x.nv x.cv, .slice x.Aw x.nw x.cw, .int .i64 x.a, .int .i64 x.i, .int .i64 x.j, .int .i64 x.now] 66 (0,0)):=hpt;have a0:=hI a9;have a2:=hI b1;clear a9 b1;go_wp2_with fail;obtain⟨bx,a8⟩:∃bx,bx=w.heap.size:=⟨_,rfl⟩;rw[←a8]at a2 ⊢;generalize w.alloc (.cells #[.slice x.An x.nn x.cn, .slice x.Ar x.nr x.cr, .slice x.Al x.nl x.cl, .slice x.Av x.nv x.cv, .slice x.Aw x.nw x.cw, .int .i64 x.a, .int .i64 x.i, .int .i64 x.j, .int .i64 x.now] 66)=W0 at*;clear a8;refine(Acu x.An x.nn x.cn x.names x.Ar x.nr x.cr x.roads W0 ((HX.out.below a0.out).names) ((HX.out.below a0.out).roads)).mono ?_;rintro e w2 ⟨h2,a4⟩;have a1:=hI (a0.out.trans (a4.mono a0.out.size));have a3:=hI ((a4.block bx (lt_of_block a2.out)).trans a2.out)
 have h3:∃v er,e= .returned (.tuple #[v, .int .i64 er])/\Tm w2 v (Jh x) (x.roads.map Be):=by
  rcases h2 with⟨b3,rfl⟩|⟨he,b,rfl,hm⟩
  ·exact⟨_,_,rfl, .inl ⟨rfl,by unfold Jh;rw[if_neg b3]⟩⟩
  ·rw[a6.out]at hm;exact⟨_,_,rfl, .inr ⟨b,rfl,by unfold Jh;rw[if_pos he];exact hm⟩⟩
 obtain⟨v,er,rfl,a7⟩:=h3;have b8:=hI a7;clear a4 a0 a2 h2 a7;have c0:=Ad (j:=0) a3.out rfl;have c1:=Ad (j:=1) a3.out rfl;go_wp2_with fail;clear c0 c1;refine(Ahw x.An x.nn x.cn x.names x.Ar x.nr x.cr x.roads w2 ((HX.out.below a1.out).names) HX.out.nsz ((HX.out.below a1.out).roads) b5.out b2.out).mono ?_;rintro e w3 ⟨u,rfl,b0,a5⟩;have b7:=hI (b8.out.below a5);have b4:=hI (a1.out.trans (a5.mono a1.out.size));have b6:Hid (Gc w3 u (Jh x) (x.roads.map Be)):=by show Gc _ _ _ _;unfold Jh;rw[←a6.out];exact b0
 clear b0 a5 a1 a3;generalize Dp x.names x.roads=ne;go_wp2
 go_ret2
 exact⟨v,u,rfl,b7.out,b6.out,b4.out⟩
theorem R9 (A:Option Addr)(m c:Nat)(ys:List Bu)(w:World)(hy:Bv w A m c ys)(hm:m<=100):
  Calls Tryz.prog 31 #[.slice A m c] w fun e w'=>∃A' c',e= .returned (.slice A' m c')/\Bv w' A' m c' ys/\Below w.heap.size w w':=by
 have HY:=hI hy;have HL:Hid (ys.length=m):=hy.len;clear hy;go_enter Tryz.func31,Tryz.ntmps31;go_wp2_with fail
 go_loopw [3,4] (fun s3 i wr=>∃k:Nat,k<=m/\i= .int .i64 (k:Int)/\Hid (wr.ownsRow w.heap.size 85 5 s3 k ((ys.take k).flatMap Bu.cells))/\Hid (Below w.heap.size w wr)) (fun _ i _=>m-(intOf i).toNat)
 case atStart=>exact⟨0,Nat.zero_le _,rfl,World.ownsRow_nil _ _ _ _,Below.refl _ _⟩
 case round=>
  obtain⟨k,hk,rfl,HO,HB⟩:=hrel;by_cases hlt:k<m
  ·have b5:(k:Int)<(m:Int):=by omega
   obtain⟨x,hx⟩:=HY.out.get hlt;obtain⟨yb,yo,hA,a0, -,k0,k1,k2,k3,k4⟩:=HY.out.at_ hx;have b4:Hid ((ys.take (k+1)).flatMap Bu.cells=(ys.take k).flatMap Bu.cells++x.cells):=by show _=_;rw[Bd ys k x hx,List.flatMap_append,List.flatMap_singleton]
   subst hA;obtain⟨A3,c3,a3⟩:=Bh HO.out;subst a3;clear hx;obtain⟨⟨law,ps,T,S,fin⟩,Aw,nw,cw⟩:=x;simp only at k0 k1 k2 k3 k4
   have a4:Hid (∀W',Below w.heap.size w W'->W'.cell? ⟨yb,yo+k*5,none⟩=some (.int .i64 law)/\W'.cell? ⟨yb,yo+k*5+1,none⟩=some (.slice Aw nw cw)/\W'.cell? ⟨yb,yo+k*5+2,none⟩=some (.int .i64 T)/\W'.cell? ⟨yb,yo+k*5+3,none⟩=some (.int .i64 S)/\W'.cell? ⟨yb,yo+k*5+4,none⟩=some (.int .i64 fin)):=fun W' h=>
    ⟨(h.cell (p:=⟨yb,_,none⟩) a0).trans k0,(h.cell (p:=⟨yb,_,none⟩) a0).trans k1,(h.cell (p:=⟨yb,_,none⟩) a0).trans k2,(h.cell (p:=⟨yb,_,none⟩) a0).trans k3,(h.cell (p:=⟨yb,_,none⟩) a0).trans k4⟩
   clear k0 k1 k2 k3 k4 a0;go_wp2_with fail;refine Bg (fun W'=>W'.cell? ⟨yb,yo+k*5,none⟩=some (.int .i64 law)/\W'.cell? ⟨yb,yo+k*5+1,none⟩=some (.slice Aw nw cw)/\W'.cell? ⟨yb,yo+k*5+2,none⟩=some (.int .i64 T)/\W'.cell? ⟨yb,yo+k*5+3,none⟩=some (.int .i64 S)/\W'.cell? ⟨yb,yo+k*5+4,none⟩=some (.int .i64 fin)) (by kernel_rfl) (a4.out _ HB.out.drew) (fun hHeld=> ?_)
   (refine' Ab 0 rfl ?_;(try simp only[Act.put,nY,nX]))
   (refine' Ab 1 rfl ?_;(try simp only[Act.put,nY,nX]));(refine' Ab 2 rfl ?_;(try simp only[Act.put,nY,nX]));(refine' Ab 3 rfl ?_;(try simp only[Act.put,nY,nX]));(refine' Ab 4 rfl ?_;(try simp only[Act.put,nY,nX]));(refine' Ab 5 rfl ?_;(try simp only[Act.put,nY,nX]));(refine' Ab 6 rfl ?_;(try simp only[Act.put,nY,nX]));(refine' Ab 7 rfl ?_;(try simp only[Act.put,nY,nX]));(refine' Ab 8 rfl ?_;(try simp only[Act.put,nY,nX]));(refine' Ab 9 rfl ?_;(try simp only[Act.put,nY,nX]));(refine' Ab 10 rfl ?_;(try simp only[Act.put,nY,nX]));(refine' Ab 11 rfl ?_;(try simp only[Act.put,nY,nX]));(refine' Ab 12 rfl ?_;(try simp only[Act.put,nY,nX]));(refine' Ab 13 rfl ?_;(try simp only[Act.put,nY,nX]));(refine' Ab 14 rfl ?_;(try simp only[Act.put,nY,nX]));(refine' Ab 15 rfl ?_;(try simp only[Act.put,nY,nX]));(refine' Ab 16 rfl ?_;(try simp only[Act.put,nY,nX]));(refine' Ab 17 rfl ?_;(try simp only[Act.put,nY,nX]));(refine' Ab 18 rfl ?_;(try simp only[Act.put,nY,nX]));(refine' Ab 19 rfl ?_;(try simp only[Act.put,nY,nX]));(refine' Ab 20 rfl ?_;(try simp only[Act.put,nY,nX]));(refine' Ab 21 rfl ?_;(try simp only[Act.put,nY,nX]));(refine' Ab 22 rfl ?_;(try simp only[Act.put,nY,nX]));(refine' Ab 23 rfl ?_;(try simp only[Act.put,nY,nX]));(refine' Ab 24 rfl ?_;(try simp only[Act.put,nY,nX]));(refine' Ab 25 rfl ?_;(try simp only[Act.put,nY,nX]))
   (refine' Ab 26 rfl ?_;(try simp only[Act.put,nY,nX]))
   clear hHeld
   (refine Am8 27 rfl (fun K' hK'=> ?_);simp only[nY];go_simp)
   have b0:Below wr.heap.size wr wr.drew:=(Below.refl _ _).drew;have a6:Below wr.heap.size wr (wr.drew.alloc (.cells #[.int .i64 law, .slice Aw nw cw, .int .i64 T, .int .i64 S, .int .i64 fin] 85)):=b0.alloc b0.size _;have hz:∀(u:Nat) v,[Value.int .i64 law, .slice Aw nw cw, .int .i64 T, .int .i64 S, .int .i64 fin][u]? =some v->(wr.drew.alloc (.cells #[.int .i64 law, .slice Aw nw cw, .int .i64 T, .int .i64 S, .int .i64 fin] 85)).cell? ⟨wr.drew.heap.size,u,none⟩=some v:=fun u v hv=>Ch (by simpa using hv)
   have a8:=Bc HO.out fun q e=>a6.block q (HO.out.lt q e).2
   have a2:=HB.out.trans (a6.mono HB.out.size);have a5:=a2.size;refine hK' _ _ ⟨.inr (a4.out _ a2),fun _=> ?_⟩
   clear hK' K'
   (try simp only[Act.put,nY,nX])
   refine Am8 28 rfl (fun K' hK'=> ?_);rw[if_pos (by rfl)]
   refine B6 (.tmp 11) (.tmp 38) 73 rfl w.heap.size 85 (.agg #[.int .i64 0, .slice none 0 0, .int .i64 0, .int .i64 0, .int .i64 0]) 5 56 Tryz.underlying73 Yo rfl (by decide) (.slice A3 k c3) k ((ys.take k).flatMap Bu.cells) (by rfl) a8 ⟨wr.drew.heap.size,0,none⟩ 1 1 [.int .i64 law, .slice Aw nw cw, .int .i64 T, .int .i64 S, .int .i64 fin] (by rfl) rfl
    (fun u v hv=>by rw[He,Nat.zero_add];exact hz u v hv) (by intro u hu;simp at hu;rcases hu with rfl|rfl|rfl|rfl|rfl<;>rfl) (by unfold maxLen;omega) (by omega) a5 ?_
   intro v' X2 a1 b3 _ _;have a9:Below w.heap.size w X2:=a2.grown b3 a5 fun q e=>(a8.lt q e).1
   have b1:=hI a9;have b2:Hid (X2.ownsRow w.heap.size 85 5 v' (k+1) ((ys.take (k+1)).flatMap Bu.cells)):=by show World.ownsRow _ _ _ _ _ _ _;rw[b4.out];exact a1
   refine hK' _ _ ⟨.inr (a4.out _ a9),fun _=> ?_⟩
   clear hK' K' a6 b0 hz a8 a2 a5 a1 b3 a9 HO HB
   (try simp only[Act.put,nY,nX])
   (refine Am8 29 rfl (fun K' hK'=> ?_);simp only[nY];go_simp)
   refine hK' _ _ ⟨.inl (by kernel_rfl),fun _=>Ba (by kernel_rfl) ?_ _⟩
   clear hK' K';go_wp2_with fail
   go_roundw
   case rel=>first|exact⟨k+1,by omega,by go_num,b2.out,b1.out⟩|((repeat apply Exists.intro);exact⟨⟨k+1,by omega,by go_num,b2.out,b1.out⟩,rfl⟩)
   case measure=>simp[intOf];omega
  ·obtain rfl:k=m:=by omega
   have h1:=HO.out;rw[List.take_of_length_le (by rw[HL.out];exact rr)]at h1;obtain⟨A3,c3,a3⟩:=Bh h1;subst a3;have a7:Hid (Bv wr A3 k c3 ys):=⟨Cr.of_own h1 Bu.len (by decide),fun y hy=>(HY.out.2 y hy).below HB.out⟩
   clear h1 HO;go_wp2;go_ret;exact⟨A3,c3,rfl,a7.out,HB.out⟩
structure StR (w:World)(x:EdR)(v u:Value)(bx:Nat)(W:World):Prop where
 e:Qr W x
 t:Cd W
 m:Tm W v (Jh x) (x.roads.map Be)
 r:Gc W u (Jh x) (x.roads.map Be)
 k:W.heap[bx]? =some (.cells #[.slice x.An x.nn x.cn, .slice x.Ar x.nr x.cr, .slice x.Al x.nl x.cl, .slice x.Av x.nv x.cv, .slice x.Aw x.nw x.cw, .int .i64 x.a, .int .i64 x.i, .int .i64 x.j, .int .i64 x.now] 66 (0,0))
 bl:Below w.heap.size w W
section
variable {w W W':World}{x:EdR}{v u:Value}{bx:Nat}
theorem StR.step (h:StR w x v u bx W)(hb:Below W.heap.size W W'):StR w x v u bx W':=
 ⟨h.e.below hb,h.t.below hb rr,h.m.below hb,h.r.below hb,(hb.block bx (lt_of_block h.k)).trans h.k,h.bl.trans (hb.mono h.bl.size)⟩
theorem StR.c2 (h:StR w x v u bx W):W.cell? ⟨bx,2,none⟩=some (.slice x.Al x.nl x.cl):=Ad h.k rfl
theorem StR.c3 (h:StR w x v u bx W):W.cell? ⟨bx,3,none⟩=some (.slice x.Av x.nv x.cv):=Ad h.k rfl
theorem StR.c4 (h:StR w x v u bx W):W.cell? ⟨bx,4,none⟩=some (.slice x.Aw x.nw x.cw):=Ad h.k rfl
theorem StR.c5 (h:StR w x v u bx W):W.cell? ⟨bx,5,none⟩=some (.int .i64 x.a):=Ad h.k rfl
theorem StR.c6 (h:StR w x v u bx W):W.cell? ⟨bx,6,none⟩=some (.int .i64 x.i):=Ad h.k rfl
theorem StR.c7 (h:StR w x v u bx W):W.cell? ⟨bx,7,none⟩=some (.int .i64 x.j):=Ad h.k rfl
theorem StR.c8 (h:StR w x v u bx W):W.cell? ⟨bx,8,none⟩=some (.int .i64 x.now):=Ad h.k rfl
end
theorem Kf (v:Value)(n:Nat)(rs:List Bb)(Ax:Option Addr)(nx cx:Nat)(xs:List Bj)(A:Option Addr)(m c:Nat)(ys:List Bu)(w:World)(hm:Gc w v n rs)(hx:Br w Ax nx cx xs)(hu:St xs)(hy:Bv w A m c ys):
  Calls Tryz.prog 38 #[v, .slice Ax nx cx, .slice A m c] w fun e w'=>e= .returned (.int .i64 (Ck n (Ah xs) (Ae ys)))/\Below w.heap.size w w':=by
 have d5:=hy.max;have d6:=hx.max;have HM:=hI hm;have HX:=hI hx;have HY:=hI hy;have HU:=hI hu;have b9:Hid ((Ah xs).length=nx):=by show _=_;rw[Ah,List.length_map];exact hx.len
 have b8:Hid ((Ae ys).length=m):=by show _=_;rw[Ae,List.length_map];exact hy.len
 clear hm hx hy hu;go_enter Tryz.func38,Tryz.ntmps38;go_wp2_with fail;refine(Hn v n rs w HM.out).mono ?_;rintro e w1 ⟨rfl,b6⟩;have a3:=hI b6;clear b6;by_cases hn0:n=0
 ·have HV:Hid (Ck n (Ah xs) (Ae ys)=1):=by show _=_;unfold Ck;rw[if_pos hn0]
  have hz:(n:Int)=0:=by omega
  go_wp2;go_ret;exact⟨by rw[HV.out];rfl,a3.out⟩
 ·have hz:((n:Int)==0)=false:=by simpa using hn0
  have HV:Hid (Ck n (Ah xs) (Ae ys)=if Dg (Ah xs)≠0 then Dg (Ah xs)else if 64<(Ae ys).length then 12 else Ej n (Ah xs).length (Ae ys)):=by show _=_;unfold Ck;rw[if_neg hn0]
  go_wp2_with fail;refine(Abl Ax nx cx xs w1 (HX.out.below a3.out rr) HU.out).mono ?_;obtain⟨er,b0⟩:∃er,er=Dg (Ah xs):=⟨_,rfl⟩;rw[←b0];rintro e w2 ⟨rfl,b5⟩;have a9:=hI (a3.out.trans (b5.mono a3.out.size));have a5:=hI b0;clear b5 a3 b0;by_cases he0:er=0
  ·have d1:(er !=0)=false:=by simp[he0]
   have a2:Hid (Ck n (Ah xs) (Ae ys)=if 64<m then 12 else Ej n nx (Ae ys)):=by
    show _=_;rw[HV.out,if_neg (by rw[←a5.out];simpa using he0),b9.out,b8.out]
   clear HV a5 he0;by_cases hm64:64<m
   ·have a1:(64:Int)<(m:Int):=by omega
    go_wp2;go_ret;exact⟨by rw[a2.out,if_pos hm64];rfl,a9.out⟩
   ·have a1:¬(64:Int)<(m:Int):=by omega
    have a6:Hid (Ck n (Ah xs) (Ae ys)=Ej n nx (Ae ys)):=by show _=_;rw[a2.out,if_neg hm64]
    clear a2;go_wp2_with fail
    go_loopw [7,8] (fun _ i wr=>∃k:Nat,k<=m/\i= .int .i64 (k:Int)/\Hid (Ej n nx (Ae ys)=Ej n nx ((Ae ys).drop k))/\Hid (Below w.heap.size w wr)) (fun _ i _=>m-(intOf i).toNat)
    case atStart=>exact⟨0,Nat.zero_le _,rfl,rfl,a9.out⟩
    case round=>
     obtain⟨k,hk,rfl,HE,HB⟩:=hrel;clear a9;by_cases hlt:k<m
     ·have d3:(k:Int)<(m:Int):=by omega
      obtain⟨x,hx⟩:=(HY.out.below HB.out).get hlt;obtain⟨yb,yo,hA,d4,b4,k0,k1,k2,k3,k4⟩:=(HY.out.below HB.out).at_ hx;subst hA;have b2:(Ae ys)[k]? =some x.d:=by rw[Ae,List.getElem?_map,hx];rfl
      have HS:Hid (Ej n nx ((Ae ys).drop k)=if x.d.law<0\/(nx:Int)<=x.d.law then 3 else if Di n x.d≠0 then Di n x.d else Ej n nx ((Ae ys).drop (k+1))):=by
       show _=_;rw[Pw b2];rfl
      have b3:=hI b4;clear hx b2 b4;obtain⟨⟨law,ps,T,S,fin⟩,Aw,nw,cw⟩:=x;simp only at k0 k1 k2 k3 k4;have d2:=b3.out.u.law;simp only at d2;by_cases hl0:law<0
      ·go_wp2;go_ret;exact⟨by rw[a6.out,HE.out,HS.out,if_pos (.inl hl0)];rfl,HB.out⟩
      ·by_cases hln:(nx:Int)<=law
       ·go_wp2;go_ret;exact⟨by rw[a6.out,HE.out,HS.out,if_pos (.inr hln)];rfl,HB.out⟩
       ·have a7:Hid (Ej n nx ((Ae ys).drop k)=if Di n ⟨law,ps,T,S,fin⟩≠0 then Di n ⟨law,ps,T,S,fin⟩else Ej n nx ((Ae ys).drop (k+1))):=by
         show _=_
         have:=HS.out
         rw[if_neg (by show¬(law<0\/(nx:Int)<=law);omega)]at this;exact this
        clear HS;go_wp2_with fail;refine(Zh v n rs ⟨⟨law,ps,T,S,fin⟩,Aw,nw,cw⟩ _ (HM.out.below HB.out) b3.out).mono ?_;obtain⟨e1,a0⟩:∃e1,e1=Di n ⟨law,ps,T,S,fin⟩:=⟨_,rfl⟩;rw[←a0];rintro e w3 ⟨rfl,b7⟩;have b1:=hI (HB.out.trans (b7.mono HB.out.size));have a4:=hI a0;clear b7 HB a0 k0 k1 k2 k3 k4;by_cases h10:e1=0
        ·have d0:(e1 !=0)=false:=by simp[h10]
         have a8:Hid (Ej n nx ((Ae ys).drop k)=Ej n nx ((Ae ys).drop (k+1))):=by
          show _=_;rw[a7.out,if_neg (by rw[←a4.out];simpa using h10)]
         clear a7 a4 h10;go_wp2_with fail
         go_roundw
         case rel=>first|exact⟨k+1,by omega,by go_num,by show _=_;rw[HE.out,a8.out],b1.out⟩|((repeat apply Exists.intro);exact⟨⟨k+1,by omega,by go_num,by show _=_;rw[HE.out,a8.out],b1.out⟩,rfl⟩)
         case measure=>simp[intOf];omega
        ·have d0:(e1 !=0)=true:=by simpa using h10
         have a8:Hid (Ej n nx ((Ae ys).drop k)=e1):=by
          show _=_;rw[a7.out,if_pos (by rw[←a4.out];exact h10),a4.out]
         clear a7 a4 h10;go_wp2;go_ret;exact⟨by rw[a6.out,HE.out,a8.out];rfl,b1.out⟩
     ·obtain rfl:k=m:=by omega
      go_wp2;go_ret;exact⟨by rw[a6.out,HE.out,List.drop_eq_nil_of_le (by rw[b8.out];exact rr)];rfl,HB.out⟩
  ·have d1:(er !=0)=true:=by simpa using he0
   have a2:Hid (Ck n (Ah xs) (Ae ys)=er):=by
    show _=_;rw[HV.out,if_pos (by rw[←a5.out];exact he0),a5.out]
   clear HV a5 he0;go_wp2;go_ret;exact⟨by rw[a2.out];rfl,a9.out⟩
theorem C6.at {w w':World}{r:Int×List Int}{l:List Int}{A:Option Addr}{k c:Nat}(hr:r=(0,l))(hi:Bn w' A k c l)(hb:Below w.heap.size w w'):C6 w r (.returned (.tuple #[.slice A k c, .int .i64 0])) w':=by
 subst hr;exact⟨A,k,c,rfl,hi,hb⟩
theorem Aef (v:Value)(n:Nat)(rs:List Bb)(Ax:Option Addr)(nx cx:Nat)(xs:List Bj)(A:Option Addr)(m c:Nat)(ys:List Bu)(aa now:Int)(w:World)(hm:Gc w v n rs)(hx:Br w Ax nx cx xs)(hu:St xs)(hy:Bv w A m c ys)(h19:m<=19\/64<m):
  Calls Tryz.prog 30 #[v, .slice Ax nx cx, .slice A m c, .int .i64 aa, .int .i64 now] w (C6 w (Fm n rs (Ah xs) (Ae ys) aa now)):=by
 have HM:=hI hm;have HX:=hI hx;have HY:=hI hy;have HU:=hI hu;have d0:Hid ((Ae ys).length=m):=by show _=_;rw[Ae,List.length_map];exact hy.len
 have b7:=hI h19;clear hm hx hy hu h19;go_enter Tryz.func30,Tryz.ntmps30;go_wp2_with fail;refine(Kf v n rs Ax nx cx xs A m c ys w HM.out HX.out HU.out HY.out).mono ?_;obtain⟨er,a5⟩:∃er,er=Ck n (Ah xs) (Ae ys):=⟨_,rfl⟩;rw[←a5];rintro e w1 ⟨rfl,b2⟩;have a0:=hI b2;have a4:=hI a5;clear b2 a5;by_cases he0:er=0
 case neg=>
  have b9:(er==0)=false:=by simpa using he0
  have d1:(er !=0)=true:=by simpa using he0
  have HV:Hid (Fm n rs (Ah xs) (Ae ys) aa now=(er,[])):=by show _=_;unfold Fm;rw[if_pos (by rw[←a4.out];exact he0),a4.out]
  clear he0;go_wp2
  go_ret2
  exact C6.bad HV.out a0.out
 have b9:(er==0)=true:=by simp[he0]
 have a3:Hid (Ck n (Ah xs) (Ae ys)=0):=by show _=_;rw[←a4.out,he0]
 have b1:n≠0:=by have:=(Dj a3.out).1;omega
 have a6:Hid (∀y∈ys,Di n y.d=0):=fun y hy=>((Dj a3.out).2.2.2 y.d (List.mem_map.2 ⟨y,hy,rfl⟩)).2.2
 obtain⟨b,rfl,a8⟩:=HM.out.at_ b1;have b4:=hI a8;clear a4 a8 b1;subst he0;have a7:m<=19:=by have:=(Dj a3.out).2.2.1;rw[d0.out]at this;have:=b7.out;omega
 have HV:Hid (Fm n rs (Ah xs) (Ae ys) aa now=if aa<0\/(n:Int)<=aa then(3,[])else(0,Et n rs (Ae ys) aa.toNat now)):=by show _=_;unfold Fm;rw[if_neg (by rw[a3.out];simp)]
 by_cases ha0:aa<0
 ·go_wp2
  go_ret2
  exact C6.bad (by rw[HV.out,if_pos (.inl ha0)]) a0.out
 ·obtain⟨a,rfl⟩:∃a:Nat,aa=a:=⟨aa.toNat,by omega⟩;go_wp2_with fail;refine(Hn _ n rs w1 (HM.out.below a0.out)).mono ?_;rintro e w2 ⟨rfl,a9⟩;have a1:=hI (a0.out.trans (a9.mono a0.out.size));clear a9 a0;by_cases han:a<n
  ·have a2:¬(n:Int)<=(a:Int):=by omega
   have b6:Hid (Fm n rs (Ah xs) (Ae ys) a now=(0,Et n rs (Ae ys) a now)):=by show _=_;rw[HV.out,if_neg (by omega)];rfl
   clear HV;go_wp2_with fail;refine(Aee b n rs A m c ys a now w2 (b4.out.below a1.out) (HY.out.below a1.out) a6.out han a7).mono ?_;rintro e w3 ⟨A3,k3,c3,rfl,b0,b3⟩;have b8:=hI b0;have b5:=hI (a1.out.trans (b3.mono a1.out.size));clear b0 b3 a1;go_wp2
   go_ret2
   exact C6.at b6.out b8.out b5.out
  ·have a2:(n:Int)<=(a:Int):=by omega
   go_wp2
   go_ret2
   exact C6.bad (by rw[HV.out,if_pos (.inr a2)]) a1.out
theorem Qi (v:Value)(n:Nat)(rs:List Bb)(Ax:Option Addr)(nx cx:Nat)(xs:List Bj)(A:Option Addr)(m c:Nat)(ys:List Bu)(kk:Int)(w:World)(hm:Gc w v n rs)(hx:Br w Ax nx cx xs)(hu:St xs)(hy:Bv w A m c ys):
  Calls Tryz.prog 42 #[v, .slice Ax nx cx, .slice A m c, .int .i64 kk] w (C6 w (Dv n rs (Ah xs) (Ae ys) kk)):=by
 have g9:=hy.max;have d6:=hm.few;have HM:=hI hm;have HX:=hI hx;have HY:=hI hy;have HU:=hI hu;have g7:Hid ((Ae ys).length=m):=by show _=_;rw[Ae,List.length_map];exact hy.len
 clear hm hx hy hu;go_enter Tryz.func42,Tryz.ntmps42;go_wp2_with fail;refine(Kf v n rs Ax nx cx xs A m c ys w HM.out HX.out HU.out HY.out).mono ?_;obtain⟨er,a9⟩:∃er,er=Ck n (Ah xs) (Ae ys):=⟨_,rfl⟩;rw[←a9];rintro e w1 ⟨rfl,f0⟩;have a0:=hI f0;have a7:=hI a9;clear f0 a9;by_cases he0:er=0
 case neg=>
  have g4:(er==0)=false:=by simpa using he0
  have i0:(er !=0)=true:=by simpa using he0
  have HV:Hid (Dv n rs (Ah xs) (Ae ys) kk=(er,[])):=by show _=_;unfold Dv;rw[if_pos (by rw[←a7.out];exact he0),a7.out]
  clear he0;go_wp2
  go_ret2
  exact C6.bad HV.out a0.out
 have g4:(er==0)=true:=by simp[he0]
 have b0:Hid (Ck n (Ah xs) (Ae ys)=0):=by show _=_;rw[←a7.out,he0]
 have d9:n≠0:=by have:=(Dj b0.out).1;omega
 have b3:Hid (∀y∈ys,Di n y.d=0):=fun y hy=>((Dj b0.out).2.2.2 y.d (List.mem_map.2 ⟨y,hy,rfl⟩)).2.2
 obtain⟨b,rfl,d4⟩:=HM.out.at_ d9;have f2:=hI d4;clear a7 d4 d9;subst he0;have HV:Hid (Dv n rs (Ah xs) (Ae ys) kk=if kk<0\/(m:Int)<=kk then(3,[])else(0,((List.range n).filter fun a=>(tAt n rs (Ae ys) a kk.toNat).isNone).map fun(a:Nat)=>(a:Int))):=by show _=_;unfold Dv;rw[if_neg (by rw[b0.out];simp),g7.out]
 by_cases hk0:kk<0
 ·go_wp2
  go_ret2
  exact C6.bad (by rw[HV.out,if_pos (.inl hk0)]) a0.out
 by_cases hkm:(m:Int)<=kk
 ·go_wp2
  go_ret2
  exact C6.bad (by rw[HV.out,if_pos (.inr hkm)]) a0.out
 obtain⟨q,rfl⟩:∃q:Nat,kk=q:=⟨kk.toNat,by omega⟩;have g5:q<m:=by omega
 have d1:decide (m<=q)=false:=decide_eq_false (by omega);have d2:decide ((q:Int)<0)=false:=decide_eq_false (by omega);have d3:¬m<=q:=by omega
 have d0:Hid (Dv n rs (Ah xs) (Ae ys) q=(0,((List.range n).filter fun a=>(tAt n rs (Ae ys) a q).isNone).map fun(a:Nat)=>(a:Int))):=by show _=_;rw[HV.out,if_neg (by omega)];rfl
 clear HV;obtain⟨P,hP⟩:∃P:Nat->Bool,P=(fun a=>(tAt n rs (Ae ys) a q).isNone):=⟨_,rfl⟩;have g6:=hI hP;have f6:Hid (Dv n rs (Ah xs) (Ae ys) q=(0,Kn P n)):=by show _=_;rw[d0.out,hP];rfl
 obtain⟨B,hB⟩:∃B,B=w1.heap.size:=⟨_,rfl⟩;have g3:w1.heap.size<=B:=by omega
 have b8:Hid (Ct w1 B (.slice none 0 0) []):=Ct.nil (by omega)
 have a8:Hid (∀k,Kn P (k+1)=Kn P k++(if P k=true then [(k:Int)]else [])):=fun k=>by
  unfold Kn;rw[List.range_succ,List.filter_append,List.map_append];congr 1;by_cases h:P k=true
  ·rw[if_pos h,List.filter_cons_of_pos h];rfl
  ·rw[if_neg h,List.filter_cons_of_neg h];rfl
 have g2:Hid (∀k,(Kn P k).length<=k):=fun k=>by rw[Adc];exact Aiq
 clear hB hP d0;obtain⟨x,hx⟩:=HY.out.get g5;have f1:=b3.out x (List.mem_of_getElem? hx);have f4:Hid (∀a,tAt n rs (Ae ys) a q=De n rs x.d a):=fun a=>Sx hx
 have f9:=hI f1;have f8:Hid (∀W,Below w.heap.size w W→∃yb yo,A=some ⟨yb,yo,none⟩/\yb<W.heap.size/\Fw W x/\W.cell? ⟨yb,yo+q*5,none⟩=some (.int .i64 x.d.law)/\W.cell? ⟨yb,yo+q*5+1,none⟩=some (.slice x.A x.n x.c)/\W.cell? ⟨yb,yo+q*5+2,none⟩=some (.int .i64 x.d.time)/\W.cell? ⟨yb,yo+q*5+3,none⟩=some (.int .i64 x.d.slow)/\W.cell? ⟨yb,yo+q*5+4,none⟩=some (.int .i64 x.d.fin)):=fun W hb=>(HY.out.below hb).at_ hx
 clear hx f1;obtain⟨⟨law,ps,T,S,fin⟩,Ay,ny,cy⟩:=x;go_wp2_with fail
 go_loopw [11,12] (fun s11 s12 wr=>∃k:Nat,k<=n/\s12= .int .i64 (k:Int)/\Hid (Ct wr B s11 (Kn P k))/\Hid (Below w1.heap.size w1 wr)) (fun _ s12 _=>n-(intOf s12).toNat)
 case atStart=>exact⟨0,Nat.zero_le _,rfl,b8.out,Below.refl _ _⟩
 case round=>
  obtain⟨k,hk,rfl,HN,HB⟩:=hrel;clear b8;have d7:=hI (a0.out.trans (HB.out.mono a0.out.size));go_wp2_with fail;refine(Hn _ n rs wr (HM.out.below d7.out)).mono ?_;rintro e w3 ⟨rfl,b6⟩;have b2:=hI (HN.out.below b6);have a3:=hI (HB.out.trans (b6.mono HB.out.size));have a1:=hI (a0.out.trans (a3.out.mono a0.out.size));clear b6 HN HB d7;by_cases hlt:k<n
  ·have g8:(k:Int)<(n:Int):=by omega
   obtain⟨yb,yo,hA,g0,b7,k0,k1,k2,k3,k4⟩:=f8.out w3 a1.out
   (try simp only at k0 k1 k2 k3 k4)
   subst hA;go_wp2_with fail;refine(Ff b n rs ⟨⟨law,ps,T,S,fin⟩,Ay,ny,cy⟩ k w3 (f2.out.below a1.out) b7 f9.out hlt).mono ?_;obtain⟨t,ht⟩:∃t,t=De n rs ⟨law,ps,T,S,fin⟩ k:=⟨_,rfl⟩;have b1:Hid (P k=t.isNone):=by show _=_;rw[g6.out];show(tAt n rs (Ae ys) k q).isNone=_;rw[f4.out,ht]
   rw[←ht];rintro e w4 ⟨rfl,b5⟩;have a4:=hI (b2.out.below b5);have a6:=hI (a3.out.trans (b5.mono a3.out.size));clear b5 b2 a3 a1 ht b7 k0 k1 k2 k3 k4 g0
   cases t with
   |some t=>
    simp only[Bf];have i1:¬(t:Int)<0:=by omega
    go_wp2_with fail
    go_roundw
    case rel=>first|exact⟨k+1,by omega,by go_num,by show Ct _ _ _ _;rw[a8.out,if_neg (by rw[b1.out];simp),List.append_nil];exact a4.out,a6.out⟩|((repeat apply Exists.intro);exact⟨⟨k+1,by omega,by go_num,by show Ct _ _ _ _;rw[a8.out,if_neg (by rw[b1.out];simp),List.append_nil];exact a4.out,a6.out⟩,rfl⟩)
    case measure=>simp[intOf];omega
   |none=>
    simp only[Bf];obtain⟨A8,c8,g1⟩:=(a4.out).form;subst g1;obtain⟨L,hL⟩:∃L,L=Kn P k:=⟨_,rfl⟩;have f3:L.length+1<=4096:=by have:=g2.out k;rw[hL];omega
    have f7:=hI hL;have b4:Ct (w4.alloc (.cells #[.int .i64 (k:Int)] 3)) B (.slice A8 L.length c8) L:=by rw[hL];exact(a4.out).below ((Below.refl _ w4).alloc rr (.cells #[.int .i64 (k:Int)] 3))
    have a5:=hI b4;have f5:=b4.2;have d8:Hid (Below w1.heap.size w1 (w4.alloc (.cells #[.int .i64 (k:Int)] 3))):=(a6.out).alloc (a6.out).size _;rw[←hL];clear b4 hL;go_wp2_with(at_builtin;refine Fs rfl (.tmp 46) (.tmp 48) rfl B (.slice A8 L.length c8) L.length (L.map (Value.int .i64)) rfl a5.out.1 ⟨w4.heap.size,0,none⟩ 1 (.int .i64 (k:Int)) rfl (cell_one_new _ _ _) rfl f3 f5 ?hc)
    case hc=>
     intro v' w9 a2 hg _;have d5:Hid (Ct w9 B v' (Kn P (k+1))):=by show Ct _ _ _ _;rw[a8.out,if_pos (by rw[b1.out];rfl),←f7.out];exact a5.out.push a2 hg
     have b9:=hI (a5.out.grow d8.out g3 hg);clear a2 hg a5 d8;go_wp2_with fail
     go_roundw
     case rel=>first|exact⟨k+1,by omega,by go_num,d5.out,b9.out⟩|((repeat apply Exists.intro);exact⟨⟨k+1,by omega,by go_num,d5.out,b9.out⟩,rfl⟩)
     case measure=>simp[intOf];omega
  ·obtain rfl:k=n:=by omega
   go_wp2
   go_ret2
   exact C6.own f6.out b2.out.1 (a0.out.trans (a3.out.mono a0.out.size))
theorem Ww (v:Value)(n:Nat)(rs:List Bb)(Ax:Option Addr)(nx cx:Nat)(xs:List Bj)(A:Option Addr)(m c:Nat)(ys:List Bu)(ki kj:Int)(w:World)(hm:Gc w v n rs)(hx:Br w Ax nx cx xs)(hu:St xs)(hy:Bv w A m c ys):
  Calls Tryz.prog 34 #[v, .slice Ax nx cx, .slice A m c, .int .i64 ki, .int .i64 kj] w (C6 w (Cz n rs (Ah xs) (Ae ys) ki kj)):=by
 have i7:=hy.max;have f4:=hm.few;have HM:=hI hm;have HX:=hI hx;have HY:=hI hy;have HU:=hI hu;have i5:Hid ((Ae ys).length=m):=by show _=_;rw[Ae,List.length_map];exact hy.len
 clear hm hx hy hu;go_enter Tryz.func34,Tryz.ntmps34;go_wp2_with fail;refine(Kf v n rs Ax nx cx xs A m c ys w HM.out HX.out HU.out HY.out).mono ?_;obtain⟨er,b4⟩:∃er,er=Ck n (Ah xs) (Ae ys):=⟨_,rfl⟩;rw[←b4];rintro e w1 ⟨rfl,f9⟩;have a0:=hI f9;have b3:=hI b4;clear f9 b4;by_cases he0:er=0
 case neg=>
  have i2:(er==0)=false:=by simpa using he0
  have i8:(er !=0)=true:=by simpa using he0
  have HV:Hid (Cz n rs (Ah xs) (Ae ys) ki kj=(er,[])):=by show _=_;unfold Cz;rw[if_pos (by rw[←b3.out];exact he0),b3.out]
  clear he0;go_wp2
  go_ret2
  exact C6.bad HV.out a0.out
 have i2:(er==0)=true:=by simp[he0]
 have b5:Hid (Ck n (Ah xs) (Ae ys)=0):=by show _=_;rw[←b3.out,he0]
 have f8:n≠0:=by have:=(Dj b5.out).1;omega
 have a8:Hid (∀y∈ys,Di n y.d=0):=fun y hy=>((Dj b5.out).2.2.2 y.d (List.mem_map.2 ⟨y,hy,rfl⟩)).2.2
 obtain⟨b,rfl,f2⟩:=HM.out.at_ f8;have d7:=hI f2;clear b3 f2 f8;subst he0;have HV:Hid (Cz n rs (Ah xs) (Ae ys) ki kj=if min ki kj<0\/(m:Int)<=max ki kj then(3,[])else(0,((List.range n).filter (Ms n rs (Ae ys) ki.toNat kj.toNat)).map fun(a:Nat)=>(a:Int))):=by show _=_;unfold Cz;rw[if_neg (by rw[b5.out];simp),i5.out]
 by_cases hk0:ki<0
 ·go_wp2
  go_ret2
  exact C6.bad (by rw[HV.out,if_pos (.inl (by omega))]) a0.out
 by_cases hkm:(m:Int)<=ki
 ·go_wp2
  go_ret2
  exact C6.bad (by rw[HV.out,if_pos (.inr (by omega))]) a0.out
 by_cases hk1:kj<0
 ·go_wp2
  go_ret2
  exact C6.bad (by rw[HV.out,if_pos (.inl (by omega))]) a0.out
 by_cases hkm1:(m:Int)<=kj
 ·go_wp2
  go_ret2
  exact C6.bad (by rw[HV.out,if_pos (.inr (by omega))]) a0.out
 obtain⟨q,rfl⟩:∃q:Nat,ki=q:=⟨ki.toNat,by omega⟩;obtain⟨r,rfl⟩:∃r:Nat,kj=r:=⟨kj.toNat,by omega⟩;have f7:q<m:=by omega
 have i4:r<m:=by omega
 have d1:decide (m<=q)=false:=decide_eq_false (by omega);have d2:decide ((q:Int)<0)=false:=decide_eq_false (by omega);have d3:¬m<=q:=by omega
 have d4:decide (m<=r)=false:=decide_eq_false (by omega);have d5:decide ((r:Int)<0)=false:=decide_eq_false (by omega);have d6:¬m<=r:=by omega
 have f1:Hid (Cz n rs (Ah xs) (Ae ys) q r=(0,((List.range n).filter (Ms n rs (Ae ys) q r)).map fun(a:Nat)=>(a:Int))):=by show _=_;rw[HV.out,if_neg (by omega)];rfl
 clear HV;obtain⟨P,hP⟩:∃P:Nat->Bool,P=Ms n rs (Ae ys) q r:=⟨_,rfl⟩;have i3:=hI hP;have g4:Hid (Cz n rs (Ah xs) (Ae ys) q r=(0,Kn P n)):=by show _=_;rw[f1.out,hP];rfl
 obtain⟨B,hB⟩:∃B,B=w1.heap.size:=⟨_,rfl⟩;have i1:w1.heap.size<=B:=by omega
 have d9:Hid (Ct w1 B (.slice none 0 0) []):=Ct.nil (by omega)
 have a6:Hid (∀k,Kn P (k+1)=Kn P k++(if P k=true then [(k:Int)]else [])):=fun k=>by
  unfold Kn;rw[List.range_succ,List.filter_append,List.map_append];congr 1;by_cases h:P k=true
  ·rw[if_pos h,List.filter_cons_of_pos h];rfl
  ·rw[if_neg h,List.filter_cons_of_neg h];rfl
 have i0:Hid (∀k,(Kn P k).length<=k):=fun k=>by rw[Adc];exact Aiq
 clear hB hP f1;obtain⟨x,hx⟩:=HY.out.get f7;have g0:=a8.out x (List.mem_of_getElem? hx);have g2:Hid (∀a,tAt n rs (Ae ys) a q=De n rs x.d a):=fun a=>Sx hx
 have g7:=hI g0;have g6:Hid (∀W,Below w.heap.size w W→∃yb yo,A=some ⟨yb,yo,none⟩/\yb<W.heap.size/\Fw W x/\W.cell? ⟨yb,yo+q*5,none⟩=some (.int .i64 x.d.law)/\W.cell? ⟨yb,yo+q*5+1,none⟩=some (.slice x.A x.n x.c)/\W.cell? ⟨yb,yo+q*5+2,none⟩=some (.int .i64 x.d.time)/\W.cell? ⟨yb,yo+q*5+3,none⟩=some (.int .i64 x.d.slow)/\W.cell? ⟨yb,yo+q*5+4,none⟩=some (.int .i64 x.d.fin)):=fun W hb=>(HY.out.below hb).at_ hx
 clear hx g0;obtain⟨⟨law,ps,T,S,fin⟩,Ay,ny,cy⟩:=x;go_wp2_with fail
 go_loopw [13,14] (fun s11 s12 wr=>∃k:Nat,k<=n/\s12= .int .i64 (k:Int)/\Hid (Ct wr B s11 (Kn P k))/\Hid (Below w1.heap.size w1 wr)) (fun _ s12 _=>n-(intOf s12).toNat)
 case atStart=>exact⟨0,Nat.zero_le _,rfl,d9.out,Below.refl _ _⟩
 case round=>
  obtain⟨k,hk,rfl,HN,HB⟩:=hrel;clear d9;have f5:=hI (a0.out.trans (HB.out.mono a0.out.size));go_wp2_with fail;refine(Hn _ n rs wr (HM.out.below f5.out)).mono ?_;rintro e w3 ⟨rfl,d0⟩;have b7:=hI (HN.out.below d0);have a7:=hI (HB.out.trans (d0.mono HB.out.size));have a1:=hI (a0.out.trans (a7.out.mono a0.out.size));clear d0 HN HB f5;by_cases hlt:k<n
  ·have i6:(k:Int)<(n:Int):=by omega
   obtain⟨yb,yo,hA,g8,d8,k0,k1,k2,k3,k4⟩:=g6.out w3 a1.out
   (try simp only at k0 k1 k2 k3 k4)
   subst hA;go_wp2_with fail;refine(Ff b n rs ⟨⟨law,ps,T,S,fin⟩,Ay,ny,cy⟩ k w3 (d7.out.below a1.out) d8 g7.out hlt).mono ?_;obtain⟨t,ht⟩:∃t,t=De n rs ⟨law,ps,T,S,fin⟩ k:=⟨_,rfl⟩;have a3:Hid (P k=(t.isSome && Cf (tAt n rs (Ae ys) k) q r)):=by show _=_;rw[i3.out];unfold Ms;rw[g2.out,ht]
   rw[←ht];rintro e w4 ⟨rfl,b9⟩;have a9:=hI (b7.out.below b9);have a4:=hI (a7.out.trans (b9.mono a7.out.size));have a2:=hI (a0.out.trans (a4.out.mono a0.out.size));clear b9 b7 a7 a1 ht d8 k0 k1 k2 k3 k4 g8
   cases t with
   |none=>
    simp only[Bf];go_wp2_with fail
    go_roundw
    case rel=>first|exact⟨k+1,by omega,by go_num,by show Ct _ _ _ _;rw[a6.out,if_neg (by rw[a3.out];simp),List.append_nil];exact a9.out,a4.out⟩|((repeat apply Exists.intro);exact⟨⟨k+1,by omega,by go_num,by show Ct _ _ _ _;rw[a6.out,if_neg (by rw[a3.out];simp),List.append_nil];exact a9.out,a4.out⟩,rfl⟩)
    case measure=>simp[intOf];omega
   |some t=>
    simp only[Bf];have i9:(0:Int)<=(t:Int):=by omega
    go_wp2_with fail;refine(Qh b n rs (some ⟨yb,yo,none⟩) m c ys q r k w4 (d7.out.below a2.out) (HY.out.below a2.out) a8.out f7 i4 hlt).mono ?_;obtain⟨d,hd⟩:∃d,d=Cf (tAt n rs (Ae ys) k) q r:=⟨_,rfl⟩;rw[←hd]at a3 ⊢;rintro e w5 ⟨rfl,b6⟩;have b2:=hI (a9.out.below b6);have b0:=hI (a4.out.trans (b6.mono a4.out.size));clear b6 a9 a4 a2 hd
    cases d with
    |false=>
     go_wp2_with fail
     go_roundw
     case rel=>first|exact⟨k+1,by omega,by go_num,by show Ct _ _ _ _;rw[a6.out,if_neg (by rw[a3.out];simp),List.append_nil];exact b2.out,b0.out⟩|((repeat apply Exists.intro);exact⟨⟨k+1,by omega,by go_num,by show Ct _ _ _ _;rw[a6.out,if_neg (by rw[a3.out];simp),List.append_nil];exact b2.out,b0.out⟩,rfl⟩)
     case measure=>simp[intOf];omega
    |true=>
     obtain⟨A8,c8,g9⟩:=(b2.out).form;subst g9;obtain⟨L,hL⟩:∃L,L=Kn P k:=⟨_,rfl⟩;have g1:L.length+1<=4096:=by have:=i0.out k;rw[hL];omega
     have g5:=hI hL;have b8:Ct (w5.alloc (.cells #[.int .i64 (k:Int)] 3)) B (.slice A8 L.length c8) L:=by rw[hL];exact(b2.out).below ((Below.refl _ w5).alloc rr (.cells #[.int .i64 (k:Int)] 3))
     have b1:=hI b8;have g3:=b8.2;have f6:Hid (Below w1.heap.size w1 (w5.alloc (.cells #[.int .i64 (k:Int)] 3))):=(b0.out).alloc (b0.out).size _;rw[←hL];clear b8 hL;go_wp2_with(at_builtin;refine Fs rfl (.tmp 66) (.tmp 68) rfl B (.slice A8 L.length c8) L.length (L.map (Value.int .i64)) rfl b1.out.1 ⟨w5.heap.size,0,none⟩ 1 (.int .i64 (k:Int)) rfl (cell_one_new _ _ _) rfl g1 g3 ?hc)
     case hc=>
      intro v' w9 a5 hg _;have f3:Hid (Ct w9 B v' (Kn P (k+1))):=by show Ct _ _ _ _;rw[a6.out,if_pos (by rw[a3.out];rfl),←g5.out];exact b1.out.push a5 hg
      have f0:=hI (b1.out.grow f6.out i1 hg);clear a5 hg b1 f6;go_wp2_with fail
      go_roundw
      case rel=>first|exact⟨k+1,by omega,by go_num,f3.out,f0.out⟩|((repeat apply Exists.intro);exact⟨⟨k+1,by omega,by go_num,f3.out,f0.out⟩,rfl⟩)
      case measure=>simp[intOf];omega
  ·obtain rfl:k=n:=by omega
   go_wp2
   go_ret2
   exact C6.own g4.out b7.out.1 (a0.out.trans (a7.out.mono a0.out.size))
end Go.Proofs.YtaglfmlgbcmakaaGreatDoor
namespace Go.Proofs.YtaglfmlgbcmakaaGreatDoor
open Go.RowKit Go.ChangeShapes Go.WideShapes Go.ChangeAt
structure EdU (x:EdR):Prop where
 laws:St x.laws
 word:Jw x.word
section
variable {H:Type}{enc:TypeId×Value->H}{w:World}{base:Nat}{spare:Nat->Bool}{held:Bool}
set_option maxRecDepth 100000
theorem Aj4 {fuel:Nat}{r:List Value}{x:DataW H×List MemPlace}(h:DataW.trod enc Tryz.prog w base spare held fuel 66 r=some x):∃s:EdR,r=s.cells/\Qr w s/\EdU s:=by
 obtain⟨n,_,hl,hf⟩:=C9 Tryz.underlying66 h;rw[Amm]at hl
 match r,hl with
 |[c0,c1,c2,c3,c4,c5,c6,c7,c8],_=>
  simp only[List.mem_cons,forall_eq_or_imp,List.not_mem_nil,false_implies,implies_true,and_true,K0,Agz,Ag0,Acv,Alq,Aj2,Aa5,List.drop_zero,List.drop_succ_cons,List.take_succ_cons,List.take_zero]at hf;obtain⟨⟨_,h0⟩,⟨_,h1⟩,⟨_,h2⟩,⟨_,h3⟩,⟨_,h4⟩,⟨_,h5⟩,⟨_,h6⟩,⟨_,h7⟩,⟨_,h8⟩⟩:=hf;obtain⟨A0,m0,d0,l0,e0,p0,z0⟩:=Sb h0;obtain⟨A1,m1,d1,l1,e1,p1⟩:=Qb h1;obtain⟨A2,m2,d2,l2,e2,p2,y2⟩:=Yy h2;obtain⟨A3,m3,d3,l3,e3,p3⟩:=Qc h3;obtain⟨A4,m4,d4,l4,e4,p4,y4⟩:=Qe h4;obtain⟨n5,e5,u5⟩:=Ka h5;obtain⟨n6,e6,u6⟩:=Ka h6;obtain⟨n7,e7,u7⟩:=Ka h7;obtain⟨n8,e8,u8⟩:=Na h8;simp only[List.cons.injEq,and_true]at e0 e1 e2 e3 e4 e5 e6 e7 e8;subst e0 e1 e2 e3 e4 e5 e6 e7 e8;exact⟨⟨A0,m0,d0,l0,A1,m1,d1,l1,A2,m2,d2,l2,A3,m3,d3,l3,A4,m4,d4,l4,n5,n6,n7,n8⟩,rfl,⟨p0,p1,p2,p3,p4,u8,z0⟩,y2,y4⟩
end
section
variable {H:Type}{enc:TypeId×Value->H}{w:World}{base:Nat}{spare:Nat->Bool}{held:Bool}{d:DataW H}{p:List MemPlace}
theorem Sc {cs:Array Value}(h:DataW.Trod enc Tryz.prog w base spare held 66 (.agg cs) d p):∃x:EdR,cs= #[.slice x.An x.nn x.cn, .slice x.Ar x.nr x.cr, .slice x.Al x.nl x.cl, .slice x.Av x.nv x.cv, .slice x.Aw x.nw x.cw, .int .i64 x.a, .int .i64 x.i, .int .i64 x.j, .int .i64 x.now]/\Qr w x/\EdU x:=by
 obtain⟨_,hf⟩:=h;obtain⟨x,e,hx⟩:=Aj4 hf;refine⟨x, ?_,hx⟩;apply Array.ext';simpa[Value.cells,EdR.cells]using e
end
end Go.Proofs.YtaglfmlgbcmakaaGreatDoor
