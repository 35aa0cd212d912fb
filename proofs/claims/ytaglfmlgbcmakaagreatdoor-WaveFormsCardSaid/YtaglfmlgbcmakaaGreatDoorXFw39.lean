/-
  few of ablautlaw38.
-/
import Derived.Test.YtaglfmlgbcmakaaGreatDoorH08
set_option linter.all false
set_option maxRecDepth 100000
set_option maxHeartbeats 4000000
namespace Go.Proofs.YtaglfmlgbcmakaaGreatDoor
open Go.RowKit Go.Shelf
def Alx (w:World)(x:EdR)(e:Ending)(w':World):Prop:=(e= .returned (.bool false)\/(e= .returned (.bool true)/\Alh x))/\Below w.heap.size w w'
theorem Ajy (x:EdR)(w:World)(hx:Wq w x):Calls Tryz.prog 26 #[edV x] w (Alx w x):=by
 have HX:=hI hx;have b9:=hx.names.2.1;clear hx;obtain⟨An,nn,cn,names,Ar,nr,cr,roads,Al,nl,cl,laws,Av,nv,cv,waves,Aw,nw,cw,word,a,i,j,now⟩:=x;simp only[edV]at b9 ⊢;go_enter Tryz.func26,Tryz.ntmps26;have b7:Below w.heap.size w (w.alloc (.cells #[.slice An nn cn, .slice Ar nr cr, .slice Al nl cl, .slice Av nv cv, .slice Aw nw cw, .int .i64 a, .int .i64 i, .int .i64 j, .int .i64 now] 66)):=(Below.refl _ w).alloc rr _;have d0:(w.alloc (.cells #[.slice An nn cn, .slice Ar nr cr, .slice Al nl cl, .slice Av nv cv, .slice Aw nw cw, .int .i64 a, .int .i64 i, .int .i64 j, .int .i64 now] 66)).heap[w.heap.size]? =some (.cells #[.slice An nn cn, .slice Ar nr cr, .slice Al nl cl, .slice Av nv cv, .slice Aw nw cw, .int .i64 a, .int .i64 i, .int .i64 j, .int .i64 now] 66 (0,0)):=hpt;have a5:=hI b7;have b1:=hI d0;clear b7 d0 b9;obtain⟨bad,a2⟩:∃bad:Bool,bad=decide (¬((nn<=12\/128<nn/\nn<=200)/\(nr<=40\/512<nr/\nr<=600)/\(nv<=6\/64<nv/\nv<=100)/\nw<=100)):=⟨_,rfl⟩;have a0:=hI a2;clear a2
 go_upto_region 1 with fail
 go_cut [63] (fun s63 wx=>s63= .bool bad/\wx=w.alloc (.cells #[.slice An nn cn, .slice Ar nr cr, .slice Al nl cl, .slice Av nv cv, .slice Aw nw cw, .int .i64 a, .int .i64 i, .int .i64 j, .int .i64 now] 66))
 case first=>
  by_cases ea:12<nn/\nn<=128
  ·have ep:(nn:Int)>12:=by omega
   have eq:(nn:Int)<=128:=by omega
   go_wp2;go_meet;exact⟨by rw[a0.out,decide_eq_true (by omega)],rfl⟩
  by_cases eb:200<nn
  ·have ep:(nn:Int)>12:=by omega
   have eq:¬(nn:Int)<=128:=by omega
   have er:(nn:Int)>200:=by omega
   go_wp2;go_meet;exact⟨by rw[a0.out,decide_eq_true (by omega)],rfl⟩
  by_cases ec:nn<=12
  ·have ep:¬(nn:Int)>12:=by omega
   have er:¬(nn:Int)>200:=by omega
   by_cases ga:40<nr/\nr<=512
   ·have gp:(nr:Int)>40:=by omega
    have gq:(nr:Int)<=512:=by omega
    go_wp2;go_meet;exact⟨by rw[a0.out,decide_eq_true (by omega)],rfl⟩
   by_cases gb:600<nr
   ·have gp:(nr:Int)>40:=by omega
    have gq:¬(nr:Int)<=512:=by omega
    have gr:(nr:Int)>600:=by omega
    go_wp2;go_meet;exact⟨by rw[a0.out,decide_eq_true (by omega)],rfl⟩
   by_cases gc:nr<=40
   ·have gp:¬(nr:Int)>40:=by omega
    have gr:¬(nr:Int)>600:=by omega
    by_cases va:6<nv/\nv<=64
    ·have vp:(nv:Int)>6:=by omega
     have vq:(nv:Int)<=64:=by omega
     go_wp2;go_meet;exact⟨by rw[a0.out,decide_eq_true (by omega)],rfl⟩
    by_cases vb:100<nv
    ·have vp:(nv:Int)>6:=by omega
     have vq:¬(nv:Int)<=64:=by omega
     have vr:(nv:Int)>100:=by omega
     go_wp2;go_meet;exact⟨by rw[a0.out,decide_eq_true (by omega)],rfl⟩
    by_cases vc:nv<=6
    ·have vp:¬(nv:Int)>6:=by omega
     have vr:¬(nv:Int)>100:=by omega
     by_cases wa:100<nw
     ·have wp:(nw:Int)>100:=by omega
      go_wp2;go_meet;exact⟨by rw[a0.out,decide_eq_true (by omega)],rfl⟩
     ·have wp:¬(nw:Int)>100:=by omega
      go_wp2;go_meet;exact⟨by rw[a0.out,decide_eq_false (by omega)],rfl⟩
    ·have vp:(nv:Int)>6:=by omega
     have vq:¬(nv:Int)<=64:=by omega
     have vr:¬(nv:Int)>100:=by omega
     by_cases wa:100<nw
     ·have wp:(nw:Int)>100:=by omega
      go_wp2;go_meet;exact⟨by rw[a0.out,decide_eq_true (by omega)],rfl⟩
     ·have wp:¬(nw:Int)>100:=by omega
      go_wp2;go_meet;exact⟨by rw[a0.out,decide_eq_false (by omega)],rfl⟩
   ·have gp:(nr:Int)>40:=by omega
    have gq:¬(nr:Int)<=512:=by omega
    have gr:¬(nr:Int)>600:=by omega
    by_cases va:6<nv/\nv<=64
    ·have vp:(nv:Int)>6:=by omega
     have vq:(nv:Int)<=64:=by omega
     go_wp2;go_meet;exact⟨by rw[a0.out,decide_eq_true (by omega)],rfl⟩
    by_cases vb:100<nv
    ·have vp:(nv:Int)>6:=by omega
     have vq:¬(nv:Int)<=64:=by omega
     have vr:(nv:Int)>100:=by omega
     go_wp2;go_meet;exact⟨by rw[a0.out,decide_eq_true (by omega)],rfl⟩
    by_cases vc:nv<=6
    ·have vp:¬(nv:Int)>6:=by omega
     have vr:¬(nv:Int)>100:=by omega
     by_cases wa:100<nw
     ·have wp:(nw:Int)>100:=by omega
      go_wp2;go_meet;exact⟨by rw[a0.out,decide_eq_true (by omega)],rfl⟩
     ·have wp:¬(nw:Int)>100:=by omega
      go_wp2;go_meet;exact⟨by rw[a0.out,decide_eq_false (by omega)],rfl⟩
    ·have vp:(nv:Int)>6:=by omega
     have vq:¬(nv:Int)<=64:=by omega
     have vr:¬(nv:Int)>100:=by omega
     by_cases wa:100<nw
     ·have wp:(nw:Int)>100:=by omega
      go_wp2;go_meet;exact⟨by rw[a0.out,decide_eq_true (by omega)],rfl⟩
     ·have wp:¬(nw:Int)>100:=by omega
      go_wp2;go_meet;exact⟨by rw[a0.out,decide_eq_false (by omega)],rfl⟩
  ·have ep:(nn:Int)>12:=by omega
   have eq:¬(nn:Int)<=128:=by omega
   have er:¬(nn:Int)>200:=by omega
   by_cases ga:40<nr/\nr<=512
   ·have gp:(nr:Int)>40:=by omega
    have gq:(nr:Int)<=512:=by omega
    go_wp2;go_meet;exact⟨by rw[a0.out,decide_eq_true (by omega)],rfl⟩
   by_cases gb:600<nr
   ·have gp:(nr:Int)>40:=by omega
    have gq:¬(nr:Int)<=512:=by omega
    have gr:(nr:Int)>600:=by omega
    go_wp2;go_meet;exact⟨by rw[a0.out,decide_eq_true (by omega)],rfl⟩
   by_cases gc:nr<=40
   ·have gp:¬(nr:Int)>40:=by omega
    have gr:¬(nr:Int)>600:=by omega
    by_cases va:6<nv/\nv<=64
    ·have vp:(nv:Int)>6:=by omega
     have vq:(nv:Int)<=64:=by omega
     go_wp2;go_meet;exact⟨by rw[a0.out,decide_eq_true (by omega)],rfl⟩
    by_cases vb:100<nv
    ·have vp:(nv:Int)>6:=by omega
     have vq:¬(nv:Int)<=64:=by omega
     have vr:(nv:Int)>100:=by omega
     go_wp2;go_meet;exact⟨by rw[a0.out,decide_eq_true (by omega)],rfl⟩
    by_cases vc:nv<=6
    ·have vp:¬(nv:Int)>6:=by omega
     have vr:¬(nv:Int)>100:=by omega
     by_cases wa:100<nw
     ·have wp:(nw:Int)>100:=by omega
      go_wp2;go_meet;exact⟨by rw[a0.out,decide_eq_true (by omega)],rfl⟩
     ·have wp:¬(nw:Int)>100:=by omega
      go_wp2;go_meet;exact⟨by rw[a0.out,decide_eq_false (by omega)],rfl⟩
    ·have vp:(nv:Int)>6:=by omega
     have vq:¬(nv:Int)<=64:=by omega
     have vr:¬(nv:Int)>100:=by omega
     by_cases wa:100<nw
     ·have wp:(nw:Int)>100:=by omega
      go_wp2;go_meet;exact⟨by rw[a0.out,decide_eq_true (by omega)],rfl⟩
     ·have wp:¬(nw:Int)>100:=by omega
      go_wp2;go_meet;exact⟨by rw[a0.out,decide_eq_false (by omega)],rfl⟩
   ·have gp:(nr:Int)>40:=by omega
    have gq:¬(nr:Int)<=512:=by omega
    have gr:¬(nr:Int)>600:=by omega
    by_cases va:6<nv/\nv<=64
    ·have vp:(nv:Int)>6:=by omega
     have vq:(nv:Int)<=64:=by omega
     go_wp2;go_meet;exact⟨by rw[a0.out,decide_eq_true (by omega)],rfl⟩
    by_cases vb:100<nv
    ·have vp:(nv:Int)>6:=by omega
     have vq:¬(nv:Int)<=64:=by omega
     have vr:(nv:Int)>100:=by omega
     go_wp2;go_meet;exact⟨by rw[a0.out,decide_eq_true (by omega)],rfl⟩
    by_cases vc:nv<=6
    ·have vp:¬(nv:Int)>6:=by omega
     have vr:¬(nv:Int)>100:=by omega
     by_cases wa:100<nw
     ·have wp:(nw:Int)>100:=by omega
      go_wp2;go_meet;exact⟨by rw[a0.out,decide_eq_true (by omega)],rfl⟩
     ·have wp:¬(nw:Int)>100:=by omega
      go_wp2;go_meet;exact⟨by rw[a0.out,decide_eq_false (by omega)],rfl⟩
    ·have vp:(nv:Int)>6:=by omega
     have vq:¬(nv:Int)<=64:=by omega
     have vr:¬(nv:Int)>100:=by omega
     by_cases wa:100<nw
     ·have wp:(nw:Int)>100:=by omega
      go_wp2;go_meet;exact⟨by rw[a0.out,decide_eq_true (by omega)],rfl⟩
     ·have wp:¬(nw:Int)>100:=by omega
      go_wp2;go_meet;exact⟨by rw[a0.out,decide_eq_false (by omega)],rfl⟩
 case rest=>
  obtain⟨rfl,rfl⟩:=hcut
  cases bad with
  |true=>
   go_wp2;go_ret;exact⟨.inl rfl,a5.out⟩
  |false=>
   have hg:(nn<=12\/128<nn/\nn<=200)/\(nr<=40\/512<nr/\nr<=600)/\(nv<=6\/64<nv/\nv<=100)/\nw<=100:=Decidable.not_not.1 (of_decide_eq_false a0.out.symm);have HG:=hI hg;clear a0 hg;obtain⟨bad,a2⟩:∃bad:Bool,bad=decide (¬(nl<=6\/64<nl/\nl<=100)):=⟨_,rfl⟩;have a0:=hI a2;clear a2
   go_upto_region 3 with fail
   go_cut [79] (fun s79 wx=>s79= .bool bad/\wx=w.alloc (.cells #[.slice An nn cn, .slice Ar nr cr, .slice Al nl cl, .slice Av nv cv, .slice Aw nw cw, .int .i64 a, .int .i64 i, .int .i64 j, .int .i64 now] 66))
   case first=>
    by_cases ea:6<nl/\nl<=64
    ·have ep:(nl:Int)>6:=by omega
     have eq:(nl:Int)<=64:=by omega
     go_wp2;go_meet;exact⟨by rw[a0.out,decide_eq_true (by omega)],rfl⟩
    by_cases eb:100<nl
    ·have ep:(nl:Int)>6:=by omega
     have eq:¬(nl:Int)<=64:=by omega
     have er:(nl:Int)>100:=by omega
     go_wp2;go_meet;exact⟨by rw[a0.out,decide_eq_true (by omega)],rfl⟩
    by_cases ec:nl<=6
    ·have ep:¬(nl:Int)>6:=by omega
     have er:¬(nl:Int)>100:=by omega
     go_wp2;go_meet;exact⟨by rw[a0.out,decide_eq_false (by omega)],rfl⟩
    ·have ep:(nl:Int)>6:=by omega
     have eq:¬(nl:Int)<=64:=by omega
     have er:¬(nl:Int)>100:=by omega
     go_wp2;go_meet;exact⟨by rw[a0.out,decide_eq_false (by omega)],rfl⟩
   case rest=>
    obtain⟨rfl,rfl⟩:=hcut
    cases bad with
    |true=>
     go_wp2;go_ret;exact⟨.inl rfl,a5.out⟩
    |false=>
     have hl:nl<=6\/64<nl/\nl<=100:=Decidable.not_not.1 (of_decide_eq_false a0.out.symm);have HL:=hI hl;clear hl
     have b3:Hid (Alh ⟨An,nn,cn,names,Ar,nr,cr,roads,Al,nl,cl,laws,Av,nv,cv,waves,Aw,nw,cw,word,a,i,j,now⟩):=by
      have h1:=HG.out;have h2:=HL.out;exact⟨by show nn<=12\/128<nn;omega,by show nr<=40\/512<nr;omega,by show nv<=6\/64<nv;omega,by show nw<=100;omega,by show nl<=6\/64<nl;omega,by show nv<=100;omega⟩
     clear a0 HG HL;obtain⟨bx,b5⟩:∃bx,bx=w.heap.size:=⟨_,rfl⟩;rw[←b5]at b1 ⊢;generalize w.alloc (.cells #[.slice An nn cn, .slice Ar nr cr, .slice Al nl cl, .slice Av nv cv, .slice Aw nw cw, .int .i64 a, .int .i64 i, .int .i64 j, .int .i64 now] 66)=W0 at*;clear b5;have d8:=HX.out.laws.max;have d6:=HX.out.waves.max;simp only at d8 d6;go_wp2_with fail
     go_loopw [3,4] (fun s3 s4 wr=>∃(m:Int) (k:Nat),s3= .int .i64 m/\s4= .int .i64 (k:Int)/\k<=nl/\Hid (wr.heap[bx]? =some (.cells #[.slice An nn cn, .slice Ar nr cr, .slice Al nl cl, .slice Av nv cv, .slice Aw nw cw, .int .i64 a, .int .i64 i, .int .i64 j, .int .i64 now] 66 (0,0)))/\Hid (Below w.heap.size w wr)) (fun _ s4 _=>nl-(intOf s4).toNat)
     case atStart=>exact⟨0,0,rfl,rfl,Nat.zero_le _,b1.out,a5.out⟩
     case round=>
      obtain⟨m,k,rfl,rfl,hk,HK,HB⟩:=hrel;clear b1 a5;have k2:=Ad (j:=2) HK.out rfl;have k3:=Ad (j:=3) HK.out rfl;by_cases hgo:k<nl/\k<=6
      ·have d9:(k:Int)<(nl:Int):=by omega
       have f2:(k:Int)<=6:=by omega
       obtain⟨s,hs⟩:=(HX.out.laws).get (k:=k) (by show k<nl;omega);obtain⟨lb,lo,hA,d4,a9⟩:=(HX.out.laws.below HB.out rr).at_ hs;simp only at hA;subst hA;have b0:=(HX.out.laws.below HB.out rr).2 s (List.mem_of_getElem? hs);have hL:=Ae0 a9;have hR:=Acg a9
       have a6:Hid (∀W',Below wr.heap.size wr W'->W'.cell? ⟨bx,2,none⟩=some (.slice (some ⟨lb,lo,none⟩) nl cl)/\W'.rangeAt lb (lo+k*18+1) (Cx s.l.left.1 s.a.Al s.l.left.2.len s.a.cl)/\W'.rangeAt lb (lo+k*18+8) (Cx s.l.right.1 s.a.Ar s.l.right.2.len s.a.cr)):=fun W' hb=>
        ⟨(hb.cell (p:=⟨bx,_,none⟩) (lt_of_block HK.out)).trans k2,Rv hL hb d4,Rv hR hb d4⟩
       have b8:Hid (∀W',Below wr.heap.size wr W'->FSl W' s.a.Al s.l.left.2.len s.a.cl s.l.left.2):=fun W' hb=>b0.1.below hb rr
       have b4:Hid (∀W',Below wr.heap.size wr W'->FSl W' s.a.Ar s.l.right.2.len s.a.cr s.l.right.2):=fun W' hb=>b0.2.1.below hb rr
       clear hs a9 b0 hL hR k3;go_wp2_with fail;refine Bg (fun W'=>W'.cell? ⟨bx,2,none⟩=some (.slice (some ⟨lb,lo,none⟩) nl cl)/\W'.rangeAt lb (lo+k*18+1) (Cx s.l.left.1 s.a.Al s.l.left.2.len s.a.cl)/\W'.rangeAt lb (lo+k*18+8) (Cx s.l.right.1 s.a.Ar s.l.right.2.len s.a.cr)) (by kernel_rfl) (a6.out wr.drew (Below.refl _ wr).drew) (fun hHeld=> ?_);clear k2
       (refine' Ae 0 rfl ?_;(try simp only[Act.put,nY,nX]));(refine' Ae 1 rfl ?_;(try simp only[Act.put,nY,nX]));(refine' Ae 2 rfl ?_;(try simp only[Act.put,nY,nX]));(refine' Ae 3 rfl ?_;(try simp only[Act.put,nY,nX]));(refine' Ae 4 rfl ?_;(try simp only[Act.put,nY,nX]));(refine' Ae 5 rfl ?_;(try simp only[Act.put,nY,nX]))
       (refine' Ch (i:=6) (v:=Fc s.l.left.1 s.a.Al s.l.left.2.len s.a.cl) rfl (by kernel_rfl) (by kernel_rfl) (by kernel_rfl) (by kernel_rfl) (fun _ _ _ h=>h) (Tr (by rfl) (.tmp 96) rfl lb (lo+k*18+1) _ _ _ _ (by rfl) (fun _ h=>h.2.1)) (by assumption) ?_;(try simp only[Act.put,nY,nX]))
       (refine' Ae 9 rfl ?_;(try simp only[Act.put,nY,nX]));(refine' Ae 10 rfl ?_;(try simp only[Act.put,nY,nX]));(refine' Ae 11 rfl ?_;(try simp only[Act.put,nY,nX]));(refine' Ae 12 rfl ?_;(try simp only[Act.put,nY,nX]));(refine' Ae 13 rfl ?_;(try simp only[Act.put,nY,nX]))
       (refine' Ch (i:=14) (v:=Fc s.l.right.1 s.a.Ar s.l.right.2.len s.a.cr) rfl (by kernel_rfl) (by kernel_rfl) (by kernel_rfl) (by kernel_rfl) (fun _ _ _ h=>h) (Tr (by rfl) (.tmp 104) rfl lb (lo+k*18+8) _ _ _ _ (by rfl) (fun _ h=>h.2.2)) (by assumption) ?_;(try simp only[Act.put,nY,nX]))
       clear hHeld;have b2:Below wr.heap.size wr wr.drew:=(Below.refl _ wr).drew
       (refine Anv 7 rfl (fun K' hK'=> ?_);simp only[nY];go_simp)
       refine(Aiy s.l.left.1 s.l.left.2 wr.drew s.a.Al s.l.left.2.len s.a.cl (b8.out wr.drew b2)).mono ?_;rintro e w1 ⟨⟨m1,rfl⟩,d3⟩;have a1:=b2.trans d3;have a7:=a6.out w1 a1;refine hK' _ _ ⟨.inr a7,fun _=> ?_⟩
       clear hK' K' b2 d3
       (try simp only[Act.put,nY,nX])
       (refine' Ae 8 rfl ?_;(try simp only[Act.put,nY,nX]))
       (refine Anv 15 rfl (fun K' hK'=> ?_);simp only[nY];go_simp)
       refine(Aiy s.l.right.1 s.l.right.2 w1 s.a.Ar s.l.right.2.len s.a.cr (b4.out w1 a1)).mono ?_;rintro e w2 ⟨⟨m2,rfl⟩,d2⟩;have a3:=a1.trans (d2.mono a1.size);have a8:=a6.out w2 a3;refine hK' _ _ ⟨.inr a8,fun _=> ?_⟩
       clear hK' K' a1 d2 a7
       (try simp only[Act.put,nY,nX])
       (refine Anv 16 rfl (fun K' hK'=> ?_);simp only[nY];go_simp)
       refine hK' _ _ ⟨.inr a8,fun _=> ?_⟩
       clear hK' K' a8
       (try simp only[Act.put,nY,nX])
       (refine Anv 17 rfl (fun K' hK'=> ?_);simp only[nY];go_simp)
       refine hK' _ _ ⟨.inl (by kernel_rfl),fun _=>Bf (by kernel_rfl) ?_ _⟩
       clear hK' K' a6 b8 b4;have d1:=hI (HB.out.trans (a3.mono HB.out.size));have b6:=hI ((a3.block _ (lt_of_block HK.out)).trans HK.out);clear a3 HB HK;go_wp2_with fail
       go_roundw
       case rel=>first|exact⟨_,k+1,rfl,by go_num,by omega,b6.out,d1.out⟩|((repeat apply Exists.intro);exact⟨⟨_,k+1,rfl,by go_num,by omega,b6.out,d1.out⟩,rfl⟩)
       case measure=>simp[intOf];omega
      ·have a4:∃q:Bool,q=false/\((¬(k:Int)<(nl:Int))\/((k:Int)<(nl:Int)∧¬(k:Int)<=6)):=⟨false,rfl,by omega⟩;obtain⟨_,_,a7|⟨a7,a8⟩⟩:=a4
       all_goals
        clear hgo;go_wp2_with fail
        go_loopw [5] (fun s5 wr=>∃q:Nat,s5= .int .i64 (q:Int)/\q<=nv/\Hid (wr.heap[bx]? =some (.cells #[.slice An nn cn, .slice Ar nr cr, .slice Al nl cl, .slice Av nv cv, .slice Aw nw cw, .int .i64 a, .int .i64 i, .int .i64 j, .int .i64 now] 66 (0,0)))/\Hid (Below w.heap.size w wr)) (fun s5 _=>nv-(intOf s5).toNat)
        case atStart=>exact⟨0,rfl,Nat.zero_le _,HK.out,HB.out⟩
        case round=>
         obtain⟨q,rfl,hq,HK,HB⟩:=hrel;have k2:=Ad (j:=2) HK.out rfl;have k3:=Ad (j:=3) HK.out rfl;by_cases hlt:q<nv
         ·have f0:(q:Int)<(nv:Int):=by omega
          obtain⟨y,hy⟩:=(HX.out.waves.below HB.out).get (k:=q) hlt;obtain⟨yb,yo,hA,f1,d5,l0,l1,l2,l3,l4⟩:=(HX.out.waves.below HB.out).at_ hy;simp only at hA;subst hA;clear d5 hy l0 l2 l3 l4 k2;by_cases h20:y.n<=20
          ·have d7:¬(y.n:Int)>20:=by omega
           go_wp2_with fail
           go_roundw
           case rel=>first|exact⟨q+1,by go_num,by omega,HK.out,HB.out⟩|((repeat apply Exists.intro);exact⟨⟨q+1,by go_num,by omega,HK.out,HB.out⟩,rfl⟩)
           case measure=>simp[intOf];omega
          ·have d7:(y.n:Int)>20:=by omega
           go_wp2;go_ret;exact⟨.inl rfl,HB.out⟩
         ·obtain rfl:q=nv:=by omega
          by_cases hm40:m<=40
          ·go_wp2;go_ret;exact⟨.inr ⟨rfl,b3.out⟩,HB.out⟩
          ·by_cases hl6:(nl:Int)>6
           ·go_wp2;go_ret;exact⟨.inr ⟨rfl,b3.out⟩,HB.out⟩
           ·first
             |(exfalso;omega)
             |(go_wp2
               go_ret;exact⟨.inl rfl,HB.out⟩)
end Go.Proofs.YtaglfmlgbcmakaaGreatDoor
