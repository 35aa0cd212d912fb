/-
  few and good of ablautlaw38.
  Waves (chapter 38), in plain words: what the statements of the program alone ask of arrivals, of lists of points, and of lines.
  Forms and values (chapter 38), in plain words: which errors there are, and which points have the same number.
  (*points.Map).Roads.
  A case of chapter 38 that is allowed: what lies in memory, and what the calls return.
  ablautref38: one.
  What the loops of the document's chapter 38 come to, in plain words.
  ablautref38: arrival, Arrive.
-/
import Derived.Test.YtaglfmlgbcmakaaGreatDoorXWk38
set_option linter.all false
set_option maxRecDepth 100000
set_option maxHeartbeats 4000000
namespace Go.Proofs.YtaglfmlgbcmakaaGreatDoor
open Go.RowKit Go.Shelf
structure EdR where
 An:Option Addr
 nn:Nat
 cn:Nat
 names:List ByteArray
 Ar:Option Addr
 nr:Nat
 cr:Nat
 roads:List Ep
 Al:Option Addr
 nl:Nat
 cl:Nat
 laws:List Cb
 Av:Option Addr
 nv:Nat
 cv:Nat
 waves:List Cs
 Aw:Option Addr
 nw:Nat
 cw:Nat
 word:List Snd
 a:Int
 i:Int
 j:Int
 now:Int
def EdR.cells (x:EdR):List Value:=[.slice x.An x.nn x.cn, .slice x.Ar x.nr x.cr, .slice x.Al x.nl x.cl, .slice x.Av x.nv x.cv, .slice x.Aw x.nw x.cw, .int .i64 x.a, .int .i64 x.i, .int .i64 x.j, .int .i64 x.now]
abbrev edV (x:EdR):Value:= .agg #[.slice x.An x.nn x.cn, .slice x.Ar x.nr x.cr, .slice x.Al x.nl x.cl, .slice x.Av x.nv x.cv, .slice x.Aw x.nw x.cw, .int .i64 x.a, .int .i64 x.i, .int .i64 x.j, .int .i64 x.now]
structure Wq (w:World)(x:EdR):Prop where
 names:Hi w x.An x.nn x.cn x.names
 roads:D7 w x.Ar x.nr x.cr x.roads
 laws:Cf w x.Al x.nl x.cl x.laws
 waves:Cm w x.Av x.nv x.cv x.waves
 word:Ak w x.Aw x.nw x.cw x.word
 now: -9223372036854775808<=x.now/\x.now<=9223372036854775807
 nsz:∀s∈x.names,s.size<=9223372036854775807
theorem Wq.below {w w':World}{x:EdR}(h:Wq w x)(hb:Below w.heap.size w w'):Wq w' x:=
 ⟨h.names.below hb rr,h.roads.below hb rr,h.laws.below hb rr,h.waves.below hb,h.word.below hb rr,h.now,h.nsz⟩
def Alh (x:EdR):Prop:=(x.nn<=12\/128<x.nn)/\(x.nr<=40\/512<x.nr)/\(x.nv<=6\/64<x.nv)/\x.nw<=100/\(x.nl<=6\/64<x.nl)/\x.nv<=100
end Go.Proofs.YtaglfmlgbcmakaaGreatDoor
namespace Go.Proofs.YtaglfmlgbcmakaaGreatDoor
open Go.RowKit
-- lists of points gone over
section
variable {P:Nat->Bool}{n c:Nat}
end
section
variable {n:Nat}{rs:List Bk}{ws:List Ef}{i j c s t:Nat}
end
section
variable {n:Nat}{rs:List Bk}{ws:List Ef}{a:Nat}
end
section
variable {f:Nat->Int×List Snd}
end
section
variable {n:Nat}{rs:List Bk}{ls:List Bi}{ws:List Ef}{w:List Snd}{now:Int}
end
end Go.Proofs.YtaglfmlgbcmakaaGreatDoor
namespace Go.Proofs.YtaglfmlgbcmakaaGreatDoor
open Go.RowKit Go.Shelf
theorem Dr.roads {w:World}{b n:Nat}{rs:List Bk}(h:Dr w b n rs):∃Ar cr,w.cell? ⟨b,2,none⟩=some (.slice Ar rs.length cr)/\D7 w Ar rs.length cr (rs.map Jr):=by
 obtain⟨An,cn,mb,Ar,cr,Aq,cq,vs,h⟩:=h;exact⟨Ar,cr,Ad h.blk rfl,h.roads⟩
theorem D7.at_ {w:World}{A:Option Addr}{n c k:Nat}{rs:List Ep}{r:Ep}(h:D7 w A n c rs)(hx:rs[k]? =some r):∃b off,A=some ⟨b,off,none⟩/\b<w.heap.size∧
  w.cell? ⟨b,off+k*3,none⟩=some (.int .i64 r.1)/\w.cell? ⟨b,off+k*3+1,none⟩=some (.int .i64 r.2.1)/\w.cell? ⟨b,off+k*3+2,none⟩=some (.int .i64 r.2.2):=by
 obtain⟨b,off,hA,hb,hc⟩:=Eb.at_ h Vf (by decide) hx;refine⟨b,off,hA,hb, ?_⟩;simp only[Nat.add_assoc];exact⟨hc 0 _ rfl,hc 1 _ rfl,hc 2 _ rfl⟩
section
variable {x:EdR}{rs:List Bk}{b:Nat}{W W':World}
end
section
variable {w W W':World}{x:EdR}{rs:List Bk}{b bx:Nat}
end
theorem Ah7 (v:Value)(n:Nat)(rs:List Bk)(x:Cs)(w:World)(hm:H8 w v n rs)(hx:Js w x):
  Calls Tryz.prog 84 #[v,Yt x] w fun e w'=>e= .returned (.int .i64 (Em n x.d))/\Below w.heap.size w w':=by
 obtain⟨a0,hu⟩:=hx;obtain⟨⟨law,ps,T,S,fin⟩,Aw,nw,cw⟩:=x;simp only at a0;have d9:nw<=9223372036854775807:=by have h1:=a0.2.1;have h2:=a0.2.2.1;unfold maxLen at h2;omega
 have a4:ps.length=nw:=by have:=a0.1;simpa using this
 have d7:nw<=cw:=a0.2.1;have HP:=hI a0;have HM:=hI hm;have HL:=hI a4;clear a0 hm a4 hu;have kb:(w.alloc (.cells #[.int .i64 law, .slice Aw nw cw, .int .i64 T, .int .i64 S, .int .i64 fin] 85)).heap[w.heap.size]? =some (.cells #[.int .i64 law, .slice Aw nw cw, .int .i64 T, .int .i64 S, .int .i64 fin] 85 (0,0)):=hpt;have kB:Below w.heap.size w (w.alloc (.cells #[.int .i64 law, .slice Aw nw cw, .int .i64 T, .int .i64 S, .int .i64 fin] 85)):=bel;go_enter Tryz.func84,Tryz.ntmps84;go_wp2_with fail;obtain⟨B0,b5⟩:∃B0,B0=w.heap.size:=⟨_,rfl⟩;rw[←b5]at kb ⊢;have d4:=hI kb;have b8:=hI kB;have f8:w.heap.size<=B0:=Nat.le_of_eq b5.symm;generalize w.alloc (.cells #[.int .i64 law, .slice Aw nw cw, .int .i64 T, .int .i64 S, .int .i64 fin] 85)=W0 at*;clear b5 kb kB
 have a6:∀er:Int,er≠0->Gs n [] ps=er->Em n ⟨law,ps,T,S,fin⟩=er:=fun er h0 h=>by
  unfold Em;rw[if_pos (by rw[h];exact h0)];exact h
 have a2:=hI a6;clear a6
 go_loopw [5,6] (fun i _ wr=>∃k:Nat,k<=nw/\i= .int .i64 (k:Int)/\Hid (Gs n [] ps=Gs n (ps.take k) (ps.drop k))/\Hid (wr.heap[B0]? =some (.cells #[.int .i64 law, .slice Aw nw cw, .int .i64 T, .int .i64 S, .int .i64 fin] 85 (0,0)))/\Hid (Below w.heap.size w wr)) (fun i _ _=>nw-(intOf i).toNat)
 case atStart=>exact⟨0,Nat.zero_le _,rfl,rfl,d4.out,b8.out⟩
 case round=>
  obtain⟨k,hk,rfl,HE,HK,HB⟩:=hrel;clear d4 b8;have c1:=Ad (j:=1) HK.out rfl;by_cases hlt:k<nw
  ·have f3:(k:Int)<(nw:Int):=by omega
   obtain⟨pb,po,v',hA,b7,hv,b6⟩:=(HP.out.below HB.out rr:Az wr Aw nw cw 1 (ps.map (Value.int .i64))).at1 hlt;obtain⟨p,hp⟩:∃p,ps[k]? =some p:=⟨ps[k]'(by rw[HL.out];exact hlt),List.getElem?_eq_getElem _⟩;obtain rfl:v'= .int .i64 p:=by rw[List.getElem?_map,hp]at hv;simpa using hv.symm
   have d5:ps.drop k=p::ps.drop (k+1):=Rd hp;have b9:Hid (ps.take (k+1)=ps.take k++[p]):=Bd ps k p hp
   have HS:Hid (Gs n (ps.take k) (ps.drop k)=if p<0\/(n:Int)<=p then 3 else if(ps.take k).any (fun b=>decide (b=p))then 6 else Gs n (ps.take (k+1)) (ps.drop (k+1))):=by
    show _=_;rw[d5,b9.out];rfl
   subst hA;clear hv hp d5;go_wp2_with fail;refine Bg (fun W'=>W'.cell? ⟨B0,1,none⟩=some (.slice (some ⟨pb,po,none⟩) nw cw)/\W'.cell? ⟨pb,po+k,none⟩=some (.int .i64 p)) (by kernel_rfl) ⟨c1,b6⟩ (fun hHeld=> ?_)
   (refine' Ae 0 rfl ?_;(try simp only[Act.put,nY,nX]));(refine' Ae 1 rfl ?_;(try simp only[Act.put,nY,nX]));(refine' Ae 2 rfl ?_;(try simp only[Act.put,nY,nX]));(refine' Ae 3 rfl ?_;(try simp only[Act.put,nY,nX]));(refine' Ae 4 rfl ?_;(try simp only[Act.put,nY,nX]));(refine' Ae 5 rfl ?_;(try simp only[Act.put,nY,nX]));(refine' Ae 6 rfl ?_;(try simp only[Act.put,nY,nX]))
   by_cases hp0:p<0
   ·rw[show decide (p<0)=true from decide_eq_true hp0];refine' Ch (i:=7) (v:=undef) rfl (by as_aux_lemma=>kernel_rfl) (by as_aux_lemma=>kernel_rfl) (by as_aux_lemma=>kernel_rfl) (by as_aux_lemma=>kernel_rfl) (fun _ _ _ h=>h) (Or.inr ⟨by as_aux_lemma=>kernel_rfl,rfl⟩) (by assumption) ?_
    (try simp only[Act.put,nY,nX])
    refine' Ch (i:=8) (v:=undef) rfl (by as_aux_lemma=>kernel_rfl) (by as_aux_lemma=>kernel_rfl) (by as_aux_lemma=>kernel_rfl) (by as_aux_lemma=>kernel_rfl) (fun _ _ _ h=>h) (Or.inr ⟨by as_aux_lemma=>kernel_rfl,rfl⟩) (by assumption) ?_
    (try simp only[Act.put,nY,nX])
    refine' Ch (i:=9) (v:=undef) rfl (by as_aux_lemma=>kernel_rfl) (by as_aux_lemma=>kernel_rfl) (by as_aux_lemma=>kernel_rfl) (by as_aux_lemma=>kernel_rfl) (fun _ _ _ h=>h) (Or.inr ⟨by as_aux_lemma=>kernel_rfl,rfl⟩) (by assumption) ?_
    (try simp only[Act.put,nY,nX])
    refine' Ch (i:=10) (v:=undef) rfl (by as_aux_lemma=>kernel_rfl) (by as_aux_lemma=>kernel_rfl) (by as_aux_lemma=>kernel_rfl) (by as_aux_lemma=>kernel_rfl) (fun _ _ _ h=>h) (Or.inr ⟨by as_aux_lemma=>kernel_rfl,rfl⟩) (by assumption) ?_
    (try simp only[Act.put,nY,nX])
    refine' Ch (i:=11) (v:=undef) rfl (by as_aux_lemma=>kernel_rfl) (by as_aux_lemma=>kernel_rfl) (by as_aux_lemma=>kernel_rfl) (by as_aux_lemma=>kernel_rfl) (fun _ _ _ h=>h) (Or.inr ⟨by as_aux_lemma=>kernel_rfl,rfl⟩) (by assumption) ?_
    (try simp only[Act.put,nY,nX])
    refine' Ch (i:=12) (v:=undef) rfl (by as_aux_lemma=>kernel_rfl) (by as_aux_lemma=>kernel_rfl) (by as_aux_lemma=>kernel_rfl) (by as_aux_lemma=>kernel_rfl) (fun _ _ _ h=>h) (Or.inr ⟨by as_aux_lemma=>kernel_rfl,rfl⟩) (by assumption) ?_
    (try simp only[Act.put,nY,nX])
    refine' Ch (i:=13) (v:=undef) rfl (by as_aux_lemma=>kernel_rfl) (by as_aux_lemma=>kernel_rfl) (by as_aux_lemma=>kernel_rfl) (by as_aux_lemma=>kernel_rfl) (fun _ _ _ h=>h) (Or.inr ⟨by as_aux_lemma=>kernel_rfl,rfl⟩) (by assumption) ?_
    (try simp only[Act.put,nY,nX])
    refine' Ch (i:=14) (v:=undef) rfl (by as_aux_lemma=>kernel_rfl) (by as_aux_lemma=>kernel_rfl) (by as_aux_lemma=>kernel_rfl) (by as_aux_lemma=>kernel_rfl) (fun _ _ _ h=>h) (Or.inr ⟨by as_aux_lemma=>kernel_rfl,rfl⟩) (by assumption) ?_
    (try simp only[Act.put,nY,nX])
    (refine Anv 15 rfl (fun K' hK'=> ?_);simp only[nY];go_simp)
    refine hK' _ _ ⟨.inl (by kernel_rfl),fun _=>Bf (by kernel_rfl) ?_ _⟩
    clear hK' K';go_wp2;go_ret;exact⟨by rw[a2.out 3 (by decide) (by rw[HE.out,HS.out,if_pos (.inl hp0)])];rfl,HB.out.drew⟩
   ·rw[show decide (p<0)=false from decide_eq_false hp0]
    (refine' Ae 7 rfl ?_;(try simp only[Act.put,nY,nX]));(refine' Ae 8 rfl ?_;(try simp only[Act.put,nY,nX]));(refine' Ae 9 rfl ?_;(try simp only[Act.put,nY,nX]));(refine' Ae 10 rfl ?_;(try simp only[Act.put,nY,nX]));(refine' Ae 11 rfl ?_;(try simp only[Act.put,nY,nX]));(refine' Ae 12 rfl ?_;(try simp only[Act.put,nY,nX]))
    clear hHeld
    (refine Anv 13 rfl (fun K' hK'=> ?_);simp only[nY];go_simp)
    have a9:Below wr.heap.size wr wr.drew:=(Below.refl wr.heap.size wr).drew;refine(Te v n rs _ ((HM.out.below HB.out).below a9)).mono ?_;rintro e w1 ⟨rfl,a5⟩;have b0:=a9.trans (a5.mono a9.size);have b3:=hI ((b0.block B0 (lt_of_block HK.out)).trans HK.out);have c1':=Ad (j:=1) b3.out rfl;have a1:=hI (HB.out.trans (b0.mono HB.out.size));have a7:=(b0.cell (p:=⟨pb,po+k,none⟩) b7).trans b6;have d0:w1.cell? ⟨B0,1,none⟩=some (.slice (some ⟨pb,po,none⟩) nw cw)/\w1.cell? ⟨pb,po+k,none⟩=some (.int .i64 p):=⟨c1',a7⟩;refine hK' _ _ ⟨.inr d0,fun _=> ?_⟩
    clear hK' K' a9 a5 b0 HK HB c1 b6 b7
    (try simp only[Act.put,nY,nX])
    (refine' Ae 14 rfl ?_;(try simp only[Act.put,nY,nX]))
    (refine Anv 15 rfl (fun K' hK'=> ?_);simp only[nY];go_simp)
    refine hK' _ _ ⟨.inl (by kernel_rfl),fun _=>Bf (by kernel_rfl) ?_ _⟩
    clear hK' K';clear a7 d0;by_cases hpn:(n:Int)<=p
    ·go_wp2;go_ret;exact⟨by rw[a2.out 3 (by decide) (by rw[HE.out,HS.out,if_pos (.inr hpn)])];rfl,a1.out⟩
    ·have b2:Hid (Gs n (ps.take k) (ps.drop k)=if(ps.take k).any (fun b=>decide (b=p))then 6 else Gs n (ps.take (k+1)) (ps.drop (k+1))):=by
      show _=_;rw[HS.out,if_neg (by omega)]
     have d6:=hI (HP.out.below a1.out rr);clear HS;go_wp2_with fail
     go_loopw [6] (fun s6 wr=>∃j:Nat,j<=k/\s6= .int .i64 (j:Int)/\Hid ((ps.take j).any (fun b=>decide (b=p))=false)/\Hid (wr.heap[B0]? =some (.cells #[.int .i64 law, .slice (some ⟨pb,po,none⟩) nw cw, .int .i64 T, .int .i64 S, .int .i64 fin] 85 (0,0)))/\Hid (Below w1.heap.size w1 wr)) (fun s6 _=>k-(intOf s6).toNat)
     case atStart=>exact⟨0,Nat.zero_le _,rfl,rfl,b3.out,Below.refl _ _⟩
     case round=>
      obtain⟨j,hj,rfl,HN,a8,a3⟩:=hrel;clear b3 c1';have c1:=Ad (j:=1) a8.out rfl;by_cases hjk:j<k
      ·have f6:(j:Int)<(k:Int):=by omega
       have f5:(j:Int)<(nw:Int):=by omega
       obtain⟨pb',po',u',d3, -,b4,f7⟩:=(d6.out.below a3.out rr:Az wr (some ⟨pb,po,none⟩) nw cw 1 (ps.map (Value.int .i64))).at1 (k:=j) (by omega);obtain⟨_,_,u2,d1, -,b1,f4⟩:=(d6.out.below a3.out rr:Az wr (some ⟨pb,po,none⟩) nw cw 1 (ps.map (Value.int .i64))).at1 (k:=k) (by omega);simp only[Option.some.injEq,Addr.mk.injEq,and_true]at d3 d1;obtain⟨rfl,rfl⟩:=d3;obtain⟨rfl,rfl⟩:=d1;obtain⟨u,hu⟩:∃u,ps[j]? =some u:=⟨ps[j]'(by rw[HL.out];omega),List.getElem?_eq_getElem _⟩;obtain rfl:u'= .int .i64 u:=by rw[List.getElem?_map,hu]at b4;simpa using b4.symm
       have d2:ps[k]? =some p:=by
        have h1:=congrArg (fun l:List Int=>l[k]?) b9.out;simp only[List.getElem?_take,if_pos (Nat.lt_succ_self k)]at h1;rw[h1,List.getElem?_append_right (by rw[List.length_take];omega),List.length_take,HL.out];rw[show k-min k nw=0 by omega];rfl
       obtain rfl:u2= .int .i64 p:=by rw[List.getElem?_map,d2]at b1;simpa using b1.symm
       have d8:Hid (ps.take (j+1)=ps.take j++[u]):=Bd ps j u hu
       have f2:Hid (u∈ps.take k):=by
        refine List.mem_of_getElem? (i:=j) ?_;rw[List.getElem?_take,if_pos hjk,hu]
       clear b4 b1 hu d2;by_cases hup:u=p
       ·subst hup;go_wp2_with fail
        go_quiet (fail)
        go_wp2;go_ret
        exact⟨by
         rw[a2.out 6 (by decide) (by rw[HE.out,b2.out,if_pos (by rw[List.any_eq_true];exact⟨u,f2.out,by simp⟩)])];rfl,(a1.out.trans (a3.out.mono a1.out.size)).drewN _⟩
       ·have f0:(u==p)=false:=by simpa using hup
        have f1:=hI hup;clear hup;go_wp2_with fail
        go_quiet (fail)
        go_wp2
        go_roundw
        case rel=>exact⟨j+1,by omega,by go_num,by show _=_;rw[d8.out,List.any_append,HN.out];simpa using f1.out,a8.out,a3.out.drewN _⟩
        case measure=>simp[intOf];omega
      ·obtain rfl:j=k:=by omega
       go_wp2
       go_roundw
       case rel=>first|exact⟨j+1,by omega,by go_num,by show _=_;rw[HE.out,b2.out,if_neg (by rw[HN.out];simp)],a8.out,a1.out.trans (a3.out.mono a1.out.size)⟩|((repeat apply Exists.intro);exact⟨⟨j+1,by omega,by go_num,by show _=_;rw[HE.out,b2.out,if_neg (by rw[HN.out];simp)],a8.out,a1.out.trans (a3.out.mono a1.out.size)⟩,rfl⟩)
       case measure=>simp[intOf];omega
  ·obtain rfl:k=nw:=by omega
   have HZ:Hid (Gs n [] ps=0):=by
    show _=_;rw[HE.out,List.drop_eq_nil_of_le (by rw[HL.out];exact rr)];rfl
   have HV:Hid (Em n ⟨law,ps,T,S,fin⟩=if min T S<0\/1073741824<max T S then 2 else 0):=by
    show _=_;unfold Em;rw[if_neg (by rw[HZ.out];simp)]
   have c2:=Ad (j:=2) HK.out rfl;have c3:=Ad (j:=3) HK.out rfl;clear HE;by_cases h1:T<0
   ·go_wp2;go_ret;exact⟨by rw[HV.out,if_pos (.inl (by omega))];rfl,HB.out⟩
   by_cases h2:1073741824<T
   ·go_wp2;go_ret;exact⟨by rw[HV.out,if_pos (.inr (by omega))];rfl,HB.out⟩
   by_cases h3:S<0
   ·go_wp2;go_ret;exact⟨by rw[HV.out,if_pos (.inl (by omega))];rfl,HB.out⟩
   by_cases h4:1073741824<S
   ·go_wp2;go_ret;exact⟨by rw[HV.out,if_pos (.inr (by omega))];rfl,HB.out⟩
   have h5:¬(min T S<0\/1073741824<max T S):=by omega
   have H5:=hI h5;clear h5;go_wp2;go_ret;exact⟨by rw[HV.out,if_neg H5.out];rfl,HB.out⟩
end Go.Proofs.YtaglfmlgbcmakaaGreatDoor
namespace Go.Proofs.YtaglfmlgbcmakaaGreatDoor
open Go.RowKit
theorem Ait {n:Nat}{rs:List Bk}(h:Cv n rs)(ps:List Int)(a:Nat):Kl (ps.map fun b=>F8 n rs b.toNat a)=Kl (ps.map fun b=>F8 n rs a b.toNat):=by
 congr 1;exact List.map_congr_left fun b _=>Ae4 h b.toNat a
def Gp (lt:Nat->Nat->Bool)(p:Nat->Bool)(m N:Nat):List Nat:=(List.range N).flatMap fun n=>(List.range m).filter fun i=>decide (Fq lt m i=n) && p i
theorem Acc (lt:Nat->Nat->Bool)(p:Nat->Bool)(m:Nat):Gp lt p m 0=[]:=rfl
theorem Aey (lt:Nat->Nat->Bool)(p:Nat->Bool)(m:Nat):Gp lt p m m=Fr lt p m:=rfl
theorem To (lt:Nat->Nat->Bool)(p:Nat->Bool)(m N:Nat):Gp lt p m (N+1)=Gp lt p m N++(List.range m).filter fun i=>decide (Fq lt m i=N) && p i:=by
 unfold Gp;rw[List.range_succ,List.flatMap_append,List.flatMap_singleton]
theorem Px (q:Nat->Bool)(i:Nat):(List.range (i+1)).filter q=(List.range i).filter q++(if q i=true then [i]else []):=by
 rw[List.range_succ,List.filter_append];congr 1;by_cases h:q i=true
 ·rw[if_pos h,List.filter_cons_of_pos h];rfl
 ·rw[if_neg h,List.filter_cons_of_neg h];rfl
theorem V5 (lt:Nat->Nat->Bool)(p:Nat->Bool)(m:Nat):∀N,(Gp lt p m N).length<=N*m
 |0=>by rw[Acc];simp
 |N+1=>by
  rw[To,List.length_append,Nat.add_mul];have h1:=V5 lt p m N;have h2:((List.range m).filter fun i=>decide (Fq lt m i=N) && p i).length<=(List.range m).length:=List.length_filter_le _ _;rw[List.length_range]at h2;omega
theorem Acd (lt:Nat->Nat->Bool)(p:Nat->Bool)(m N i:Nat)(hi:i<=m):(Gp lt p m N++(List.range i).filter fun i=>decide (Fq lt m i=N) && p i).length<=(N+1)*m:=by
 rw[List.length_append,Nat.add_mul];have h1:=V5 lt p m N;have h2:((List.range i).filter fun i=>decide (Fq lt m i=N) && p i).length<=(List.range i).length:=List.length_filter_le _ _;rw[List.length_range]at h2;omega
theorem Aiu {fs:List (List Snd)}{x:List Snd}{k:Nat}(h:fs[k]? =some x)(hn:∀j,j<k->fs[j]? ≠some x):Dd fs x=(k:Int):=by
 have hk:=(List.getElem?_eq_some_iff.1 h).1;have hx:=(List.getElem?_eq_some_iff.1 h).2
 have:fs.findIdx? (fun y=>decide (x=y))=some k:=by
  rw[List.findIdx?_eq_some_iff_getElem];refine⟨hk,by rw[hx];simp,fun j hj=> ?_⟩
  have:=hn j hj
  rw[List.getElem?_eq_getElem (by omega)]at this;simp only[decide_eq_true_eq];exact fun e=>this (by rw[←e])
 unfold Dd;rw[this]
theorem Ace {T S d:Nat}{U:Int}(h:9223372036854775807<T+S*d):Gf (some d) T S U=none:=by
 unfold Gf;dsimp only;rw[if_pos h]
def ltO (x y:Option Nat)(i j:Nat):Bool:=match x,y with
 |some x,some y=>decide (x<y)||(decide (x=y) && decide (i<j))
 |some _,none=>true
 |none,some _=>false
 |none,none=>decide (i<j)
theorem Amw (t:Nat->Option Nat)(i j:Nat):C0 t i j=ltO (t i) (t j) i j:=rfl
end Go.Proofs.YtaglfmlgbcmakaaGreatDoor
namespace Go.Proofs.YtaglfmlgbcmakaaGreatDoor
open Go.RowKit Go.Shelf
theorem Lq (b n:Nat)(rs:List Bk)(x:Cs)(a:Nat)(w:World)(hm:El w b n rs)(hx:Js w x)(h1:Em n x.d=0)(ha:a<n):
  Calls Tryz.prog 80 #[.pointer (some ⟨b,0,none⟩),Yt x, .int .i64 (a:Int)] w fun e w'=>e= .returned (.int .i64 (Bn (Gd n rs x.d a)))/\Below w.heap.size w w':=by
 obtain⟨a1,hu⟩:=hx;obtain⟨b0,b8,d6,b6,d7⟩:=Aja h1;obtain⟨⟨law,ps,time,slow,fin⟩,Aw,nw,cw⟩:=x;obtain⟨T,rfl⟩:∃T:Nat,time=T:=⟨time.toNat,by simp only at b8;omega⟩;obtain⟨S,rfl⟩:∃S:Nat,slow=S:=⟨slow.toNat,by simp only at b6;omega⟩;have b1:=hu.fin;simp only at a1 b0 d6 d7 b1;have HP:=hI a1;have d3:=hI b0;have HM:=hI hm;have d0:=hI hm.ok;have d1:nw<=9223372036854775807:=by have h1:=a1.2.1;have h2:=a1.2.2.1;unfold maxLen at h2;omega
 have a4:ps.length=nw:=by have:=a1.1;simpa using this
 have HL:=hI a4;clear a1 b0 hu h1 hm b8 b6 a4;have kb:(w.alloc (.cells #[.int .i64 law, .slice Aw nw cw, .int .i64 (T:Int), .int .i64 (S:Int), .int .i64 fin] 85)).heap[w.heap.size]? =some (.cells #[.int .i64 law, .slice Aw nw cw, .int .i64 (T:Int), .int .i64 (S:Int), .int .i64 fin] 85 (0,0)):=hpt;have kB:Below w.heap.size w (w.alloc (.cells #[.int .i64 law, .slice Aw nw cw, .int .i64 (T:Int), .int .i64 (S:Int), .int .i64 fin] 85)):=bel;go_enter Tryz.func80,Tryz.ntmps80;go_wp2_with fail;obtain⟨f,hf⟩:∃f:Int->Option Nat,f=fun b=>F8 n rs b.toNat a:=⟨_,rfl⟩
 have HF:=hI hf;clear hf;obtain⟨B0,b2⟩:∃B0,B0=w.heap.size:=⟨_,rfl⟩;rw[←b2]at kb ⊢;have b7:=hI kb;have b5:=hI kB;have f8:w.heap.size<=B0:=Nat.le_of_eq b2.symm;generalize w.alloc (.cells #[.int .i64 law, .slice Aw nw cw, .int .i64 (T:Int), .int .i64 (S:Int), .int .i64 fin] 85)=W0 at*;clear b2 kb kB
 go_loopw [7,8] (fun s7 i wr=>∃k:Nat,k<=nw/\i= .int .i64 (k:Int)/\s7= .int .i64 (Bn (Kl ((ps.take k).map f)))/\Hid (wr.heap[B0]? =some (.cells #[.int .i64 law, .slice Aw nw cw, .int .i64 (T:Int), .int .i64 (S:Int), .int .i64 fin] 85 (0,0)))/\Hid (Below w.heap.size w wr)) (fun _ i _=>nw-(intOf i).toNat)
 case atStart=>exact⟨0,Nat.zero_le _,rfl,by simp[Kl,Bn],b7.out,b5.out⟩
 case round=>
  obtain⟨k,hk,rfl,rfl,HK,HB⟩:=hrel;clear b7 b5;obtain⟨o0,a3⟩:∃o0,o0=Kl ((ps.take k).map f):=⟨_,rfl⟩;rw[←a3];have c1:=Ad (j:=1) HK.out rfl;by_cases hlt:k<nw
  ·have f2:(k:Int)<(nw:Int):=by omega
   obtain⟨pb,po,v,hA,b9,hv,f0⟩:=(HP.out.below HB.out rr:Az wr Aw nw cw 1 (ps.map (Value.int .i64))).at1 hlt;subst hA;obtain⟨p,hp⟩:∃p,ps[k]? =some p:=⟨ps[k]'(by rw[HL.out];exact hlt),List.getElem?_eq_getElem _⟩;obtain rfl:v= .int .i64 p:=by rw[List.getElem?_map,hp]at hv;simpa using hv.symm
   have a9:=d3.out p (List.mem_of_getElem? hp);have d2:Hid (ps.take (k+1)=ps.take k++[p]):=Bd ps k p hp;obtain⟨p,rfl⟩:∃p':Nat,p=p':=⟨p.toNat,by omega⟩;have d9:=hI a3;clear hv hp a3;go_wp2_with fail;refine(Ad9 b n rs p a wr (HM.out.below HB.out) (by omega) ha).mono ?_;obtain⟨o,ho⟩:∃o,o=F8 n rs p a:=⟨_,rfl⟩
   have a8:Hid (Kl ((ps.take (k+1)).map f)=N5 o0 o):=by
    show _=_;rw[d2.out,List.map_append,List.map_singleton,Ry,ho,d9.out,HF.out];rfl
   rw[←ho];rintro e w1 ⟨rfl,b3⟩;have a7:=hI (HB.out.trans (b3.mono HB.out.size));have a6:=hI ((b3.block B0 (lt_of_block HK.out)).trans HK.out);clear b3 HB HK ho f0 b9 c1 a9
   cases o with
   |none=>
    go_wp2_with fail
    go_roundw
    case rel=>exact⟨k+1,by omega,by simp,by rw[a8.out,Q8],a6.out,a7.out⟩
    case measure=>simp[intOf];omega
   |some d=>
    cases o0 with
    |none=>
     simp only[Bn,Option.getD_some,Option.isSome_some];go_wp2_with fail
     go_roundw
     case rel=>exact⟨k+1,by omega,by simp,by rw[a8.out];rfl,a6.out,a7.out⟩
     case measure=>simp[intOf];omega
    |some e0=>
     simp only[Bn,Option.getD_some,Option.isSome_some];have f1:¬(e0:Int)<0:=by omega
     by_cases hde:d<e0
     ·have b4:(d:Int)<(e0:Int):=by omega
      go_wp2_with fail
      go_roundw
      case rel=>exact⟨k+1,by omega,by simp,by rw[a8.out,Sp,if_pos hde];rfl,a6.out,a7.out⟩
      case measure=>simp[intOf];omega
     ·have b4:¬(d:Int)<(e0:Int):=by omega
      go_wp2_with fail
      go_roundw
      case rel=>exact⟨k+1,by omega,by simp,by rw[a8.out,Sp,if_neg hde];rfl,a6.out,a7.out⟩
      case measure=>simp[intOf];omega
  ·obtain rfl:k=nw:=by omega
   have HN:Hid (Gd n rs ⟨law,ps,T,S,fin⟩ a=Gf o0 T S fin):=by
    show _=_;unfold Gd Ai9;rw[←Ait d0.out,a3,List.take_of_length_le (by rw[HL.out];exact rr),HF.out];rfl
   have c2:=Ad (j:=2) HK.out rfl;have c3:=Ad (j:=3) HK.out rfl;have c4:=Ad (j:=4) HK.out rfl;clear a3
   cases o0 with
   |none=>
    simp only[Bn];go_wp2;go_ret;exact⟨by rw[HN.out];rfl,HB.out⟩
   |some d=>
    simp only[Bn];have f1:¬(d:Int)<0:=by omega
    by_cases hS:S=0
    ·subst hS;have a0:¬9223372036854775807<T+0*d:=by omega
     have d8:(0:Int)*(d:Int)=0:=Int.zero_mul _;have HN:Hid (Gd n rs ⟨law,ps,T,0,fin⟩ a=Gf (some d) T 0 fin):=HN.out
     have HV:Hid (Gf (some d) T 0 fin=if fin<=(T:Int)then none else some T):=by
      show(if 9223372036854775807<T+0*d then none else if fin<=((T+0*d:Nat):Int)then none else some (T+0*d))=_;rw[if_neg a0,Nat.zero_mul,Nat.add_zero]
     clear a0;by_cases hfi:fin<=(T:Int)
     ·go_wp2;go_ret;exact⟨by rw[HN.out,HV.out,if_pos hfi];rfl,HB.out⟩
     ·go_wp2;go_ret;exact⟨by rw[HN.out,HV.out,if_neg (by omega)];simp[Bn],HB.out⟩
    ·have f5:(0:Int)<(S:Int):=by omega
     have f4:¬(S:Int)=0:=by omega
     obtain⟨q,hq⟩:∃q:Nat,q=(9223372036854775807-T)/S:=⟨_,rfl⟩
     have d4:(9223372036854775807-(T:Int))/(S:Int)=(q:Int):=by
      rw[hq,show(9223372036854775807-(T:Int))=((9223372036854775807-T:Nat):Int)by omega];rfl
     have f3:Int.tdiv (9223372036854775807-(T:Int)) (S:Int)=(q:Int):=by rw[Int.tdiv_eq_ediv_of_nonneg (by omega)];exact d4
     have f9:q<=9223372036854775807:=by rw[hq];exact Nat.le_trans (Nat.div_le_self _ _) (Nat.sub_le _ _)
     have a5:(q<d)↔9223372036854775807<T+S*d:=by
      have:=Ai8 (T:=T) (S:=S) (d:=d) (M:=9223372036854775807) (by omega)
      rw[hq,←this];exact⟨fun h=>⟨by omega,h⟩,fun h=>h.2⟩
     clear hq;by_cases a0:9223372036854775807<T+S*d
     ·have d5:(q:Int)<(d:Int):=by have:=a5.2 a0;omega
      have HV:Hid (Gf (some d) T S fin=none):=Ace a0;clear a0 a5;go_wp2;go_ret;exact⟨by rw[HN.out,HV.out];rfl,HB.out⟩
     ·have d5:¬(q:Int)<(d:Int):=by intro h;exact a0 (a5.1 (by omega))
      clear a5;obtain⟨sd,a2⟩:∃sd,sd=S*d:=⟨_,rfl⟩;have f6:(S:Int)*(d:Int)=(sd:Int):=by rw[a2];simp
      rw[←a2]at a0;have f7:T+sd<=9223372036854775807:=by omega
      have HV:Hid (Gf (some d) T S fin=if fin<=(T:Int)+(sd:Int)then none else some (T+sd)):=by
       show(if 9223372036854775807<T+S*d then none else if fin<=((T+S*d:Nat):Int)then none else some (T+S*d))=_;rw[←a2,if_neg a0];simp
      clear a2 a0;by_cases hfi:fin<=(T:Int)+(sd:Int)
      ·go_wp2;go_ret;exact⟨by rw[HN.out,HV.out,if_pos hfi];rfl,HB.out⟩
      ·go_wp2;go_ret;exact⟨by rw[HN.out,HV.out,if_neg (by omega)];simp[Bn],HB.out⟩
end Go.Proofs.YtaglfmlgbcmakaaGreatDoor
