/-
  ablautref38: before, line.
-/
import Derived.Test.YtaglfmlgbcmakaaGreatDoorH08
set_option linter.all false
set_option maxRecDepth 100000
set_option maxHeartbeats 4000000
namespace Go.Proofs.YtaglfmlgbcmakaaGreatDoor
open Go.RowKit Go.Shelf
theorem Abt {n:Nat}{rs:List Bk}{ys:List Cs}{i a:Nat}{x:Cs}(h:ys[i]? =some x):tAt n rs (Aj ys) a i=Gd n rs x.d a:=by
 unfold tAt;rw[Aj,List.getElem?_map,h];rfl
theorem Zr (b n:Nat)(rs:List Bk)(A:Option Addr)(m c:Nat)(ys:List Cs)(i j a:Nat)(w:World)(hm:El w b n rs)(hy:Cm w A m c ys)(hone:∀y∈ys,Em n y.d=0)(hi:i<m)(hj:j<m)(ha:a<n):
  Calls Tryz.prog 81 #[.pointer (some ⟨b,0,none⟩), .slice A m c, .int .i64 (i:Int), .int .i64 (j:Int), .int .i64 (a:Int)] w fun e w'=>e= .returned (.bool (C0 (tAt n rs (Aj ys) a) i j))/\Below w.heap.size w w':=by
 have d2:=hy.max;have d1:(i:Int)<(m:Int):=by omega
 have d3:(j:Int)<(m:Int):=by omega
 obtain⟨x,hx⟩:=hy.get hi;obtain⟨yb,yo,hA,a2,a7,k0,k1,k2,k3,k4⟩:=hy.at_ hx;obtain⟨y,a5⟩:=hy.get hj;obtain⟨yb',yo',b2, -,a4,l0,l1,l2,l3,l4⟩:=hy.at_ a5;subst hA;simp only[Option.some.injEq,Addr.mk.injEq,and_true]at b2;obtain⟨rfl,rfl⟩:=b2;have b6:=hone x (List.mem_of_getElem? hx);have b5:=hone y (List.mem_of_getElem? a5);have a6:Hid (tAt n rs (Aj ys) a i=Gd n rs x.d a):=Abt hx;have b4:Hid (tAt n rs (Aj ys) a j=Gd n rs y.d a):=Abt a5;have HX:=hI a7;have HY:=hI a4;have b8:=hI b6;have b7:=hI b5;have HM:=hI hm;clear hx a5 a7 a4 b6 b5 hone hm hy;obtain⟨⟨law,ps,T,S,fin⟩,Aw,nw,cw⟩:=x;obtain⟨⟨law',ps',T',S',fin'⟩,Aw',nw',cw'⟩:=y;simp only at k0 k1 k2 k3 k4 l0 l1 l2 l3 l4;go_enter Tryz.func81,Tryz.ntmps81;go_wp2_with fail;refine Bg (fun W'=>(W'.cell? ⟨yb,yo+i*5,none⟩=some (.int .i64 law)/\W'.cell? ⟨yb,yo+i*5+1,none⟩=some (.slice Aw nw cw)/\W'.cell? ⟨yb,yo+i*5+2,none⟩=some (.int .i64 T)/\W'.cell? ⟨yb,yo+i*5+3,none⟩=some (.int .i64 S)/\W'.cell? ⟨yb,yo+i*5+4,none⟩=some (.int .i64 fin))/\(W'.cell? ⟨yb,yo+j*5,none⟩=some (.int .i64 law')/\W'.cell? ⟨yb,yo+j*5+1,none⟩=some (.slice Aw' nw' cw')/\W'.cell? ⟨yb,yo+j*5+2,none⟩=some (.int .i64 T')/\W'.cell? ⟨yb,yo+j*5+3,none⟩=some (.int .i64 S')/\W'.cell? ⟨yb,yo+j*5+4,none⟩=some (.int .i64 fin'))) (by kernel_rfl) ⟨⟨k0,k1,k2,k3,k4⟩,⟨l0,l1,l2,l3,l4⟩⟩ (fun hHeld=> ?_)
 (refine' Ae 0 rfl ?_;(try simp only[Act.put,nY,nX]));(refine' Ae 1 rfl ?_;(try simp only[Act.put,nY,nX]));(refine' Ae 2 rfl ?_;(try simp only[Act.put,nY,nX]));(refine' Ae 3 rfl ?_;(try simp only[Act.put,nY,nX]));(refine' Ae 4 rfl ?_;(try simp only[Act.put,nY,nX]));(refine' Ae 5 rfl ?_;(try simp only[Act.put,nY,nX]))
 (refine' Ae 7 rfl ?_;(try simp only[Act.put,nY,nX]));(refine' Ae 8 rfl ?_;(try simp only[Act.put,nY,nX]));(refine' Ae 9 rfl ?_;(try simp only[Act.put,nY,nX]));(refine' Ae 10 rfl ?_;(try simp only[Act.put,nY,nX]));(refine' Ae 11 rfl ?_;(try simp only[Act.put,nY,nX]));(refine' Ae 12 rfl ?_;(try simp only[Act.put,nY,nX]))
 clear hHeld
 (refine Anv 6 rfl (fun K' hK'=> ?_);simp only[nY];go_simp)
 have a3:Below w.heap.size w w.drew:=(Below.refl w.heap.size w).drew;refine(Lq b n rs ⟨⟨law,ps,T,S,fin⟩,Aw,nw,cw⟩ a _ (HM.out.below a3) (HX.out.below a3) b8.out ha).mono ?_;obtain⟨ox,a9⟩:∃ox,ox=Gd n rs ⟨law,ps,T,S,fin⟩ a:=⟨_,rfl⟩;rw[←a9]at a6 ⊢;rintro e w6 ⟨rfl,b0⟩;have a0:=a3.trans (b0.mono a3.size);refine hK' _ _ ⟨.inr ⟨⟨(a0.cell (p:=⟨yb,_,none⟩) a2).trans k0,(a0.cell (p:=⟨yb,_,none⟩) a2).trans k1,(a0.cell (p:=⟨yb,_,none⟩) a2).trans k2,(a0.cell (p:=⟨yb,_,none⟩) a2).trans k3,(a0.cell (p:=⟨yb,_,none⟩) a2).trans k4⟩,⟨(a0.cell (p:=⟨yb,_,none⟩) a2).trans l0,(a0.cell (p:=⟨yb,_,none⟩) a2).trans l1,(a0.cell (p:=⟨yb,_,none⟩) a2).trans l2,(a0.cell (p:=⟨yb,_,none⟩) a2).trans l3,(a0.cell (p:=⟨yb,_,none⟩) a2).trans l4⟩⟩,fun _=> ?_⟩
 clear hK' K' a9
 (try simp only[Act.put,nY,nX])
 (refine Anv 13 rfl (fun K' hK'=> ?_);simp only[nY];go_simp)
 refine(Lq b n rs ⟨⟨law',ps',T',S',fin'⟩,Aw',nw',cw'⟩ a _ (HM.out.below a0) (HY.out.below a0) b7.out ha).mono ?_;obtain⟨oy,b1⟩:∃oy,oy=Gd n rs ⟨law',ps',T',S',fin'⟩ a:=⟨_,rfl⟩;rw[←b1]at b4 ⊢;rintro e w7 ⟨rfl,b3⟩;have a1:=a0.trans (b3.mono a0.size);have a8:(w7.cell? ⟨yb,yo+i*5,none⟩=some (.int .i64 law)/\w7.cell? ⟨yb,yo+i*5+1,none⟩=some (.slice Aw nw cw)/\w7.cell? ⟨yb,yo+i*5+2,none⟩=some (.int .i64 T)/\w7.cell? ⟨yb,yo+i*5+3,none⟩=some (.int .i64 S)/\w7.cell? ⟨yb,yo+i*5+4,none⟩=some (.int .i64 fin))/\(w7.cell? ⟨yb,yo+j*5,none⟩=some (.int .i64 law')/\w7.cell? ⟨yb,yo+j*5+1,none⟩=some (.slice Aw' nw' cw')/\w7.cell? ⟨yb,yo+j*5+2,none⟩=some (.int .i64 T')/\w7.cell? ⟨yb,yo+j*5+3,none⟩=some (.int .i64 S')/\w7.cell? ⟨yb,yo+j*5+4,none⟩=some (.int .i64 fin')):=⟨⟨(a1.cell (p:=⟨yb,_,none⟩) a2).trans k0,(a1.cell (p:=⟨yb,_,none⟩) a2).trans k1,(a1.cell (p:=⟨yb,_,none⟩) a2).trans k2,(a1.cell (p:=⟨yb,_,none⟩) a2).trans k3,(a1.cell (p:=⟨yb,_,none⟩) a2).trans k4⟩,⟨(a1.cell (p:=⟨yb,_,none⟩) a2).trans l0,(a1.cell (p:=⟨yb,_,none⟩) a2).trans l1,(a1.cell (p:=⟨yb,_,none⟩) a2).trans l2,(a1.cell (p:=⟨yb,_,none⟩) a2).trans l3,(a1.cell (p:=⟨yb,_,none⟩) a2).trans l4⟩⟩;refine hK' _ _ ⟨.inr a8,fun _=> ?_⟩
 have HB:=hI a1;clear hK' K' b1 b3 a1 b0 a0 a3 k0 k1 k2 k3 k4 l0 l1 l2 l3 l4
 (try simp only[Act.put,nY,nX])
 (refine' Ae 14 rfl ?_;(try simp only[Act.put,nY,nX]))
 (refine Anv 15 rfl (fun K' hK'=> ?_);simp only[nY];go_simp)
 refine hK' _ _ ⟨.inl (by kernel_rfl),fun _=>Bf (by kernel_rfl) ?_ _⟩
 clear hK' K' a8;have HL:Hid (C0 (tAt n rs (Aj ys) a) i j=ltO ox oy i j):=by show _=_;rw[Amw,a6.out,b4.out]
 cases ox with
 |none=>
  cases oy with
  |none=>
   simp only[Bn];go_wp2;go_ret;exact⟨by rw[HL.out];simp[ltO]<;>omega,HB.out⟩
  |some y=>
   simp only[Bn];have b9:(0:Int)<=(y:Int):=by omega
   go_wp2;go_ret;exact⟨by rw[HL.out];simp[ltO]<;>omega,HB.out⟩
 |some x=>
  have d4:(0:Int)<=(x:Int):=by omega
  cases oy with
  |none=>
   simp only[Bn];go_wp2;go_ret;exact⟨by rw[HL.out];simp[ltO]<;>omega,HB.out⟩
  |some y=>
   simp only[Bn];have b9:(0:Int)<=(y:Int):=by omega
   by_cases hxy:x=y
   ·subst hxy;go_wp2;go_ret;exact⟨by rw[HL.out];simp[ltO]<;>omega,HB.out⟩
   ·have d0:((x:Int) !=(y:Int))=true:=by simp;omega
    go_wp2;go_ret;exact⟨by rw[HL.out];simp[ltO]<;>omega,HB.out⟩
theorem Aee (b n:Nat)(rs:List Bk)(A:Option Addr)(m c:Nat)(ys:List Cs)(a:Nat)(now:Int)(w:World)(hm:El w b n rs)(hy:Cm w A m c ys)(hone:∀y∈ys,Em n y.d=0)(ha:a<n)(hm19:m<=19):
  Calls Tryz.prog 76 #[.pointer (some ⟨b,0,none⟩), .slice A m c, .int .i64 (a:Int), .int .i64 now] w fun e w'=>∃A' k c',e= .returned (.slice A' k c')/\Ci w' A' k c' (Jd n rs (Aj ys) a now)/\Below w.heap.size w w':=by
 have i4:=hy.max;have HM:=hI hm;have HY:=hI hy;have b0:=hI hone;have g1:Hid ((Aj ys).length=m):=by show _=_;rw[Aj,List.length_map];exact hy.len
 clear hm hy hone;obtain⟨lt,b3⟩:∃lt,lt=C0 (tAt n rs (Aj ys) a):=⟨_,rfl⟩;have g2:=hI b3;have i2:Hid (J7 lt):=by show J7 lt;rw[b3];exact Cr _
 obtain⟨p,hp⟩:∃p:Nat->Bool,p=fun i=>Gt now (tAt n rs (Aj ys) a i):=⟨_,rfl⟩
 have HP:=hI hp;obtain⟨lw,d0⟩:∃lw,lw=Rw (Aj ys):=⟨_,rfl⟩;have g5:=hI d0
 have f6:Hid (Jd n rs (Aj ys) a now=(Gp lt p m m).map lw):=by
  show _=_;rw[Aey,b3,hp,d0];unfold Jd Lx;rw[g1.out]
 clear b3 hp d0;obtain⟨B,hB⟩:∃B,B=w.heap.size:=⟨_,rfl⟩;have i1:w.heap.size<=B:=by omega
 have d4:Hid (D9 w B (.slice none 0 0) []):=D9.nil (by omega);clear hB;go_enter Tryz.func76,Tryz.ntmps76;go_wp2_with fail
 go_loopw [9,10] (fun s9 s10 wr=>∃N:Nat,N<=m/\s10= .int .i64 (N:Int)/\Hid (D9 wr B s9 ((Gp lt p m N).map lw))/\Hid (Below w.heap.size w wr)) (fun _ s10 _=>m-(intOf s10).toNat)
 case atStart=>exact⟨0,Nat.zero_le _,rfl,d4.out,Below.refl _ _⟩
 case round=>
  obtain⟨N,hN,rfl,a9,d1⟩:=hrel;clear d4;by_cases hNm:N<m
  ·have g0:(N:Int)<(m:Int):=by omega
   obtain⟨q,hq⟩:∃q:Nat->Bool,q=fun i=>decide (Fq lt m i=N) && p i:=⟨_,rfl⟩
   have HQ:=hI hq;have g7:Hid (Gp lt p m (N+1)=Gp lt p m N++(List.range m).filter q):=by show _=_;rw[To,hq]
   have g4:Hid (∀i,i<=m->((Gp lt p m N++(List.range i).filter q).map lw).length<=400):=fun i hi=>by
    have h1:=Acd lt p m N i hi;rw[←hq]at h1;have h2:(N+1)*m<=19*19:=Nat.mul_le_mul (by omega) hm19;rw[List.length_map];omega
   have d7:Hid (D9 wr B u9 ((Gp lt p m N++(List.range 0).filter q).map lw)):=by show D9 _ _ _ _;rw[List.range_zero,List.filter_nil,List.append_nil];exact a9.out
   clear hq a9;go_wp2_with fail
   go_loopw [9,11] (fun s9 s11 wr=>∃i:Nat,i<=m/\s11= .int .i64 (i:Int)/\Hid (D9 wr B s9 ((Gp lt p m N++(List.range i).filter q).map lw))/\Hid (Below w.heap.size w wr)) (fun _ s11 _=>m-(intOf s11).toNat)
   case atStart=>exact⟨0,Nat.zero_le _,rfl,d7.out,d1.out⟩
   case round=>
    obtain⟨i,hi,rfl,b5,b7⟩:=hrel;clear d7 d1;by_cases him:i<m
    ·have f9:(i:Int)<(m:Int):=by omega
     obtain⟨L,hL⟩:∃L,L=(Gp lt p m N++(List.range i).filter q).map lw:=⟨_,rfl⟩;have i3:L.length<=400:=by rw[hL];exact g4.out i hi
     have f0:Hid ((Gp lt p m N++(List.range (i+1)).filter q).map lw=if q i=true then L++[lw i]else L):=by
      show _=_;rw[Px,←List.append_assoc,List.map_append,←hL];by_cases h:q i=true
      ·rw[if_pos h,if_pos h];rfl
      ·rw[if_neg h,if_neg h];simp
     rw[←hL]at b5
     have f7:Hid (∀k,k<=m->((List.range k).filter fun k=>lt k i).length<=k):=fun k hk=>by
      have:=List.length_filter_le (fun k=>lt k i) (List.range k)
      rwa[List.length_range]at this
     clear hL;go_wp2_with fail
     go_loopw [12,13] (fun s12 s13 wr=>∃k:Nat,k<=m/\s13= .int .i64 (k:Int)/\s12= .int .i64 ((((List.range k).filter fun k=>lt k i).length:Nat):Int)/\Hid (D9 wr B u9 L)/\Hid (Below w.heap.size w wr)) (fun _ s13 _=>m-(intOf s13).toNat)
     case atStart=>exact⟨0,Nat.zero_le _,rfl,rfl,b5.out,b7.out⟩
     case round=>
      obtain⟨k,hk,rfl,rfl,a7,a1⟩:=hrel;clear b5 b7;obtain⟨ah,a8⟩:∃ah,ah=((List.range k).filter fun k=>lt k i).length:=⟨_,rfl⟩;rw[←a8];have i6:ah<=k:=by rw[a8];exact f7.out k hk
      have a3:Hid (((List.range (k+1)).filter fun k=>lt k i).length=if lt k i=true then ah+1 else ah):=by
       show _=_;rw[Px,List.length_append,←a8];by_cases h:lt k i=true
       ·rw[if_pos h,if_pos h];rfl
       ·rw[if_neg h,if_neg h];rfl
      by_cases hkm:k<m
      ·have f8:(k:Int)<(m:Int):=by omega
       clear a8;by_cases hki:k=i
       ·subst hki;have f5:((k:Int) !=(k:Int))=false:=by simp
        have HF:Hid (lt k k=false):=i2.out.irr k;go_wp2_with fail
        go_roundw
        case rel=>first|exact⟨k+1,by omega,by go_num,by rw[a3.out,if_neg (by rw[HF.out];simp)],a7.out,a1.out⟩|((repeat apply Exists.intro);exact⟨⟨k+1,by omega,by go_num,by rw[a3.out,if_neg (by rw[HF.out];simp)],a7.out,a1.out⟩,rfl⟩)
        case measure=>simp[intOf];omega
       ·have f5:((k:Int) !=(i:Int))=true:=by simp;omega
        go_wp2_with fail;refine(Zr b n rs A m c ys k i a wr (HM.out.below a1.out) (HY.out.below a1.out) b0.out hkm him ha).mono ?_;rw[←g2.out];obtain⟨d,hd⟩:∃d,d=lt k i:=⟨_,rfl⟩;rw[←hd]at a3 ⊢;rintro e w5 ⟨rfl,a6⟩;have a2:=hI (a7.out.below a6);have a0:=hI (a1.out.trans (a6.mono a1.out.size));clear a6 a7 a1 hd
        cases d with
        |false=>
         go_wp2_with fail
         go_roundw
         case rel=>first|exact⟨k+1,by omega,by go_num,by rw[a3.out];simp,a2.out,a0.out⟩|((repeat apply Exists.intro);exact⟨⟨k+1,by omega,by go_num,by rw[a3.out];simp,a2.out,a0.out⟩,rfl⟩)
         case measure=>simp[intOf];omega
        |true=>
         go_wp2_with fail
         go_roundw
         case rel=>first|exact⟨k+1,by omega,by go_num,by rw[a3.out];simp,a2.out,a0.out⟩|((repeat apply Exists.intro);exact⟨⟨k+1,by omega,by go_num,by rw[a3.out];simp,a2.out,a0.out⟩,rfl⟩)
         case measure=>simp[intOf];omega
      ·obtain rfl:k=m:=by omega
       have f4:Hid (ah=Fq lt k i):=by show _=_;rw[a8];rfl
       clear a8 a3;obtain⟨x,hx⟩:=(HY.out.below a1.out).get him;obtain⟨yb,yo,hA,d5,f2,k0,k1,k2,k3,k4⟩:=(HY.out.below a1.out).at_ hx;have f3:=b0.out x (List.mem_of_getElem? hx);have d8:Hid (tAt n rs (Aj ys) a i=Gd n rs x.d a):=Abt hx;have g6:Hid (lw i=x.d.law):=by show _=_;rw[g5.out];unfold Rw;rw[Aj,List.getElem?_map,hx];rfl
       have HX:=hI f2;have i0:=hI f3;subst hA;clear hx f2 f3;obtain⟨⟨law,ps,T,S,fin⟩,Aw,nw,cw⟩:=x;simp only at k0 k1 k2 k3 k4;go_wp2_with fail;refine(Lq b n rs ⟨⟨law,ps,T,S,fin⟩,Aw,nw,cw⟩ a wr (HM.out.below a1.out) HX.out i0.out ha).mono ?_;obtain⟨t,ht⟩:∃t,t=Gd n rs ⟨law,ps,T,S,fin⟩ a:=⟨_,rfl⟩;rw[←ht]at d8 ⊢;rintro e w5 ⟨rfl,a6⟩;have k0':=(a6.cell (p:=⟨yb,_,none⟩) d5).trans k0;have a2:=hI (a7.out.below a6);have a0:=hI (a1.out.trans (a6.mono a1.out.size));have b9:Hid (q i=(decide (ah=N) && Gt now t)):=by show _=_;rw[HQ.out];show(decide (Fq lt k i=N) && p i)=_;rw[HP.out];show(decide (Fq lt k i=N) && Gt now (tAt n rs (Aj ys) a i))=_;rw[d8.out,f4.out]
       clear a6 a7 a1 ht k0 k1 k2 k3 k4 d5
       have b4:Hid (q i=false->D9 w5 B u9 ((Gp lt p k N++(List.range (i+1)).filter q).map lw)):=fun h=>by
        rw[f0.out,if_neg (by rw[h];simp)];exact a2.out
       by_cases haN:ah=N
       ·subst haN
        cases t with
        |none=>
         simp only[Bn];have a5:=b4.out (by rw[b9.out];simp[Gt]);have a4:=hI a5;clear a5;go_wp2_with fail
         go_roundw
         case rel=>first|exact⟨i+1,by omega,by go_num,a4.out,a0.out⟩|((repeat apply Exists.intro);exact⟨⟨i+1,by omega,by go_num,a4.out,a0.out⟩,rfl⟩)
         case measure=>simp[intOf];omega
        |some t=>
         simp only[Bn];have i5:(0:Int)<=(t:Int):=by omega
         by_cases htn:(t:Int)<=now
         ·have g9:Hid (q i=true):=by show _=_;rw[b9.out];simp[Gt,htn]
          obtain⟨A8,c8,b8⟩:=a2.out.form;subst b8;have d2:=a2.out.below ((Below.refl _ w5).alloc rr (.cells #[.int .i64 law] 3));have b6:=hI d2;have g8:=d2.2;have f1:Hid (Below w.heap.size w (w5.alloc (.cells #[.int .i64 law] 3))):=a0.out.alloc a0.out.size _;clear d2 a2 a0 b4;go_wp2_with(at_builtin;refine Eu rfl (.tmp 65) (.tmp 71) rfl B (.slice A8 L.length c8) L.length (L.map (Value.int .i64)) rfl b6.out.1 ⟨w5.heap.size,0,none⟩ 1 (.int .i64 law) rfl (cell_one_new _ _ _) rfl (by omega) g8 ?hc)
          case hc=>
           intro v' w6 b2 hg _;have d9:=hI (b6.out.push b2 hg);have d6:=hI (b6.out.grow f1.out i1 hg)
           have b1:Hid (D9 w6 B v' ((Gp lt p k ah++(List.range (i+1)).filter q).map lw)):=by
            show D9 _ _ _ _;rw[f0.out,if_pos g9.out,g6.out];exact d9.out
           clear b2 hg d9 b6 f1;go_wp2_with fail
           go_roundw
           case rel=>first|exact⟨i+1,by omega,by go_num,b1.out,d6.out⟩|((repeat apply Exists.intro);exact⟨⟨i+1,by omega,by go_num,b1.out,d6.out⟩,rfl⟩)
           case measure=>simp[intOf];omega
         ·have a5:=b4.out (by rw[b9.out];simp[Gt,htn]);have a4:=hI a5;clear a5;go_wp2_with fail
          go_roundw
          case rel=>first|exact⟨i+1,by omega,by go_num,a4.out,a0.out⟩|((repeat apply Exists.intro);exact⟨⟨i+1,by omega,by go_num,a4.out,a0.out⟩,rfl⟩)
          case measure=>simp[intOf];omega
       ·have a5:=b4.out (by rw[b9.out];simp[haN]);have a4:=hI a5;have g3:((ah:Int)==(N:Int))=false:=by simp;omega
        clear a5;go_wp2_with fail
        go_roundw
        case rel=>first|exact⟨i+1,by omega,by go_num,a4.out,a0.out⟩|((repeat apply Exists.intro);exact⟨⟨i+1,by omega,by go_num,a4.out,a0.out⟩,rfl⟩)
        case measure=>simp[intOf];omega
    ·obtain rfl:i=m:=by omega
     have b1:Hid (D9 wr B u9 ((Gp lt p i (N+1)).map lw)):=by show D9 _ _ _ _;rw[g7.out];exact b5.out
     go_wp2_with fail
     go_roundw
     case rel=>first|exact⟨N+1,by omega,by go_num,b1.out,b7.out⟩|((repeat apply Exists.intro);exact⟨⟨N+1,by omega,by go_num,b1.out,b7.out⟩,rfl⟩)
     case measure=>simp[intOf];omega
  ·obtain rfl:N=m:=by omega
   obtain⟨A8,c8,b8⟩:=a9.out.form
   have d3:Hid (Ci wr A8 ((Gp lt p N N).map lw).length c8 (Jd n rs (Aj ys) a now)):=by
    show Ci _ _ _ _ _;rw[f6.out];have h1:=a9.out.1;rw[b8]at h1;exact Az.of_own h1 (by decide)
   subst b8;clear a9;go_wp2;go_ret;exact⟨_,_,_,rfl,d3.out,d1.out⟩
end Go.Proofs.YtaglfmlgbcmakaaGreatDoor
