/-
  slices.Contains over numbers; which waves are allowed: wave.Wave's check, wave.Check.
  wave.Arrive, wave.Relics.
  wave.Relics.
  cmp.Compare over int, cmp.Or; which wave comes first: arrival's rank and by; wave.Crossed.
  wave.Crossed.
  The closures of wave.line and wave.arrived; slices.SortStableFunc over few waves.
  slices.SortStableFunc over at most 19 waves that have arrived.
  slices.SortStableFunc over at most 19 waves that have arrived: the whole call.
-/
import Derived.Shelf.SlSortCmp.Insertion
import Derived.Test.YtaglfmlgbcmakaaGreatDoorH02
set_option linter.all false
set_option maxRecDepth 100000
set_option maxHeartbeats 4000000
namespace Go.Proofs.YtaglfmlgbcmakaaGreatDoor
open Go.RowKit Go.Shelf
theorem Amz (A:Option Addr)(n c:Nat)(xs:List Int)(v:Int)(w:World)(hx:Ci w A n c xs):
  Calls Tryz.prog 143 #[.slice A n c, .int .i64 v] w fun e w'=>∃i:Int,e= .returned (.int .i64 i)/\decide (0<=i)=xs.any (fun b=>decide (b=v))/\Below w.heap.size w w':=by
 have a2:n<=9223372036854775807:=by have h1:=hx.2.1;have h2:=hx.2.2.1;unfold maxLen at h2;omega
 have a0:xs.length=n:=by have:=hx.1;simpa using this
 have HX:=hI hx;have HL:=hI a0;clear hx a0;go_enter Tryz.func143,Tryz.ntmps143;go_wp2
 go_loopw [8] (fun i wr=>∃k:Nat,k<=n/\i= .int .i64 (k:Int)/\Hid ((xs.take k).any (fun b=>decide (b=v))=false)/\Hid (Below w.heap.size w wr)) (fun i _=>n-(intOf i).toNat)
 case atStart=>exact⟨0,Nat.zero_le _,rfl,by simp[Hid],Below.refl _ _⟩
 case round=>
  obtain⟨k,hk,rfl,HN,HB⟩:=hrel;by_cases hlt:k<n
  ·have a5:(k:Int)<(n:Int):=by omega
   obtain⟨pb,po,u,hA,a1,hv,a6⟩:=(HX.out.below HB.out rr:Az wr A n c 1 (xs.map (Value.int .i64))).at1 hlt;subst hA;obtain⟨p,hp⟩:∃p,xs[k]? =some p:=⟨xs[k]'(by rw[HL.out];exact hlt),List.getElem?_eq_getElem _⟩;obtain rfl:u= .int .i64 p:=by rw[List.getElem?_map,hp]at hv;simpa using hv.symm
   have a4:Hid (xs.take (k+1)=xs.take k++[p]):=Bd xs k p hp;have a3:=hI (List.mem_of_getElem? hp);clear hv hp a1;by_cases he:v=p
   ·subst he;go_wp2;go_ret;refine⟨(k:Int),rfl, ?_,HB.out⟩;rw[decide_eq_true (by omega)];symm;rw[List.any_eq_true];exact⟨v,a3.out,by simp⟩
   ·have a7:(v==p)=false:=by simpa using he
    go_wp2
    go_roundw
    case rel=>exact⟨k+1,by omega,by simp,by
     show _=_;rw[a4.out,List.any_append,HN.out]
     have:¬p=v:=fun e=>he e.symm
     simp[this],HB.out⟩
    case measure=>simp[intOf];omega
  ·obtain rfl:k=n:=by omega
   go_wp2;go_ret;refine⟨-1,rfl, ?_,HB.out⟩;have h:=HN.out;rw[List.take_of_length_le (by rw[HL.out];exact rr)]at h;rw[h];rfl
theorem Am0 (A:Option Addr)(n c:Nat)(xs:List Int)(v:Int)(w:World)(hx:Ci w A n c xs):
  Calls Tryz.prog 105 #[.slice A n c, .int .i64 v] w fun e w'=>e= .returned (.bool (xs.any fun b=>decide (b=v)))/\Below w.heap.size w w':=by
 have HX:=hI hx;clear hx;go_enter Tryz.func105,Tryz.ntmps105;go_wp2_with fail;refine(Amz A n c xs v w HX.out).mono ?_;rintro e w1 ⟨i,rfl,hi,a0⟩;have HI:=hI hi;have HB:=hI a0;clear hi a0;go_wp2;go_ret;exact⟨by rw[←HI.out];rfl,HB.out⟩
theorem Ajd (b:Nat)(An:Option Addr)(n cn:Nat)(x:Cs)(w:World)(hc:w.cell? ⟨b,0,none⟩=some (.slice An n cn))(hbl:b<w.heap.size)(hx:Js w x):
  Calls Tryz.prog 61 #[Yt x, .pointer (some ⟨b,0,none⟩)] w fun e w'=>e= .returned (.int .i64 (Em n x.d))/\Below w.heap.size w w':=by
 obtain⟨a0,hu⟩:=hx;obtain⟨⟨law,ps,T,S,fin⟩,Aw,nw,cw⟩:=x;simp only at a0;have b8:nw<=9223372036854775807:=by have h1:=a0.2.1;have h2:=a0.2.2.1;unfold maxLen at h2;omega
 have a2:ps.length=nw:=by have:=a0.1;simpa using this
 have b7:nw<=cw:=a0.2.1;have HP:=hI a0;have HC:=hI hc;have HL:=hI a2;clear a0 hc a2 hu;have kb:(w.alloc (.cells #[.int .i64 law, .slice Aw nw cw, .int .i64 T, .int .i64 S, .int .i64 fin] 38)).heap[w.heap.size]? =some (.cells #[.int .i64 law, .slice Aw nw cw, .int .i64 T, .int .i64 S, .int .i64 fin] 38 (0,0)):=hpt;have kB:Below w.heap.size w (w.alloc (.cells #[.int .i64 law, .slice Aw nw cw, .int .i64 T, .int .i64 S, .int .i64 fin] 38)):=bel;go_enter Tryz.func61,Tryz.ntmps61;go_wp2_with fail;obtain⟨B0,a7⟩:∃B0,B0=w.heap.size:=⟨_,rfl⟩;rw[←a7]at kb ⊢;have b3:=hI kb;have b0:=hI kB;have d3:w.heap.size<=B0:=Nat.le_of_eq a7.symm;generalize w.alloc (.cells #[.int .i64 law, .slice Aw nw cw, .int .i64 T, .int .i64 S, .int .i64 fin] 38)=W0 at*;clear a7 kb kB
 go_loopw [5,6,10] (fun _ _ i wr=>∃k:Nat,k<=nw/\i= .int .i64 (k:Int)/\Hid (Gs n [] ps=Gs n (ps.take k) (ps.drop k))/\Hid (wr.heap[B0]? =some (.cells #[.int .i64 law, .slice Aw nw cw, .int .i64 T, .int .i64 S, .int .i64 fin] 38 (0,0)))/\Hid (Below w.heap.size w wr)) (fun _ _ i _=>nw-(intOf i).toNat)
 case atStart=>exact⟨0,Nat.zero_le _,rfl,rfl,b3.out,b0.out⟩
 case round=>
  obtain⟨k,hk,rfl,HE,HK,HB⟩:=hrel;clear b3 b0;have c1:=Ad (j:=1) HK.out rfl;by_cases hlt:k<nw
  ·have d1:(k:Int)<(nw:Int):=by omega
   obtain⟨pb,po,v,hA,b6,hv,b5⟩:=(HP.out.below HB.out rr:Az wr Aw nw cw 1 (ps.map (Value.int .i64))).at1 hlt;obtain⟨p,hp⟩:∃p,ps[k]? =some p:=⟨ps[k]'(by rw[HL.out];exact hlt),List.getElem?_eq_getElem _⟩;obtain rfl:v= .int .i64 p:=by rw[List.getElem?_map,hp]at hv;simpa using hv.symm
   have b4:ps.drop k=p::ps.drop (k+1):=by
    rw[List.drop_eq_getElem_cons (by rw[HL.out];exact hlt)];congr 1;exact(List.getElem?_eq_some_iff.1 hp).2
   have d0:Hid (ps.take (k+1)=ps.take k++[p]):=Bd ps k p hp
   have HS:Hid (Gs n (ps.take k) (ps.drop k)=if p<0\/(n:Int)<=p then 3 else if(ps.take k).any (fun b=>decide (b=p))then 6 else Gs n (ps.take (k+1)) (ps.drop (k+1))):=by
    show _=_;rw[b4,d0.out];rfl
   clear hv hp b4
   have a4:∀er:Int,er≠0->Gs n [] ps=er->Em n ⟨law,ps,T,S,fin⟩=er:=fun er h0 h=>by
    unfold Em;rw[if_pos (by rw[h];exact h0)];exact h
   have a1:=hI a4;clear a4;by_cases hp0:p<0
   ·subst hA;go_wp2;go_ret;exact⟨by rw[a1.out 3 (by decide) (by rw[HE.out,HS.out,if_pos (.inl hp0)])];rfl,HB.out⟩
   ·subst hA;go_wp2_with fail;refine(Lm b An n cn wr ((HB.out.cell (p:=⟨b,0,none⟩) hbl).trans HC.out)).mono ?_;rintro e w1 ⟨rfl,a6⟩;have a5:=hI ((a6.block B0 (lt_of_block HK.out)).trans HK.out);have c1':=Ad (j:=1) a5.out rfl;have a3:=hI (HB.out.trans (a6.mono HB.out.size));have a9:=(a6.cell (p:=⟨pb,po+k,none⟩) b6).trans b5;clear a6 HK HB c1 b5;by_cases hpn:(n:Int)<=p
    ·go_wp2;go_ret;exact⟨by rw[a1.out 3 (by decide) (by rw[HE.out,HS.out,if_pos (.inr hpn)])];rfl,a3.out⟩
    ·have d2:k<=cw:=by omega
     have b1:=hI (Az.take (HP.out.below a3.out rr) (k:=k) hk);go_wp2_with fail;refine(Am0 (some ⟨pb,po,none⟩) k cw (ps.take k) p w1 (by have:=b1.out;rw[Nat.mul_one,←List.map_take]at this;exact this)).mono ?_;rintro e w2 ⟨rfl,a8⟩;have b9:=hI ((a8.block B0 (lt_of_block a5.out)).trans a5.out);have b2:=hI (a3.out.trans (a8.mono a3.out.size));clear a8 a5 a3 c1' a9 b1
     cases han:(ps.take k).any (fun b=>decide (b=p))with
     |true=>
      have HA:=hI han;clear han;go_wp2;go_ret;exact⟨by rw[a1.out 6 (by decide) (by rw[HE.out,HS.out,if_neg (by omega),if_pos HA.out])];rfl,b2.out⟩
     |false=>
      have HA:=hI han;clear han;go_wp2_with fail
      go_roundw
      case rel=>exact⟨k+1,by omega,by simp,by
       show _=_;rw[HE.out,HS.out,if_neg (by omega),if_neg (by rw[HA.out];simp)],b9.out,b2.out⟩
      case measure=>simp[intOf];omega
  ·obtain rfl:k=nw:=by omega
   have HZ:Hid (Gs n [] ps=0):=by
    show _=_;rw[HE.out,List.drop_eq_nil_of_le (by rw[HL.out];exact rr)];rfl
   have HV:Hid (Em n ⟨law,ps,T,S,fin⟩=if min T S<0\/1073741824<max T S then 2 else 0):=by
    show _=_;unfold Em;rw[if_neg (by rw[HZ.out];simp)]
   have c2:=Ad (j:=2) HK.out rfl;have c3:=Ad (j:=3) HK.out rfl;clear HE;by_cases h1:min T S<0
   ·go_wp2;go_ret;exact⟨by rw[HV.out,if_pos (.inl h1)];rfl,HB.out⟩
   ·by_cases h2:1073741824<max T S
    ·go_wp2;go_ret;exact⟨by rw[HV.out,if_pos (.inr h2)];rfl,HB.out⟩
    ·have h3:¬(min T S<0\/1073741824<max T S):=by omega
     have H3:=hI h3;clear h3;go_wp2;go_ret;exact⟨by rw[HV.out,if_neg H3.out];rfl,HB.out⟩
theorem Rd {α:Type}{l:List α}{k:Nat}{x:α}(h:l[k]? =some x):l.drop k=x::l.drop (k+1):=by
 have hk:=(List.getElem?_eq_some_iff.1 h).1;rw[List.drop_eq_getElem_cons hk];congr 1;exact(List.getElem?_eq_some_iff.1 h).2
theorem N0 (b n:Nat)(rs:List Bk)(Ax:Option Addr)(nx cx:Nat)(xs:List Cb)(A:Option Addr)(m c:Nat)(ys:List Cs)(w:World)(hm:Dr w b n rs)(hx:Cf w Ax nx cx xs)(hy:Cm w A m c ys)(hT:Cw w):
  Calls Tryz.prog 37 #[.pointer (some ⟨b,0,none⟩), .slice Ax nx cx, .slice A m c] w fun e w'=>e= .returned (.int .i64 (Dy n (Au xs) (Aj ys)))/\Below w.heap.size w w':=by
 obtain⟨An,cn,mb,Ar,cr,Aq,cq,c0,c1,c2,c3⟩:=hm.cells;have b2:=hm.lt;have d7:=hy.max;have d8:=hx.max;have HM:=hI hm;have HX:=hI hx;have HY:=hI hy;have HT:=hI hT;have HC:=hI c0;have d1:Hid ((Au xs).length=nx):=by show _=_;rw[Au,List.length_map];exact hx.len
 have d0:Hid ((Aj ys).length=m):=by show _=_;rw[Aj,List.length_map];exact hy.len
 clear hm hx hy hT c0 c1 c2 c3;go_enter Tryz.func37,Tryz.ntmps37;go_wp2_with fail;refine(Lm b An n cn w HC.out).mono ?_;rintro e w1 ⟨rfl,b8⟩;have a4:=hI b8;clear b8;by_cases hn0:n=0
 ·have HV:Hid (Dy n (Au xs) (Aj ys)=1):=by show _=_;unfold Dy;rw[if_pos hn0]
  have hz:(n:Int)=0:=by omega
  go_wp2;go_ret;exact⟨by rw[HV.out];rfl,a4.out⟩
 ·have hz:((n:Int)==0)=false:=by simpa using hn0
  have HV:Hid (Dy n (Au xs) (Aj ys)=if C8 (Au xs)≠0 then C8 (Au xs)else if 64<(Aj ys).length then 12 else Ey n (Au xs).length (Aj ys)):=by show _=_;unfold Dy;rw[if_neg hn0]
  go_wp2_with fail;refine(Ya Ax nx cx xs w1 (HX.out.below a4.out rr)).mono ?_;obtain⟨er,b0⟩:∃er,er=C8 (Au xs):=⟨_,rfl⟩;rw[←b0];rintro e w2 ⟨rfl,b7⟩;have a9:=hI (a4.out.trans (b7.mono a4.out.size));have a6:=hI b0;clear b7 a4 b0;by_cases he0:er=0
  ·have d3:(er !=0)=false:=by simp[he0]
   have a3:Hid (Dy n (Au xs) (Aj ys)=if 64<m then 12 else Ey n nx (Aj ys)):=by
    show _=_;rw[HV.out,if_neg (by rw[←a6.out];simpa using he0),d1.out,d0.out]
   clear HV a6 he0;by_cases hm64:64<m
   ·have a2:(64:Int)<(m:Int):=by omega
    go_wp2;go_ret;exact⟨by rw[a3.out,if_pos hm64];rfl,a9.out⟩
   ·have a2:¬(64:Int)<(m:Int):=by omega
    have a7:Hid (Dy n (Au xs) (Aj ys)=Ey n nx (Aj ys)):=by show _=_;rw[a3.out,if_neg hm64]
    clear a3;go_wp2_with fail
    go_loopw [24] (fun i wr=>∃k:Nat,k<=m/\i= .int .i64 (k:Int)/\Hid (Ey n nx (Aj ys)=Ey n nx ((Aj ys).drop k))/\Hid (Below w.heap.size w wr)) (fun i _=>m-(intOf i).toNat)
    case atStart=>exact⟨0,Nat.zero_le _,rfl,rfl,a9.out⟩
    case round=>
     obtain⟨k,hk,rfl,HE,HB⟩:=hrel;clear a9;by_cases hlt:k<m
     ·have d5:(k:Int)<(m:Int):=by omega
      obtain⟨x,hx⟩:=(HY.out.below HB.out).get hlt;obtain⟨yb,yo,hA,d6,b5,k0,k1,k2,k3,k4⟩:=(HY.out.below HB.out).at_ hx;subst hA;have b3:(Aj ys)[k]? =some x.d:=by rw[Aj,List.getElem?_map,hx];rfl
      have HS:Hid (Ey n nx ((Aj ys).drop k)=if x.d.law<0\/(nx:Int)<=x.d.law then 3 else if Em n x.d≠0 then Em n x.d else Ey n nx ((Aj ys).drop (k+1))):=by
       show _=_;rw[Rd b3];rfl
      have b4:=hI b5;clear hx b3 b5;obtain⟨⟨law,ps,T,S,fin⟩,Aw,nw,cw⟩:=x;simp only at k0 k1 k2 k3 k4;have d4:=b4.out.u.law;simp only at d4;have a1:Hid (Below w.heap.size w (wr.alloc (.cells #[.int .i64 law, .slice Aw nw cw, .int .i64 T, .int .i64 S, .int .i64 fin] 38))):=HB.out.alloc HB.out.size _;have hsz:=HB.out.size;by_cases hl0:law<0
      ·go_wp2;go_ret;exact⟨by rw[a7.out,HE.out,HS.out,if_pos (.inl hl0)];rfl,a1.out⟩
      ·by_cases hln:(nx:Int)<=law
       ·go_wp2;go_ret;exact⟨by rw[a7.out,HE.out,HS.out,if_pos (.inr hln)];rfl,a1.out⟩
       ·have a8:Hid (Ey n nx ((Aj ys).drop k)=if Em n ⟨law,ps,T,S,fin⟩≠0 then Em n ⟨law,ps,T,S,fin⟩else Ey n nx ((Aj ys).drop (k+1))):=by
         show _=_
         have:=HS.out
         rw[if_neg (by show¬(law<0\/(nx:Int)<=law);omega)]at this;exact this
        clear HS;go_wp2_with fail;refine(Ajd b An n cn ⟨⟨law,ps,T,S,fin⟩,Aw,nw,cw⟩ _ ((a1.out.cell (p:=⟨b,0,none⟩) b2).trans HC.out) (Nat.lt_of_lt_of_le b2 a1.out.size) (b4.out.below ((Below.refl _ wr).alloc rr _))).mono ?_;obtain⟨e1,a0⟩:∃e1,e1=Em n ⟨law,ps,T,S,fin⟩:=⟨_,rfl⟩;rw[←a0];rintro e w3 ⟨rfl,b9⟩;have b6:=hI (a1.out.trans (b9.mono a1.out.size));have a5:=hI a0;clear b9 a1 HB a0 hsz;by_cases h10:e1=0
        ·have d2:(e1 !=0)=false:=by simp[h10]
         have b1:Hid (Ey n nx ((Aj ys).drop k)=Ey n nx ((Aj ys).drop (k+1))):=by
          show _=_;rw[a8.out,if_neg (by rw[←a5.out];simpa using h10)]
         clear a8 a5 h10;go_wp2_with fail
         go_roundw
         case rel=>exact⟨k+1,by omega,by simp,by show _=_;rw[HE.out,b1.out],b6.out⟩
         case measure=>simp[intOf];omega
        ·have d2:(e1 !=0)=true:=by simpa using h10
         have b1:Hid (Ey n nx ((Aj ys).drop k)=e1):=by
          show _=_;rw[a8.out,if_pos (by rw[←a5.out];exact h10),a5.out]
         clear a8 a5 h10;go_wp2;go_ret;exact⟨by rw[a7.out,HE.out,b1.out];rfl,b6.out⟩
     ·obtain rfl:k=m:=by omega
      go_wp2;go_ret;exact⟨by rw[a7.out,HE.out,List.drop_eq_nil_of_le (by rw[d0.out];exact rr)];rfl,HB.out⟩
  ·have d3:(er !=0)=true:=by simpa using he0
   have a3:Hid (Dy n (Au xs) (Aj ys)=er):=by
    show _=_;rw[HV.out,if_pos (by rw[←a6.out];exact he0),a6.out]
   clear HV a6 he0;go_wp2;go_ret;exact⟨by rw[a3.out];rfl,a9.out⟩
def Jk (w:World)(r:Int×List Int)(e:Ending)(w':World):Prop:=
 ∃A m c,e= .returned (.tuple #[.slice A m c, .int .i64 r.1])/\Ci w' A m c r.2/\Below w.heap.size w w'
theorem Jk.bad {w w':World}{r:Int×List Int}{er:Int}(h:r=(er,[]))(hb:Below w.heap.size w w'):Jk w r (.returned (.tuple #[.slice none 0 0, .int .i64 er])) w':=by
 subst h;exact⟨none,0,0,rfl,Az.nil _ _,hb⟩
theorem Wg {n g:Nat}{f:Nat->Int}{t:TypeId}{w:World}(hg:w.heap[g]? =some (.cells (Ek n f) t (0,0)))(hn:n<=4096):Ci w (some ⟨g,0,none⟩) n n ((List.range n).map f):=
 ⟨by simp,rr,by unfold maxLen;omega,(fun h=>by cases h),fun h=>⟨g,0,rfl,lt_of_block hg,fun j v hv=>by
  rw[Nat.zero_add];refine Ad hg ?_;unfold Ek;simpa using hv⟩⟩
theorem Aam (b n:Nat)(rs:List Bk)(x:Cs)(w:World)(hm:Dr w b n rs)(hx:Js w x):
  Calls Tryz.prog 20 #[.pointer (some ⟨b,0,none⟩),Yt x] w (Jk w (Jj n rs x.d)):=by
 obtain⟨An,cn,mb,Ar,cr,Aq,cq,c0,c1,c2,c3⟩:=hm.cells;have a5:=hm.lt;have d1:=hm.few;obtain⟨⟨law,ps,T,S,fin⟩,Aw,nw,cw⟩:=x;have HM:=hI hm;have HX:=hI hx;have HC:=hI c0;clear hm hx c0 c1 c2 c3;have kb:(w.alloc (.cells #[.int .i64 law, .slice Aw nw cw, .int .i64 T, .int .i64 S, .int .i64 fin] 38)).heap[w.heap.size]? =some (.cells #[.int .i64 law, .slice Aw nw cw, .int .i64 T, .int .i64 S, .int .i64 fin] 38 (0,0)):=hpt;have kB:Below w.heap.size w (w.alloc (.cells #[.int .i64 law, .slice Aw nw cw, .int .i64 T, .int .i64 S, .int .i64 fin] 38)):=bel;go_enter Tryz.func20,Tryz.ntmps20;go_wp2_with fail;obtain⟨B0,b4⟩:∃B0,B0=w.heap.size:=⟨_,rfl⟩;rw[←b4]at kb ⊢;have b6:=hI kb;have a6:=hI kB;have f5:w.heap.size<=B0:=Nat.le_of_eq b4.symm;generalize w.alloc (.cells #[.int .i64 law, .slice Aw nw cw, .int .i64 T, .int .i64 S, .int .i64 fin] 38)=W0 at*;clear b4 kb kB;refine(Lm b An n cn W0 ((a6.out.cell (p:=⟨b,0,none⟩) a5).trans HC.out)).mono ?_;rintro e w1 ⟨rfl,b8⟩;have a0:=hI ((b8.block B0 (lt_of_block b6.out)).trans b6.out);have a2:=hI (a6.out.trans (b8.mono a6.out.size));clear b8 b6 a6;by_cases hn0:n=0
 ·have HV:Hid (Jj n rs ⟨law,ps,T,S,fin⟩=(1,[])):=by show _=_;unfold Jj;rw[if_pos hn0]
  have hz:(n:Int)=0:=by omega
  go_wp2
  go_ret2
  exact Jk.bad HV.out a2.out
 ·have hz:((n:Int)==0)=false:=by simpa using hn0
  have HV:Hid (Jj n rs ⟨law,ps,T,S,fin⟩=if Em n ⟨law,ps,T,S,fin⟩≠0 then(Em n ⟨law,ps,T,S,fin⟩,[])else(0,(List.range n).map fun a=>Bn (Gd n rs ⟨law,ps,T,S,fin⟩ a))):=by show _=_;unfold Jj;rw[if_neg hn0]
  have k0:=Ad (j:=0) a0.out rfl;have k1:=Ad (j:=1) a0.out rfl;have k2:=Ad (j:=2) a0.out rfl;have k3:=Ad (j:=3) a0.out rfl;have k4:=Ad (j:=4) a0.out rfl;go_wp2_with fail;clear k0 k1 k2 k3 k4;refine(Ajd b An n cn ⟨⟨law,ps,T,S,fin⟩,Aw,nw,cw⟩ w1 ((a2.out.cell (p:=⟨b,0,none⟩) a5).trans HC.out) (Nat.lt_of_lt_of_le a5 a2.out.size) (HX.out.below a2.out)).mono ?_;obtain⟨e1,a1⟩:∃e1,e1=Em n ⟨law,ps,T,S,fin⟩:=⟨_,rfl⟩;rw[←a1];rintro e w2 ⟨rfl,b5⟩;have b3:=hI ((b5.block B0 (lt_of_block a0.out)).trans a0.out);have a3:=hI (a2.out.trans (b5.mono a2.out.size));have a4:=hI a1;clear b5 a0 a2 a1;by_cases h10:e1=0
  ·have d7:(e1 !=0)=false:=by simp[h10]
   have d3:Hid (Em n ⟨law,ps,T,S,fin⟩=0):=by show _=_;rw[←a4.out,h10]
   have a8:Hid (Jj n rs ⟨law,ps,T,S,fin⟩=(0,(List.range n).map fun a=>Bn (Gd n rs ⟨law,ps,T,S,fin⟩ a))):=by show _=_;rw[HV.out,if_neg (by rw[d3.out];simp)]
   clear HV a4 h10;go_wp2_with fail;refine(Lm b An n cn w2 ((a3.out.cell (p:=⟨b,0,none⟩) a5).trans HC.out)).mono ?_;rintro e w3 ⟨rfl,b9⟩;have b0:=hI ((b9.block B0 (lt_of_block b3.out)).trans b3.out);have a7:=hI (a3.out.trans (b9.mono a3.out.size));clear b9 b3 a3;have d8:=fun w=>run_make_row' (P:=Tryz.prog) 42 2 (.int .i64 0) 8 Tryz.underlying42 S6 rfl .i64 .i64 n (by omega) (by omega) w
   have f4:n<=maxLen:=by unfold maxLen;omega
   go_wp2_with fail;clear d8;rw[Mt];have b7:Hid ((w3.alloc (.cells (Ek n fun _=>0) 2)).heap[w3.heap.size]? =some (.cells (Ek n fun _=>0) 2 (0,0))):=Am rfl;have d0:=hI ((Bc (lt_of_block b0.out):(w3.alloc (.cells (Ek n fun _=>0) 2)).heap[B0]? =_).trans b0.out);have d2:Hid (Below w.heap.size w (w3.alloc (.cells (Ek n fun _=>0) 2))):=a7.out.alloc a7.out.size _;have b2:=a7.out.size;have d5:B0<w3.heap.size:=lt_of_block b0.out;obtain⟨g,hg⟩:∃g,g=w3.heap.size:=⟨_,rfl⟩;rw[←hg]at b7 d5 b2 ⊢;generalize w3.alloc (.cells (Ek n fun _=>0) 2)=w4 at*;clear hg b0 a7
   go_loopw [8,23] (fun _ i wr=>∃k:Nat,k<=n/\i= .int .i64 (k:Int)/\Hid (wr.heap[g]? =some (.cells (Ek n fun v=>if v<k then Bn (Gd n rs ⟨law,ps,T,S,fin⟩ v)else 0) 2 (0,0)))/\Hid (wr.heap[B0]? =some (.cells #[.int .i64 law, .slice Aw nw cw, .int .i64 T, .int .i64 S, .int .i64 fin] 38 (0,0)))/\Hid (Below w.heap.size w wr)) (fun _ i _=>n-(intOf i).toNat)
   case atStart=>exact⟨0,Nat.zero_le _,rfl,by show _=_;simpa using b7.out,d0.out,d2.out⟩
   case round=>
    obtain⟨k,hk,rfl,HG,HK,HB⟩:=hrel;clear b7 d0 d2;by_cases hlt:k<n
    ·have f3:(k:Int)<(n:Int):=by omega
     have k0:=Ad (j:=0) HK.out rfl;have k1:=Ad (j:=1) HK.out rfl;have k2:=Ad (j:=2) HK.out rfl;have k3:=Ad (j:=3) HK.out rfl;have k4:=Ad (j:=4) HK.out rfl;go_wp2_with fail;clear k0 k1 k2 k3 k4;refine(Ak9 b n rs ⟨⟨law,ps,T,S,fin⟩,Aw,nw,cw⟩ k wr (HM.out.below HB.out) (HX.out.below HB.out) d3.out hlt).mono ?_;obtain⟨t,ht⟩:∃t,t=Bn (Gd n rs ⟨law,ps,T,S,fin⟩ k):=⟨_,rfl⟩;rw[←ht];rintro e w5 ⟨rfl,a9⟩;have b1:=hI ((a9.block g (lt_of_block HG.out)).trans HG.out);have d9:=hI ((a9.block B0 (lt_of_block HK.out)).trans HK.out);have d6:=hI (HB.out.trans (a9.mono HB.out.size));have f0:=hI ht;clear a9 HG HK HB ht;have cg:=Hk b1.out hlt;have fg:w5.frozen? ⟨g,k,none⟩=false:=by simp[World.frozen?,b1.out]
     have f2:Hid ((w5.setCell ⟨g,k,none⟩ (.int .i64 t)).heap[g]? =some (.cells (Ek n fun v=>if v<k+1 then Bn (Gd n rs ⟨law,ps,T,S,fin⟩ v)else 0) 2 (0,0))):=by
      show _=_
      rw[Be b1.out,Mf (g:=fun v=>if v<k+1 then Bn (Gd n rs ⟨law,ps,T,S,fin⟩ v)else 0) (by simp[f0.out]) fun v _ hv=>by
       by_cases e:v<k
       ·simp[e,Nat.lt_succ_of_lt e]
       ·have:¬v<k+1:=by omega
        simp[e,this]]
     have f1:=hI ((Below.heap_setCell w5 ⟨g,k,none⟩ (.int .i64 t) B0 (by show B0≠g;omega)).trans d9.out);have d4:=hI (d6.out.setCell (p:=⟨g,k,none⟩) (by show w.heap.size<=g;omega) (.int .i64 t));go_wp2_with fail
     go_roundw
     case rel=>exact⟨k+1,by omega,by simp,f2.out,f1.out,d4.out⟩
     case measure=>simp[intOf];omega
    ·obtain rfl:k=n:=by omega
     go_wp2
     go_ret2
     have hr:=Wg HG.out (by omega);refine⟨_,_,_,by rw[a8.out];rfl, ?_,HB.out⟩;rw[a8.out];show Ci _ _ _ _ ((List.range k).map fun a=>Bn (Gd k rs ⟨law,ps,T,S,fin⟩ a));rw[show((List.range k).map fun a=>Bn (Gd k rs ⟨law,ps,T,S,fin⟩ a))=(List.range k).map fun v=>if v<k then Bn (Gd k rs ⟨law,ps,T,S,fin⟩ v)else 0 from List.map_congr_left fun v hv=>by rw[if_pos (List.mem_range.1 hv)]]
     exact hr
  ·have d7:(e1 !=0)=true:=by simpa using h10
   have a8:Hid (Jj n rs ⟨law,ps,T,S,fin⟩=(e1,[])):=by show _=_;rw[HV.out,if_pos (by rw[←a4.out];exact h10),a4.out]
   clear HV a4 h10;go_wp2
   go_ret2
   exact Jk.bad a8.out a3.out
theorem Jk.own {w W:World}{r:Int×List Int}{B:Nat}{v:Value}{l:List Int}(hr:r=(0,l))(h:W.ownsRow B 3 1 v l.length (l.map (Value.int .i64)))(hb:Below w.heap.size w W):Jk w r (.returned (.tuple #[v, .int .i64 0])) W:=by
 subst hr;obtain⟨A,c,rfl⟩:=Bh h;exact⟨A,_,c,rfl,Az.of_own h (by decide),hb⟩
def D9 (w:World)(B:Nat)(v:Value)(l:List Int):Prop:=w.ownsRow B 3 1 v l.length (l.map (Value.int .i64))/\B<=w.heap.size
theorem D9.nil {w:World}{B:Nat}(h:B<=w.heap.size):D9 w B (.slice none 0 0) []:=⟨World.ownsRow_nil _ _ _ _,h⟩
theorem D9.below {w w':World}{B:Nat}{v:Value}{l:List Int}(h:D9 w B v l)(hb:Below w.heap.size w w'):D9 w' B v l:=
 ⟨Bj h.1 fun k e=>hb.block k (h.1.lt k e).2,Nat.le_trans h.2 hb.size⟩
theorem D9.push {w W:World}{B:Nat}{v v':Value}{l:List Int}{x:Int}(h:D9 w B v l)(hown:W.ownsRow B 3 1 v' (l.length+1) (l.map (Value.int .i64)++[.int .i64 x]))(hg:w.grownBy W v.ownBlock):D9 W B v' (l++[x]):=
 ⟨by rw[List.length_append,List.map_append];exact hown,Nat.le_trans h.2 hg.size⟩
theorem D9.grow {w W w0:World}{B:Nat}{v:Value}{l:List Int}(h:D9 w B v l)(hb:Below w0.heap.size w0 w)(hB:w0.heap.size<=B)(hg:w.grownBy W v.ownBlock):Below w0.heap.size w0 W:=
 hb.grown hg hb.size fun k e=>Nat.le_trans hB (h.1.lt k e).1
theorem D9.form {w:World}{B:Nat}{v:Value}{l:List Int}(h:D9 w B v l):∃A c,v= .slice A l.length c:=Bh h.1
theorem T9 (x:Int)(w:World):Calls Tryz.prog 101 #[.int .i64 x] w fun e w'=>e= .returned (.bool false)/\w'=w:=by
 go_enter Tryz.func101,Tryz.ntmps101;go_wp2;go_ret;simp
theorem Aje (x y:Int)(w:World):Calls Tryz.prog 57 #[.int .i64 x, .int .i64 y] w fun e w'=>e= .returned (.int .i64 (Eh x y))/\w'=w:=by
 go_enter Tryz.func57,Tryz.ntmps57;by_cases h1:x<y
 ·have h2:Eh x y= -1:=by unfold Eh;rw[if_pos h1]
  rw[h2];go_wp2_with(go_at_call 101;refine(T9 _ _).mono ?_;rintro e w1 ⟨rfl,rfl⟩);go_ret;exact⟨rfl,rfl⟩
 ·by_cases h2:y<x
  ·have h3:Eh x y=1:=by unfold Eh;rw[if_neg h1,if_pos h2]
   rw[h3];go_wp2_with(go_at_call 101;refine(T9 _ _).mono ?_;rintro e w1 ⟨rfl,rfl⟩);go_ret;exact⟨rfl,rfl⟩
  ·have h3:Eh x y=0:=by unfold Eh;rw[if_neg h1,if_neg h2]
   rw[h3];go_wp2_with(go_at_call 101;refine(T9 _ _).mono ?_;rintro e w1 ⟨rfl,rfl⟩);go_ret;exact⟨rfl,rfl⟩
def orQ (x y:Int):Int:=if x≠0 then x else y
theorem Anu (x y:Int)(b:Nat)(w:World)(h0:w.cell? ⟨b,0,none⟩=some (.int .i64 x))(h1:w.cell? ⟨b,1,none⟩=some (.int .i64 y)):
  Calls Tryz.prog 78 #[.slice (some ⟨b,0,none⟩) 2 2] w fun e w'=>e= .returned (.int .i64 (orQ x y))/\w'=w:=by
 go_enter Tryz.func78,Tryz.ntmps78;go_wp2
 go_loopw [5,8] (fun _ i wr=>∃k:Nat,k<=2/\i= .int .i64 k/\(0<k->x=0)/\(1<k->y=0)/\wr=w) (fun _ i _=>2-(intOf i).toNat)
 case atStart=>exact⟨0,by omega,rfl,by omega,by omega,rfl⟩
 case round=>
  obtain⟨k,hk,rfl,hx,hy,rfl⟩:=hrel;have a2:k=0\/k=1\/k=2:=by omega
  rcases a2 with rfl|rfl|rfl
  ·by_cases h:x=0
   ·subst h;go_wp2
    go_roundw
    case rel=>exact⟨1,by omega,rfl,by simp,by simp,by simp⟩
    case measure=>simp[intOf]
   ·have hb:(x !=0)=true:=by simpa using h
    go_wp2;go_ret;exact⟨by unfold orQ;rw[if_pos h];rfl,rfl⟩
  ·have a0:=hx (by omega);subst a0;by_cases h:y=0
   ·subst h;go_wp2
    go_roundw
    case rel=>exact⟨2,by omega,rfl,by simp,by simp,by simp⟩
    case measure=>simp[intOf]
   ·have hb:(y !=0)=true:=by simpa using h
    go_wp2;go_ret;exact⟨by unfold orQ;rw[if_neg (by simp)];rfl,rfl⟩
  ·have a0:=hx (by omega);have a1:=hy (by omega);subst a0 a1;go_wp2;go_ret;exact⟨rfl,rfl⟩
def Ej:Option Nat->Int
 |none=>9223372036854775807
 |some t=>t
theorem Xw (o:Option Nat)(w:World):Calls Tryz.prog 77 #[.int .i64 (Bn o)] w fun e w'=>e= .returned (.int .i64 (Ej o))/\w'=w:=by
 cases o with
 |none=>
  simp only[Bn];go_enter Tryz.func77,Tryz.ntmps77;go_wp2;go_ret;exact⟨rfl,rfl⟩
 |some t=>
  have h:((t:Int)== -1)=false:=by simp
  simp only[Bn];go_enter Tryz.func77,Tryz.ntmps77;go_wp2;go_ret;exact⟨rfl,rfl⟩
theorem Anx (o:Option Nat)(now:Int)(w:World):Calls Tryz.prog 104 #[.int .i64 (Bn o), .int .i64 now] w fun e w'=>e= .returned (.bool (Gt now o))/\w'=w:=by
 cases o with
 |none=>
  simp only[Bn];go_enter Tryz.func104,Tryz.ntmps104;go_wp2;go_ret;exact⟨rfl,rfl⟩
 |some t=>
  have h:((t:Int) != -1)=true:=by simp
  simp only[Bn];go_enter Tryz.func104,Tryz.ntmps104;go_wp2;go_ret;exact⟨rfl,rfl⟩
theorem Acn (x y:Int):(Eh x y<0)↔x<y:=by unfold Eh;by_cases h1:x<y<;>by_cases h2:y<x<;>simp[h1,h2]
theorem Aan (x y:Int):Eh x y=0↔x=y:=by unfold Eh;by_cases h1:x<y<;>by_cases h2:y<x<;>simp[h1,h2]<;>omega
theorem Ajf {a b:Int}(h:a=0):orQ a b=b:=by unfold orQ;simp[h]
theorem Ajg {a b:Int}(h:a≠0):orQ a b=a:=by unfold orQ;simp[h]
theorem Ajh {t:Nat->Option Nat}{i j x:Nat}(hx:t i=some x)(hlt:x<9223372036854775807):decide (orQ (Eh (Ej (t i)) (Ej (t j))) (Eh (i:Int) (j:Int))<0)=C0 t i j:=by
 unfold C0;rw[hx]
 cases hy:t j with
 |none=>
  have hc:Eh (Ej (some x)) (Ej none)= -1:=by unfold Eh;rw[if_pos (by show(x:Int)<9223372036854775807;omega)]
  rw[Ajg (by rw[hc];decide),hc];simp
 |some y=>
  show decide (orQ (Eh (x:Int) (y:Int)) (Eh (i:Int) (j:Int))<0)=(decide (x<y)||(decide (x=y) && decide (i<j)));by_cases e:x=y
  ·subst e;rw[Ajf ((Aan _ _).2 rfl)];have h2:=Acn (i:Int) (j:Int);by_cases h3:i<j
   ·have h4:Eh (i:Int) (j:Int)<0:=h2.2 (by omega);simp[h3,h4]
   ·have h4:¬Eh (i:Int) (j:Int)<0:=fun h=>h3 (by have:=h2.1 h;omega)
    simp[h3];omega
  ·rw[Ajg (fun h=>e (by have:=(Aan _ _).1 h;omega))];have h2:=Acn (x:Int) (y:Int);by_cases h3:x<y
   ·have h4:Eh (x:Int) (y:Int)<0:=h2.2 (by omega);simp[h3,h4]
   ·have h4:¬Eh (x:Int) (y:Int)<0:=fun h=>h3 (by have:=h2.1 h;omega)
    simp[h3,e];omega
theorem Afb (b n:Nat)(rs:List Bk)(Ax:Option Addr)(nx cx:Nat)(xs:List Cb)(A:Option Addr)(m c:Nat)(ys:List Cs)(ki kj:Int)(w:World)(hm:Dr w b n rs)(hx:Cf w Ax nx cx xs)(hy:Cm w A m c ys)(hT:Cw w):
  Calls Tryz.prog 33 #[.pointer (some ⟨b,0,none⟩), .slice Ax nx cx, .slice A m c, .int .i64 ki, .int .i64 kj] w (Jk w (Ha n rs (Au xs) (Aj ys) ki kj)):=by
 obtain⟨An,cn,mb,Ar,cr,Aq,cq,c0,c1,c2,c3⟩:=hm.cells;have i4:=hm.lt;have g2:=hm.few;have j2:=hy.max;have HM:=hI hm;have HX:=hI hx;have HY:=hI hy;have HT:=hI hT;have HC:=hI c0;have i0:Hid ((Aj ys).length=m):=by show _=_;rw[Aj,List.length_map];exact hy.len
 clear hm hx hy hT c0 c1 c2 c3;go_enter Tryz.func33,Tryz.ntmps33;go_wp2_with fail;refine(N0 b n rs Ax nx cx xs A m c ys w HM.out HX.out HY.out HT.out).mono ?_;obtain⟨er,d3⟩:∃er,er=Dy n (Au xs) (Aj ys):=⟨_,rfl⟩;rw[←d3];rintro e w1 ⟨rfl,g5⟩;have a6:=hI g5;have b5:=hI d3;clear g5 d3;by_cases he0:er=0
 ·have g8:(er !=0)=false:=by simp[he0]
  have d6:Hid (Dy n (Au xs) (Aj ys)=0):=by show _=_;rw[←b5.out,he0]
  have HV:Hid (Ha n rs (Au xs) (Aj ys) ki kj=if min ki kj<0\/(m:Int)<=max ki kj then(3,[])else(0,((List.range n).filter (Acj n rs (Aj ys) ki.toNat kj.toNat)).map fun(a:Nat)=>(a:Int))):=by
   show _=_;unfold Ha;rw[if_neg (by rw[d6.out];simp),i0.out]
  clear b5 he0;by_cases hk0:min ki kj<0
  ·have b1:Hid (Ha n rs (Au xs) (Aj ys) ki kj=(3,[])):=by show _=_;rw[HV.out,if_pos (.inl hk0)]
   go_wp2
   go_ret2
   exact Jk.bad b1.out a6.out
  ·by_cases hkm:(m:Int)<=max ki kj
   ·have b1:Hid (Ha n rs (Au xs) (Aj ys) ki kj=(3,[])):=by show _=_;rw[HV.out,if_pos (.inr hkm)]
    go_wp2
    go_ret2
    exact Jk.bad b1.out a6.out
   ·obtain⟨i,rfl⟩:∃k:Nat,ki=k:=⟨ki.toNat,by omega⟩;obtain⟨k,rfl⟩:∃k:Nat,kj=k:=⟨kj.toNat,by omega⟩;have b7:k<m:=by omega
    have b8:i<m:=by omega
    obtain⟨P,hP⟩:∃P:Nat->Bool,P=Acj n rs (Aj ys) i k:=⟨_,rfl⟩
    have b1:Hid (Ha n rs (Au xs) (Aj ys) i k=(0,((List.range n).filter P).map fun(a:Nat)=>(a:Int))):=by
     show _=_;rw[HV.out,if_neg (by omega),hP];rfl
    have HP:=hI hP;clear HV hP;have i3:(k:Int)<(m:Int):=by omega
    have g7:(i:Int)<(m:Int):=by omega
    go_wp2_with fail;refine(Lm b An n cn w1 ((a6.out.cell (p:=⟨b,0,none⟩) i4).trans HC.out)).mono ?_;rintro e w2 ⟨rfl,f9⟩;have d1:=hI (a6.out.trans (f9.mono a6.out.size));clear f9 a6;have d9:=d1.out.size;obtain⟨B,hB⟩:∃B,B=w2.heap.size:=⟨_,rfl⟩;have j0:w.heap.size<=B:=by omega
    have f2:Hid (D9 w2 B (.slice none 0 0) []):=D9.nil (by omega);clear hB d9;go_wp2_with fail
    go_loopw [13,40] (fun s13 i wr=>∃j:Nat,j<=n/\i= .int .i64 (j:Int)/\Hid (D9 wr B s13 (((List.range j).filter P).map fun(a:Nat)=>(a:Int)))/\Hid (Below w.heap.size w wr)) (fun _ i _=>n-(intOf i).toNat)
    case atStart=>exact⟨0,Nat.zero_le _,rfl,f2.out,d1.out⟩
    case round=>
     obtain⟨j,hj,rfl,HN,HB⟩:=hrel;clear f2 d1;by_cases hlt:j<n
     ·have j1:(j:Int)<(n:Int):=by omega
      obtain⟨x,hx⟩:=(HY.out.below HB.out).get b8;obtain⟨yb,yo,hA,a2,g3,k0,k1,k2,k3,k4⟩:=(HY.out.below HB.out).at_ hx;have a4:(Aj ys)[i]? =some x.d:=by rw[Aj,List.getElem?_map,hx];rfl
      have f4:Hid (tAt n rs (Aj ys) j i=Gd n rs x.d j):=by show _=_;unfold tAt;rw[a4];rfl
      have H1:Hid (Em n x.d=0):=((F1 d6.out).2.2.2 x.d (List.mem_of_getElem? a4)).2.2;have i2:=hI g3;clear hx a4 g3;obtain⟨x',hx⟩:=(HY.out.below HB.out).get b7;obtain⟨yb',yo',f0,b6,a9,l0,l1,l2,l3,l4⟩:=(HY.out.below HB.out).at_ hx;obtain⟨rfl,rfl⟩:yb=yb'/\yo=yo':=by rw[hA]at f0;injection f0 with h;injection h with h1 h2;exact⟨h1,h2⟩
      have a4:(Aj ys)[k]? =some x'.d:=by rw[Aj,List.getElem?_map,hx];rfl
      have g1:Hid (tAt n rs (Aj ys) j k=Gd n rs x'.d j):=by show _=_;unfold tAt;rw[a4];rfl
      have f6:Hid (Em n x'.d=0):=((F1 d6.out).2.2.2 x'.d (List.mem_of_getElem? a4)).2.2;have b9:=hI a9;clear hx a4 a9 f0 b6;subst hA;obtain⟨⟨law,ps,T,S,fin⟩,Aw,nw,cw⟩:=x;obtain⟨⟨law',ps',T',S',fin'⟩,Aw',nw',cw'⟩:=x';simp only at k0 k1 k2 k3 k4 l0 l1 l2 l3 l4
      have d7:Hid (∀W':World,Below wr.heap.size wr W'->W'.cell? ⟨yb,yo+i*5,none⟩=some (.int .i64 law)/\W'.cell? ⟨yb,yo+i*5+1,none⟩=some (.slice Aw nw cw)/\W'.cell? ⟨yb,yo+i*5+2,none⟩=some (.int .i64 T)/\W'.cell? ⟨yb,yo+i*5+3,none⟩=some (.int .i64 S)/\W'.cell? ⟨yb,yo+i*5+4,none⟩=some (.int .i64 fin)/\W'.cell? ⟨yb,yo+k*5,none⟩=some (.int .i64 law')/\W'.cell? ⟨yb,yo+k*5+1,none⟩=some (.slice Aw' nw' cw')/\W'.cell? ⟨yb,yo+k*5+2,none⟩=some (.int .i64 T')/\W'.cell? ⟨yb,yo+k*5+3,none⟩=some (.int .i64 S')/\W'.cell? ⟨yb,yo+k*5+4,none⟩=some (.int .i64 fin')):=fun W' hb=>
       ⟨(hb.cell (p:=⟨yb,_,none⟩) a2).trans k0,(hb.cell (p:=⟨yb,_,none⟩) a2).trans k1,(hb.cell (p:=⟨yb,_,none⟩) a2).trans k2,(hb.cell (p:=⟨yb,_,none⟩) a2).trans k3,(hb.cell (p:=⟨yb,_,none⟩) a2).trans k4,
        (hb.cell (p:=⟨yb,_,none⟩) a2).trans l0,(hb.cell (p:=⟨yb,_,none⟩) a2).trans l1,(hb.cell (p:=⟨yb,_,none⟩) a2).trans l2,(hb.cell (p:=⟨yb,_,none⟩) a2).trans l3,(hb.cell (p:=⟨yb,_,none⟩) a2).trans l4⟩
      go_wp2_with fail;refine Bg (fun W'=>W'.cell? ⟨yb,yo+i*5,none⟩=some (.int .i64 law)/\W'.cell? ⟨yb,yo+i*5+1,none⟩=some (.slice Aw nw cw)/\W'.cell? ⟨yb,yo+i*5+2,none⟩=some (.int .i64 T)/\W'.cell? ⟨yb,yo+i*5+3,none⟩=some (.int .i64 S)/\W'.cell? ⟨yb,yo+i*5+4,none⟩=some (.int .i64 fin)/\W'.cell? ⟨yb,yo+k*5,none⟩=some (.int .i64 law')/\W'.cell? ⟨yb,yo+k*5+1,none⟩=some (.slice Aw' nw' cw')/\W'.cell? ⟨yb,yo+k*5+2,none⟩=some (.int .i64 T')/\W'.cell? ⟨yb,yo+k*5+3,none⟩=some (.int .i64 S')/\W'.cell? ⟨yb,yo+k*5+4,none⟩=some (.int .i64 fin')) (by kernel_rfl) ⟨k0,k1,k2,k3,k4,l0,l1,l2,l3,l4⟩ (fun hHeld=> ?_);clear k0 k1 k2 k3 k4 l0 l1 l2 l3 l4
      (refine' Ae 0 rfl ?_;(try simp only[Act.put,nY,nX]));(refine' Ae 1 rfl ?_;(try simp only[Act.put,nY,nX]));(refine' Ae 2 rfl ?_;(try simp only[Act.put,nY,nX]));(refine' Ae 3 rfl ?_;(try simp only[Act.put,nY,nX]));(refine' Ae 4 rfl ?_;(try simp only[Act.put,nY,nX]));(refine' Ae 5 rfl ?_;(try simp only[Act.put,nY,nX]));(refine' Ae 7 rfl ?_;(try simp only[Act.put,nY,nX]));(refine' Ae 8 rfl ?_;(try simp only[Act.put,nY,nX]));(refine' Ae 9 rfl ?_;(try simp only[Act.put,nY,nX]));(refine' Ae 10 rfl ?_;(try simp only[Act.put,nY,nX]));(refine' Ae 11 rfl ?_;(try simp only[Act.put,nY,nX]));(refine' Ae 12 rfl ?_;(try simp only[Act.put,nY,nX]))
      clear hHeld
      (refine Anv 6 rfl (fun K' hK'=> ?_);simp only[nY];go_simp)
      have b2:Below wr.heap.size wr wr.drew:=(Below.refl _ _).drew;refine(Ak9 b n rs ⟨⟨law,ps,T,S,fin⟩,Aw,nw,cw⟩ j wr.drew (HM.out.below (HB.out.trans (b2.mono HB.out.size))) (i2.out.below b2) H1.out hlt).mono ?_;obtain⟨t,ht⟩:∃t,t=Gd n rs ⟨law,ps,T,S,fin⟩ j:=⟨_,rfl⟩;have a8:Hid (tAt n rs (Aj ys) j i=t):=by show _=_;rw[f4.out,ht]
      rw[←ht];rintro e wq ⟨rfl,g4⟩;have a5:Below wr.heap.size wr wq:=b2.trans g4;have a1:=hI a5;refine hK' _ _ ⟨.inr (d7.out wq a5),fun _=> ?_⟩
      clear hK' K' g4 a5 b2 ht f4 H1
      (try simp only[Act.put,nY,nX])
      (refine Anv 13 rfl (fun K' hK'=> ?_);simp only[nY];go_simp)
      refine(Ak9 b n rs ⟨⟨law',ps',T',S',fin'⟩,Aw',nw',cw'⟩ j wq (HM.out.below (HB.out.trans (a1.out.mono HB.out.size))) (b9.out.below a1.out) f6.out hlt).mono ?_;obtain⟨u,hu⟩:∃u,u=Gd n rs ⟨law',ps',T',S',fin'⟩ j:=⟨_,rfl⟩;have f3:Hid (tAt n rs (Aj ys) j k=u):=by show _=_;rw[g1.out,hu]
      rw[←hu];rintro e w3 ⟨rfl,g0⟩;have b3:Below wr.heap.size wr w3:=a1.out.trans (g0.mono a1.out.size);have f7:=hI (HN.out.below b3);have d4:=hI (HB.out.trans (b3.mono HB.out.size));have a7:=d7.out w3 b3;refine hK' _ _ ⟨.inr a7,fun _=> ?_⟩
      clear hK' K' g0 b3 hu g1 f6 HN HB a1 d7
      (try simp only[Act.put,nY,nX])
      (refine Anv 14 rfl (fun K' hK'=> ?_);simp only[nY];go_simp)
      refine hK' _ _ ⟨.inr a7,fun _=> ?_⟩
      clear hK' K'
      (try simp only[Act.put,nY,nX])
      (refine Anv 15 rfl (fun K' hK'=> ?_);simp only[nY];go_simp)
      refine hK' _ _ ⟨.inl (by kernel_rfl),fun _=>Bf (by kernel_rfl) ?_ _⟩
      clear hK' K' a7;go_wp2_with fail;refine(Xw t w3).mono ?_;rintro e w4 ⟨rfl,rfl⟩;go_wp2_with fail;refine(Xw u w4).mono ?_;rintro e w5 ⟨rfl,rfl⟩;go_wp2_with fail;refine(Wv (Ej t) (Ej u) w5).mono ?_;rintro e w6 ⟨rfl,rfl⟩;go_wp2_with fail;refine(Aje (i:Int) (k:Int) w6).mono ?_;rintro e w7 ⟨rfl,rfl⟩;obtain⟨c1,f1⟩:∃c1,c1=Eh (Ej t) (Ej u):=⟨_,rfl⟩;obtain⟨c2,d0⟩:∃c2,c2=Eh (i:Int) (k:Int):=⟨_,rfl⟩;rw[←f1,←d0];have f5:=hI f1;have f8:=hI d0;clear f1 d0;go_wp2_with fail;refine(Anu c1 c2 w7.heap.size (w7.alloc (.cells #[.int .i64 c1, .int .i64 c2] 3)) (B8 rfl) (B8 rfl)).mono ?_;rintro e w8 ⟨rfl,rfl⟩
      have b4:Hid (P j=(t.isSome && decide (orQ c1 c2<0))):=by
       show _=_;rw[HP.out];show((tAt n rs (Aj ys) j i).isSome && C0 (tAt n rs (Aj ys) j) i k)=_
       cases t with
       |none=>rw[a8.out];rfl
       |some x=>
        have i1:x<9223372036854775807:=by
         obtain⟨y,hy,ha⟩:=Aah a8.out
         have:=Wc ha
         obtain⟨z,hz,i8⟩:=List.mem_map.1 (List.mem_of_getElem? hy);have hu:=((HY.out.2 z hz).u).fin;rw[i8]at hu;omega
        rw[←Ajh (t:=tAt n rs (Aj ys) j) (j:=k) a8.out i1,a8.out,f3.out,f5.out,f8.out]
      obtain⟨od,g6⟩:∃od,od=orQ c1 c2:=⟨_,rfl⟩;rw[←g6]at b4 ⊢;have a0:=hI (f7.out.below ((Below.refl _ w7).alloc rr (.cells #[.int .i64 c1, .int .i64 c2] 3)));have a3:Hid (Below w.heap.size w (w7.alloc (.cells #[.int .i64 c1, .int .i64 c2] 3))):=d4.out.alloc d4.out.size _;generalize w7.alloc (.cells #[.int .i64 c1, .int .i64 c2] 3)=w9 at*;clear f5 f8 g6 f7 d4 a8 f3;generalize Bn u=ua
      have d5:Hid ((List.range (j+1)).filter P=(List.range j).filter P++(if P j=true then [j]else [])):=by
       show _=_;rw[List.range_succ,List.filter_append];congr 1;by_cases h:P j=true
       ·rw[if_pos h,List.filter_cons_of_pos h];rfl
       ·rw[if_neg h,List.filter_cons_of_neg h];rfl
      cases t with
      |none=>
       simp only[Bn];go_wp2_with fail
       go_roundw
       case rel=>exact⟨j+1,by omega,by simp,by show D9 _ _ _ _;rw[d5.out,b4.out];simpa using a0.out,a3.out⟩
       case measure=>simp[intOf];omega
      |some t=>
       simp only[Bn];have j3:((t:Int) != -1)=true:=by simp
       by_cases hlo:od<0
       ·obtain⟨A8,c8,i7⟩:=a0.out.form;subst i7;obtain⟨L,hL⟩:∃L,L=((List.range j).filter P).map fun(a:Nat)=>(a:Int):=⟨_,rfl⟩
        have j4:L.length<=j:=by rw[hL,List.length_map];exact Nat.le_trans (List.length_filter_le _ _) (by simp)
        rw[←hL]at a0 ⊢;have HL:=hI hL;clear hL;have d8:=a0.out.below ((Below.refl _ w9).alloc rr (.cells #[.int .i64 (j:Int)] 3));have d2:=hI d8;have i5:=d8.2;have i9:Hid (Below w.heap.size w (w9.alloc (.cells #[.int .i64 (j:Int)] 3))):=a3.out.alloc a3.out.size _;clear d8;go_wp2_with(at_builtin;refine Eu rfl (.tmp 75) (.tmp 77) rfl B (.slice A8 L.length c8) L.length (L.map (Value.int .i64)) rfl d2.out.1 ⟨w9.heap.size,0,none⟩ 1 (.int .i64 (j:Int)) rfl (cell_one_new _ _ _) rfl (by omega) i5 ?hc)
        case hc=>
         intro v' wb b0 hg _;have i6:=hI (d2.out.push b0 hg);have g9:=hI (d2.out.grow i9.out j0 hg);clear b0 hg;go_wp2_with fail
         go_roundw
         case rel=>exact⟨j+1,by omega,by simp,by show D9 _ _ _ _;rw[d5.out,b4.out,if_pos (by simp[hlo]),List.map_append,←HL.out];exact i6.out,g9.out⟩
         case measure=>simp[intOf];omega
       ·go_wp2_with fail
        go_roundw
        case rel=>exact⟨j+1,by omega,by simp,by show D9 _ _ _ _;rw[d5.out,b4.out,if_neg (by simp;omega),List.append_nil];exact a0.out,a3.out⟩
        case measure=>simp[intOf];omega
     ·obtain rfl:j=n:=by omega
      go_wp2
      go_ret2
      exact Jk.own b1.out HN.out.1 HB.out
 ·have g8:(er !=0)=true:=by simpa using he0
  have HV:Hid (Ha n rs (Au xs) (Aj ys) ki kj=(er,[])):=by show _=_;unfold Ha;rw[if_pos (by rw[←b5.out];exact he0),b5.out]
  go_wp2
  go_ret2
  exact Jk.bad HV.out a6.out
end Go.Proofs.YtaglfmlgbcmakaaGreatDoor
namespace Go.Proofs.YtaglfmlgbcmakaaGreatDoor
open Go.RowKit Go.Shelf Go.Sort Go.Lib
theorem Alc (o:Option Nat)(now:Int)(bn:Nat)(w:World)(h:w.heap[bn]? =some (.cells #[.int .i64 now] 2 (0,0))):
  Calls Tryz.prog 103 #[.int .i64 (Bn o), .pointer (some ⟨bn,0,none⟩)] w fun e w'=>e= .returned (.bool (Gt now o))/\w'=w:=by
 obtain⟨x,hx⟩:∃x,x=Bn o:=⟨_,rfl⟩;have HB:=hI (Anx o now w);rw[←hx]at*;clear hx;have c0:=cell_of_one h;clear h;go_enter Tryz.func103,Tryz.ntmps103;go_wp2_with fail;refine HB.out.mono ?_;rintro e w1 ⟨rfl,rfl⟩;go_wp2;go_ret;exact⟨rfl,rfl⟩
def Lt (w:World)(g tb:Nat)(m:Nat)(tt:Nat->Option Nat):Prop:=∃c,w.heap[g]? =some (.cells #[.slice (some ⟨tb,0,none⟩) m c] 192 (0,0))∧∃cur:Array Value,w.heap[tb]? =some (.cells cur 123 (0,0))∧∀j,j<m->cur[j]? =some (.int .i64 (Bn (tt j)))
theorem Lt.keep {w w':World}{g tb m:Nat}{tt:Nat->Option Nat}{S:Nat->Prop}(h:Lt w g tb m tt)(hk:Ba S w w')(h1:¬S g)(h2:¬S tb):Lt w' g tb m tt:=by
 obtain⟨c,hg,cur,ht,hc⟩:=h;exact⟨c,(hk.block g (lt_of_block hg) h1).trans hg,cur,(hk.block tb (lt_of_block ht) h2).trans ht,hc⟩
theorem Afc (i k m g tb:Nat)(tt:Nat->Option Nat)(hi:i<m)(hk:k<m)(w:World)(h:Lt w g tb m tt):
  Calls Tryz.prog 142 #[.int .i64 (i:Int), .int .i64 (k:Int), .pointer (some ⟨g,0,none⟩)] w fun e w'=>e= .returned (.int .i64 (Eh (Ej (tt i)) (Ej (tt k))))/\w'=w.drewN 1:=by
 obtain⟨c,hg,cur,ht,hc⟩:=h;have c0:w.cell? ⟨g,0,none⟩=some (.slice (some ⟨tb,0,none⟩) m c):=by simp[World.cell?,hg]
 have cx:w.cell? ⟨tb,i,none⟩=some (.int .i64 (Bn (tt i))):=by simp[World.cell?,ht,hc i hi]
 have cy:w.cell? ⟨tb,k,none⟩=some (.int .i64 (Bn (tt k))):=by simp[World.cell?,ht,hc k hk]
 have a7:(i:Int)<(m:Int):=by omega
 have a6:(k:Int)<(m:Int):=by omega
 have a4:=hI fun w=>Xw (tt i) w
 have a5:=hI fun w=>Xw (tt k) w
 obtain⟨ri,a2⟩:∃x,x=Ej (tt i):=⟨_,rfl⟩;obtain⟨rk,a3⟩:∃x,x=Ej (tt k):=⟨_,rfl⟩;obtain⟨ai,a0⟩:∃x,x=Bn (tt i):=⟨_,rfl⟩;obtain⟨ak,a1⟩:∃x,x=Bn (tt k):=⟨_,rfl⟩;rw[←a2,←a0]at a4;rw[←a3,←a1]at a5;rw[←a2,←a3];rw[←a0]at cx;rw[←a1]at cy;clear hg ht hc hi hk a2 a3 a0 a1;go_enter Tryz.func142,Tryz.ntmps142;go_wp2_with fail;refine Bg (fun W'=>W'.cell? ⟨g,0,none⟩=some (.slice (some ⟨tb,0,none⟩) m c)/\W'.cell? ⟨tb,i,none⟩=some (.int .i64 ai)/\W'.cell? ⟨tb,k,none⟩=some (.int .i64 ak)) (by kernel_rfl) ⟨c0,cx,cy⟩ (fun hHeld=> ?_)
 (refine' Ae 0 rfl ?_;(try simp only[Act.put,nY,nX]));(refine' Ae 1 rfl ?_;(try simp only[Act.put,nY,nX]));(refine' Ae 2 rfl ?_;(try simp only[Act.put,nY,nX]));(refine' Ae 3 rfl ?_;(try simp only[Act.put,nY,nX]));(refine' Ae 5 rfl ?_;(try simp only[Act.put,nY,nX]));(refine' Ae 6 rfl ?_;(try simp only[Act.put,nY,nX]));(refine' Ae 7 rfl ?_;(try simp only[Act.put,nY,nX]));(refine' Ae 8 rfl ?_;(try simp only[Act.put,nY,nX]))
 (refine Anv 4 rfl (fun K' hK'=> ?_);simp only[nY];go_simp)
 refine(a4.out _).mono ?_;rintro e w1 ⟨rfl,rfl⟩;refine hK' _ _ ⟨.inr hHeld,fun _=> ?_⟩
 clear hK' K'
 (try simp only[Act.put,nY,nX])
 (refine Anv 9 rfl (fun K' hK'=> ?_);simp only[nY];go_simp)
 refine(a5.out _).mono ?_;rintro e w1 ⟨rfl,rfl⟩;refine hK' _ _ ⟨.inr hHeld,fun _=> ?_⟩
 clear hK' K'
 (try simp only[Act.put,nY,nX])
 (refine Anv 10 rfl (fun K' hK'=> ?_);simp only[nY];go_simp)
 refine(Wv ri rk _).mono ?_;rintro e w1 ⟨rfl,rfl⟩;refine hK' _ _ ⟨.inr hHeld,fun _=> ?_⟩
 clear hK' K'
 (try simp only[Act.put,nY,nX])
 (refine Anv 11 rfl (fun K' hK'=> ?_);simp only[nY];go_simp)
 refine hK' _ _ ⟨.inl (by kernel_rfl),fun _=>Bf (by kernel_rfl) ?_ _⟩
 clear hK' K';go_wp2;go_ret;exact⟨rfl,rfl⟩
def F6 (m x:Nat):Nat:=if x<m then x else 0
theorem Adg {m x:Nat}(h:0<m):F6 m x<m:=by unfold F6;split<;>omega
theorem Sq {m x:Nat}(h:x<m):F6 m x=x:=by unfold F6;rw[if_pos h]
theorem Aao {m:Nat}{tt:Nat->Option Nat}{p:Nat->Bool}{op:List Nat}(hop:op=(List.range m).filter p)(hmx:∀i x,tt i=some x->x<9223372036854775807)(hm:0<m):
  (insertionSort (ltOf fun x y=>Eh (Ej (tt (F6 m x))) (Ej (tt (F6 m y)))) op.toArray 0 op.toArray.size).toList=Fr (C0 tt) p m:=by
 have a0:(ltOf fun x y=>Eh (Ej (tt (F6 m x))) (Ej (tt (F6 m y))))=fun i j=>decide (Ej (tt (F6 m i))<Ej (tt (F6 m j))):=by
  funext x y
  unfold ltOf
  have:=Acn (Ej (tt (F6 m x))) (Ej (tt (F6 m y)))
  by_cases h:Ej (tt (F6 m x))<Ej (tt (F6 m y))
  ·rw[decide_eq_true h,decide_eq_true (this.2 h)]
  ·rw[decide_eq_false h,decide_eq_false (fun h'=>h (this.1 h'))]
 rw[a0]
 have hr:∀i j,decide (Ej (tt (F6 m i))<Ej (tt (F6 m j)))=match tt (F6 m i),tt (F6 m j)with|some x,some y=>decide (x<y)|some _,none=>true|none,_=>false:=by
  intro i j
  cases hi:tt (F6 m i)with
  |none=>
   cases hj:tt (F6 m j)with
   |none=>rfl
   |some y=>
    have:=hmx _ _ hj
    show decide ((9223372036854775807:Int)<(y:Int))=false;exact decide_eq_false (by omega)
  |some x=>
   have hx:=hmx _ _ hi
   cases hj:tt (F6 m j)with
   |none=>
    show decide ((x:Int)<(9223372036854775807:Int))=true;exact decide_eq_true (by omega)
   |some y=>
    show decide ((x:Int)<(y:Int))=decide (x<y);by_cases h:x<y
    ·rw[decide_eq_true h,decide_eq_true (by omega)]
    ·rw[decide_eq_false h,decide_eq_false (by omega)]
 have h:=Z9 (t:=fun i=>tt (F6 m i)) (rk:=fun i=>Ej (tt (F6 m i))) hr (p:=p) (m:=m) (d:=op.toArray) hop;rw[h];refine Ng (Cr tt) p m ?_ fun i=>by rw[Fs (Cr _)]
 have hs:=Kq (Cr fun i=>tt (F6 m i)) p m;refine hs.imp_of_mem fun{a b} ha hb hab=> ?_
 rw[Fs (Cr _)]at ha hb;unfold C0 at hab ⊢;simp only[Sq ha.1,Sq hb.1]at hab;exact hab
theorem Fi.put {w:World}{base g cap:Nat}{op:List Nat}{enc:Nat->Value}{q:Nat}{d:Array Nat}(h:Fi w base g cap op)(hd:d.size=op.length)(he:∀x∈d.toList,enc x= .int .i64 (x:Int)):
  Fi ((putRow enc w g 0 d).drewN q) base g cap d.toList:=by
 obtain⟨hb,a2,a0,cur,hg,a4,ht⟩:=h.block;have a3:cap<=9223372036854775807:=a0;refine⟨by simp,Or.inr ⟨g,cap,putCells enc 0 d cur,by simp,hb, ?_,by simp;omega,a0,by unfold putCells;simp;omega, ?_⟩⟩
 ·show(putRow enc w g 0 d).heap[g]? =_;unfold putRow mapBlock;simp only;rw[Array.getElem?_modify,if_pos rfl,hg];rfl
 ·rw[Nat.mul_one];apply List.ext_getElem?;intro j;rw[List.getElem?_take,List.getElem?_map];have a5:d.toList.length=d.size:=by simp
  by_cases hj:j<d.size
  ·rw[if_pos (by simpa using hj)];have a1:j<cur.size:=by omega
   unfold putCells;rw[Array.getElem?_toList,Array.getElem?_mapIdx,Array.getElem?_eq_getElem a1,Option.map_some,if_pos ⟨Nat.zero_le _,by omega⟩,Nat.sub_zero,getElem!_pos d j hj];rw[Array.getElem?_toList,Array.getElem?_eq_getElem hj,Option.map_some,he _ (by simp)]
  ·rw[if_neg (by simpa using hj),Array.getElem?_toList,Array.getElem?_eq_none (by omega)];rfl
theorem Afd {enc:Nat->Value}(w:World)(g q:Nat)(d:Array Nat):Ba (fun k=>k=g) w ((putRow enc w g 0 d).drewN q):=by
 have h:=Mg (enc:=enc) w g q d #[];rwa[sortWorld_none]at h
theorem Am1 (op:List Nat)(base g cap m tg tb:Nat)(tt:Nat->Option Nat)(p:Nat->Bool)(hop:op=(List.range m).filter p)(hmx:∀i x,tt i=some x->x<9223372036854775807)(hm:0<m)(h64:m<=64)
  (w:World) (hO:Fi w base g cap op) (hT:Lt w tg tb m tt) (h1:tg≠g) (h2:tb≠g):
  Calls Tryz.prog 185 #[.slice (some ⟨g,0,none⟩) op.length cap, .int .i64 0, .int .i64 (op.length:Int), .func (.func 142) #[] #[.pointer (some ⟨tg,0,none⟩)]] w fun e w'=>
   e= .returned (.tuple #[])/\Fi w' base g cap (Fr (C0 tt) p m)/\(Fr (C0 tt) p m).length=op.length/\Ba (fun k=>k=g) w w':=by
 obtain⟨hb,a6,a5,cur,hg,a7,ht⟩:=hO.block;have a3:∀x∈op,x<m:=fun x hx=>by rw[hop]at hx;exact List.mem_range.1 (List.mem_filter.1 hx).1
 have a4:op.length<=m:=by rw[hop];exact Nat.le_trans (List.length_filter_le _ _) (by simp)
 have hH:Holds (fun x:Nat=>Value.int .i64 (F6 m x:Nat)) w g 0 op.toArray:=Pj hg fun j x hx=>by
  have a1:op[j]? =some x:=by simpa using hx
  rw[Sq (a3 x (List.mem_of_getElem? a1))];exact Pk ht j x a1
 have a0:=Any.insertionSortCmpFunc_one Tryz.insI (fun x:Nat=>Value.int .i64 (F6 m x:Nat)) (fun _=>rfl) (fun x y=>Eh (Ej (tt (F6 m x))) (Ej (tt (F6 m y)))) 142 #[.pointer (some ⟨tg,0,none⟩)] g 0 cap 0 op.toArray.size op.toArray w
  (enters_of Tryz.func142 (by kernel_rfl) rfl) (fun mm os dk _ x y=> ?hcmp) hH (Nat.zero_le _) rr (by simp;omega)
 case hcmp=>
  have hK:=Mg (enc:=fun x:Nat=>Value.int .i64 (F6 m x:Nat)) w g mm dk os;refine(Afc (F6 m x) (F6 m y) m tg tb tt (Adg hm) (Adg hm) _ (hT.keep hK h1 h2)).mono ?_;rintro e w' ⟨e1,e2⟩;exact⟨e1,1,e2⟩
 rw[show op.toArray.size=op.length from by simp]at a0;refine Calls.mono a0 ?_;rintro e w' ⟨rfl,q,rfl⟩;have hs:=Aao (tt:=tt) hop hmx hm;have a2:(Fr (C0 tt) p m).length=op.length:=by rw[K8 (Cr tt),hop]
 rw[show op.toArray.size=op.length from by simp]at hs;generalize insertionSort (ltOf fun x y=>Eh (Ej (tt (F6 m x))) (Ej (tt (F6 m y)))) op.toArray 0 op.length=d at hs ⊢
 refine⟨rfl, ?_,a2,Afd w g q d⟩;rw[←hs];refine hO.put (by rw[←a2,←hs];simp) fun x hx=> ?_
 rw[hs,Fs (Cr tt)]at hx;rw[Sq hx.1]
end Go.Proofs.YtaglfmlgbcmakaaGreatDoor
namespace Go.Proofs.YtaglfmlgbcmakaaGreatDoor
open Go.RowKit Go.Shelf
theorem Aji (op:List Nat)(base g cap m tg tb:Nat)(tt:Nat->Option Nat)(p:Nat->Bool)(hop:op=(List.range m).filter p)(hmx:∀i x,tt i=some x->x<9223372036854775807)(hm:0<m)(h64:m<=19)
  (w:World) (hO:Fi w base g cap op) (hT:Lt w tg tb m tt) (h1:tg≠g) (h2:tb≠g):
  Calls Tryz.prog 141 #[.slice (some ⟨g,0,none⟩) op.length cap, .func (.func 142) #[] #[.pointer (some ⟨tg,0,none⟩)]] w fun e w'=>
   e= .returned (.tuple #[])/\Fi w' base g cap (Fr (C0 tt) p m)/\(Fr (C0 tt) p m).length=op.length/\Ba (fun k=>k=g) w w':=by
 have HI:=hI (Am1 op base g cap m tg tb tt p hop hmx hm (by omega) w hO hT h1 h2);have a0:op.length<=m:=by rw[hop];exact Nat.le_trans (List.length_filter_le _ _) (by simp)
 obtain⟨n,hn⟩:∃n,n=op.length:=⟨_,rfl⟩;rw[←hn]at HI a0 ⊢;have a2:n<=19:=by omega
 clear hop hmx hm h64 hO hT a0 hn h1 h2
 have a1:Calls Tryz.prog 171 #[.slice (some ⟨g,0,none⟩) n cap, .int .i64 (n:Int), .func (.func 142) #[] #[.pointer (some ⟨tg,0,none⟩)]] w fun e w'=>
   e= .returned (.tuple #[])/\Fi w' base g cap (Fr (C0 tt) p m)/\(Fr (C0 tt) p m).length=n/\Ba (fun k=>k=g) w w':=by
  go_enter Tryz.func171,Tryz.ntmps171;go_wp2_with fail;refine wp_loop_rounds 1 ?_;rw[rounds_succ];go_wp2_with fail;refine HI.out.mono ?_;rintro e w1 ⟨rfl,h1,h2,h3⟩;have H1:=hI h1;have H2:=hI h2;have H3:=hI h3;clear h1 h2 h3;go_wp2_with fail;refine wp_loop_rounds 1 ?_;rw[rounds_succ];go_wp2_with fail
  go_end0
  exact⟨rfl,H1.out,H2.out,H3.out⟩
 have a3:=hI a1;clear a1 HI;go_enter Tryz.func141,Tryz.ntmps141;go_wp2_with fail;refine a3.out.mono ?_;rintro e w1 ⟨rfl,h1,h2,h3⟩;have H1:=hI h1;have H2:=hI h2;have H3:=hI h3;clear h1 h2 h3;go_wp2_with fail
 go_end0
 exact⟨rfl,H1.out,H2.out,H3.out⟩
theorem Afe (tg:Nat)(fv:Value)(hf:fv= .func (.func 142) #[] #[.pointer (some ⟨tg,0,none⟩)])(w:World):
  Calls Tryz.prog 141 #[.slice none 0 0,fv] w fun e w'=>e= .returned (.tuple #[])/\w'=w:=by
 subst hf
 have hi:Calls Tryz.prog 185 #[.slice none 0 0, .int .i64 0, .int .i64 0, .func (.func 142) #[] #[.pointer (some ⟨tg,0,none⟩)]] w fun e w'=>e= .returned (.tuple #[])/\w'=w:=by
  go_enter Tryz.func185,Tryz.ntmps185;go_wp2_with fail;refine wp_loop_rounds 1 ?_;rw[rounds_succ];go_wp2_with fail
  go_end0
  exact⟨rfl,rfl⟩
 have HI:=hI hi
 have a0:Calls Tryz.prog 171 #[.slice none 0 0, .int .i64 0, .func (.func 142) #[] #[.pointer (some ⟨tg,0,none⟩)]] w fun e w'=>e= .returned (.tuple #[])/\w'=w:=by
  go_enter Tryz.func171,Tryz.ntmps171;go_wp2_with fail;refine wp_loop_rounds 1 ?_;rw[rounds_succ];go_wp2_with fail;refine HI.out.mono ?_;rintro e w1 ⟨rfl,rfl⟩;go_wp2_with fail;refine wp_loop_rounds 1 ?_;rw[rounds_succ];go_wp2_with fail
  go_end0
  exact⟨rfl,rfl⟩
 have a1:=hI a0;go_enter Tryz.func141,Tryz.ntmps141;go_wp2_with fail;refine a1.out.mono ?_;rintro e w1 ⟨rfl,rfl⟩;go_wp2_with fail
 go_end0
 exact⟨rfl,rfl⟩
end Go.Proofs.YtaglfmlgbcmakaaGreatDoor
