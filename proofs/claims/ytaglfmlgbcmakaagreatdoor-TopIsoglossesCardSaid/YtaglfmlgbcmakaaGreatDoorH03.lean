/-
  slices.Contains over numbers; which waves are allowed: wave.Wave's check, wave.Check.
  wave.Arrive, wave.Relics.
  wave.Relics.
  cmp.Compare over int, cmp.Or; which wave comes first: arrival's rank and by; wave.Crossed.
  slices.IndexFunc and slices.ContainsFunc over records of type points.end.
  A row of records, as the library's sort sees it.
  The closures of points.New; slices.SortFunc over the ends of roads.
  What wave.Forms keeps: the forms that have been derived, by the indexes of the laws, and those of the points so far.
  The roads at each point, under way (points.New).
  The roads at each point, while they are sorted (points.New).
-/
import Derived.Lib.OwnBridge
import Derived.Maps.OwnSet
import Derived.Laws.IdiomStrings
import Derived.Maps.OwnOps
import Derived.Test.YtaglfmlgbcmakaaGreatDoorH02
set_option linter.all false
set_option maxRecDepth 100000
set_option maxHeartbeats 4000000
namespace Go.Proofs.YtaglfmlgbcmakaaGreatDoor
open Go.RowKit Go.Shelf
theorem Ad9 (A:Option Addr)(n c:Nat)(xs:List Int)(v:Int)(w:World)(hx:Cm w A n c xs):
  Calls Tryz.prog 143 #[.slice A n c, .int .i64 v] w fun e w'=>∃i:Int,e= .returned (.int .i64 i)/\decide (0<=i)=xs.any (fun b=>decide (b=v))/\Below w.heap.size w w':=by
 have a1:n<=9223372036854775807:=by have h1:=hx.2.1;have h2:=hx.2.2.1;unfold maxLen at h2;omega
 have a0:xs.length=n:=by have:=hx.1;simpa using this
 have HX:=hI hx;have HL:=hI a0;clear hx a0;go_enter Tryz.func143,Tryz.ntmps143;go_wp2
 go_loopw [8] (fun i wr=>∃k:Nat,k<=n/\i= .int .i64 (k:Int)/\Hid ((xs.take k).any (fun b=>decide (b=v))=false)/\Hid (Below w.heap.size w wr)) (fun i _=>n-(intOf i).toNat)
 case atStart=>exact⟨0,Nat.zero_le _,rfl,by simp[Hid],Below.refl _ _⟩
 case round=>
  obtain⟨k,hk,rfl,HN,HB⟩:=hrel;by_cases hlt:k<n
  ·have a7:(k:Int)<(n:Int):=by omega
   obtain⟨pb,po,u,hA,a3,hv,a5⟩:=(HX.out.below HB.out rr:Am wr A n c 1 (xs.map (Value.int .i64))).at1 hlt;subst hA;obtain⟨p,hp⟩:∃p,xs[k]? =some p:=⟨xs[k]'(by rw[HL.out];exact hlt),List.getElem?_eq_getElem _⟩;obtain rfl:u= .int .i64 p:=by rw[List.getElem?_map,hp]at hv;simpa using hv.symm
   have a4:Hid (xs.take (k+1)=xs.take k++[p]):=Bp xs k p hp;have a2:=hI (List.mem_of_getElem? hp);clear hv hp a3;by_cases he:v=p
   ·subst he;go_wp2;go_ret;refine⟨(k:Int),rfl, ?_,HB.out⟩;rw[decide_eq_true (by omega)];symm;rw[List.any_eq_true];exact⟨v,a2.out,by simp⟩
   ·have a6:(v==p)=false:=by simpa using he
    go_wp2
    go_roundw
    case rel=>exact⟨k+1,by omega,by simp,by
     show _=_;rw[a4.out,List.any_append,HN.out]
     have:¬p=v:=fun e=>he e.symm
     simp[this],HB.out⟩
    case measure=>simp[intOf];omega
  ·obtain rfl:k=n:=by omega
   go_wp2;go_ret;refine⟨-1,rfl, ?_,HB.out⟩;have h:=HN.out;rw[List.take_of_length_le (by rw[HL.out];exact rr)]at h;rw[h];rfl
theorem Aea (A:Option Addr)(n c:Nat)(xs:List Int)(v:Int)(w:World)(hx:Cm w A n c xs):
  Calls Tryz.prog 105 #[.slice A n c, .int .i64 v] w fun e w'=>e= .returned (.bool (xs.any fun b=>decide (b=v)))/\Below w.heap.size w w':=by
 have HX:=hI hx;clear hx;go_enter Tryz.func105,Tryz.ntmps105;go_wp2_with fail;refine(Ad9 A n c xs v w HX.out).mono ?_;rintro e w1 ⟨i,rfl,hi,a0⟩;have HI:=hI hi;have HB:=hI a0;clear hi a0;go_wp2;go_ret;exact⟨by rw[←HI.out];rfl,HB.out⟩
theorem Abc (b:Nat)(An:Option Addr)(n cn:Nat)(x:Cs)(w:World)(hc:w.cell? ⟨b,0,none⟩=some (.slice An n cn))(hbl:b<w.heap.size)(hx:Hb w x):
  Calls Tryz.prog 61 #[Vo x, .pointer (some ⟨b,0,none⟩)] w fun e w'=>e= .returned (.int .i64 (Ev n x.d))/\Below w.heap.size w w':=by
 obtain⟨a0,hu⟩:=hx;obtain⟨⟨law,ps,T,S,fin⟩,Aw,nw,cw⟩:=x;simp only at a0;have b6:nw<=9223372036854775807:=by have h1:=a0.2.1;have h2:=a0.2.2.1;unfold maxLen at h2;omega
 have a2:ps.length=nw:=by have:=a0.1;simpa using this
 have b9:nw<=cw:=a0.2.1;have HP:=hI a0;have HC:=hI hc;have HL:=hI a2;clear a0 hc a2 hu;have kb:(w.alloc (.cells #[.int .i64 law, .slice Aw nw cw, .int .i64 T, .int .i64 S, .int .i64 fin] 38)).heap[w.heap.size]? =some (.cells #[.int .i64 law, .slice Aw nw cw, .int .i64 T, .int .i64 S, .int .i64 fin] 38 (0,0)):=hpt;have kB:Below w.heap.size w (w.alloc (.cells #[.int .i64 law, .slice Aw nw cw, .int .i64 T, .int .i64 S, .int .i64 fin] 38)):=bel;go_enter Tryz.func61,Tryz.ntmps61;go_wp2_with fail;obtain⟨B0,a8⟩:∃B0,B0=w.heap.size:=⟨_,rfl⟩;rw[←a8]at kb ⊢;have b4:=hI kb;have b3:=hI kB;have d1:w.heap.size<=B0:=Nat.le_of_eq a8.symm;generalize w.alloc (.cells #[.int .i64 law, .slice Aw nw cw, .int .i64 T, .int .i64 S, .int .i64 fin] 38)=W0 at*;clear a8 kb kB
 go_loopw [5,6,10] (fun _ _ i wr=>∃k:Nat,k<=nw/\i= .int .i64 (k:Int)/\Hid (Hl n [] ps=Hl n (ps.take k) (ps.drop k))/\Hid (wr.heap[B0]? =some (.cells #[.int .i64 law, .slice Aw nw cw, .int .i64 T, .int .i64 S, .int .i64 fin] 38 (0,0)))/\Hid (Below w.heap.size w wr)) (fun _ _ i _=>nw-(intOf i).toNat)
 case atStart=>exact⟨0,Nat.zero_le _,rfl,rfl,b4.out,b3.out⟩
 case round=>
  obtain⟨k,hk,rfl,HE,HK,HB⟩:=hrel;clear b4 b3;have c1:=Aa (j:=1) HK.out rfl;by_cases hlt:k<nw
  ·have d3:(k:Int)<(nw:Int):=by omega
   obtain⟨pb,po,v,hA,d0,hv,b5⟩:=(HP.out.below HB.out rr:Am wr Aw nw cw 1 (ps.map (Value.int .i64))).at1 hlt;obtain⟨p,hp⟩:∃p,ps[k]? =some p:=⟨ps[k]'(by rw[HL.out];exact hlt),List.getElem?_eq_getElem _⟩;obtain rfl:v= .int .i64 p:=by rw[List.getElem?_map,hp]at hv;simpa using hv.symm
   have b2:ps.drop k=p::ps.drop (k+1):=by
    rw[List.drop_eq_getElem_cons (by rw[HL.out];exact hlt)];congr 1;exact(List.getElem?_eq_some_iff.1 hp).2
   have b8:Hid (ps.take (k+1)=ps.take k++[p]):=Bp ps k p hp
   have HS:Hid (Hl n (ps.take k) (ps.drop k)=if p<0\/(n:Int)<=p then 3 else if(ps.take k).any (fun b=>decide (b=p))then 6 else Hl n (ps.take (k+1)) (ps.drop (k+1))):=by
    show _=_;rw[b2,b8.out];rfl
   clear hv hp b2
   have a3:∀er:Int,er≠0->Hl n [] ps=er->Ev n ⟨law,ps,T,S,fin⟩=er:=fun er h0 h=>by
    unfold Ev;rw[if_pos (by rw[h];exact h0)];exact h
   have a1:=hI a3;clear a3;by_cases hp0:p<0
   ·subst hA;go_wp2;go_ret;exact⟨by rw[a1.out 3 (by decide) (by rw[HE.out,HS.out,if_pos (.inl hp0)])];rfl,HB.out⟩
   ·subst hA;go_wp2_with fail;refine(F2 b An n cn wr ((HB.out.cell (p:=⟨b,0,none⟩) hbl).trans HC.out)).mono ?_;rintro e w1 ⟨rfl,a5⟩;have a6:=hI ((a5.block B0 (lt_of_block HK.out)).trans HK.out);have c1':=Aa (j:=1) a6.out rfl;have a4:=hI (HB.out.trans (a5.mono HB.out.size));have a9:=(a5.cell (p:=⟨pb,po+k,none⟩) d0).trans b5;clear a5 HK HB c1 b5;by_cases hpn:(n:Int)<=p
    ·go_wp2;go_ret;exact⟨by rw[a1.out 3 (by decide) (by rw[HE.out,HS.out,if_pos (.inr hpn)])];rfl,a4.out⟩
    ·have d2:k<=cw:=by omega
     have b0:=hI (Am.take (HP.out.below a4.out rr) (k:=k) hk);go_wp2_with fail;refine(Aea (some ⟨pb,po,none⟩) k cw (ps.take k) p w1 (by have:=b0.out;rw[Nat.mul_one,←List.map_take]at this;exact this)).mono ?_;rintro e w2 ⟨rfl,a7⟩;have b7:=hI ((a7.block B0 (lt_of_block a6.out)).trans a6.out);have b1:=hI (a4.out.trans (a7.mono a4.out.size));clear a7 a6 a4 c1' a9 b0
     cases han:(ps.take k).any (fun b=>decide (b=p))with
     |true=>
      have HA:=hI han;clear han;go_wp2;go_ret;exact⟨by rw[a1.out 6 (by decide) (by rw[HE.out,HS.out,if_neg (by omega),if_pos HA.out])];rfl,b1.out⟩
     |false=>
      have HA:=hI han;clear han;go_wp2_with fail
      go_roundw
      case rel=>exact⟨k+1,by omega,by simp,by
       show _=_;rw[HE.out,HS.out,if_neg (by omega),if_neg (by rw[HA.out];simp)],b7.out,b1.out⟩
      case measure=>simp[intOf];omega
  ·obtain rfl:k=nw:=by omega
   have HZ:Hid (Hl n [] ps=0):=by
    show _=_;rw[HE.out,List.drop_eq_nil_of_le (by rw[HL.out];exact rr)];rfl
   have HV:Hid (Ev n ⟨law,ps,T,S,fin⟩=if min T S<0\/1073741824<max T S then 2 else 0):=by
    show _=_;unfold Ev;rw[if_neg (by rw[HZ.out];simp)]
   have c2:=Aa (j:=2) HK.out rfl;have c3:=Aa (j:=3) HK.out rfl;clear HE;by_cases h1:min T S<0
   ·go_wp2;go_ret;exact⟨by rw[HV.out,if_pos (.inl h1)];rfl,HB.out⟩
   ·by_cases h2:1073741824<max T S
    ·go_wp2;go_ret;exact⟨by rw[HV.out,if_pos (.inr h2)];rfl,HB.out⟩
    ·have h3:¬(min T S<0\/1073741824<max T S):=by omega
     have H3:=hI h3;clear h3;go_wp2;go_ret;exact⟨by rw[HV.out,if_neg H3.out];rfl,HB.out⟩
theorem X0 {α:Type}{l:List α}{k:Nat}{x:α}(h:l[k]? =some x):l.drop k=x::l.drop (k+1):=by
 have hk:=(List.getElem?_eq_some_iff.1 h).1;rw[List.drop_eq_getElem_cons hk];congr 1;exact(List.getElem?_eq_some_iff.1 h).2
theorem Pi (b n:Nat)(rs:List Bh)(Ax:Option Addr)(nx cx:Nat)(xs:List B8)(A:Option Addr)(m c:Nat)(ys:List Cs)(w:World)(hm:Cl w b n rs)(hx:B1 w Ax nx cx xs)(hy:Ci w A m c ys)(hT:Cc w):
  Calls Tryz.prog 37 #[.pointer (some ⟨b,0,none⟩), .slice Ax nx cx, .slice A m c] w fun e w'=>e= .returned (.int .i64 (Dr n (Ak xs) (Af ys)))/\Below w.heap.size w w':=by
 obtain⟨An,cn,mb,Ar,cr,Aq,cq,c0,c1,c2,c3⟩:=hm.cells;have b7:=hm.lt;have d7:=hy.max;have d5:=hx.max;have HM:=hI hm;have HX:=hI hx;have HY:=hI hy;have HT:=hI hT;have HC:=hI c0;have d4:Hid ((Ak xs).length=nx):=by show _=_;rw[Ak,List.length_map];exact hx.len
 have b6:Hid ((Af ys).length=m):=by show _=_;rw[Af,List.length_map];exact hy.len
 clear hm hx hy hT c0 c1 c2 c3;go_enter Tryz.func37,Tryz.ntmps37;go_wp2_with fail;refine(F2 b An n cn w HC.out).mono ?_;rintro e w1 ⟨rfl,b5⟩;have a5:=hI b5;clear b5;by_cases hn0:n=0
 ·have HV:Hid (Dr n (Ak xs) (Af ys)=1):=by show _=_;unfold Dr;rw[if_pos hn0]
  have hz:(n:Int)=0:=by omega
  go_wp2;go_ret;exact⟨by rw[HV.out];rfl,a5.out⟩
 ·have hz:((n:Int)==0)=false:=by simpa using hn0
  have HV:Hid (Dr n (Ak xs) (Af ys)=if Dm (Ak xs)≠0 then Dm (Ak xs)else if 64<(Af ys).length then 12 else Fs n (Ak xs).length (Af ys)):=by show _=_;unfold Dr;rw[if_neg hn0]
  go_wp2_with fail;refine(Rx Ax nx cx xs w1 (HX.out.below a5.out rr)).mono ?_;obtain⟨er,b0⟩:∃er,er=Dm (Ak xs):=⟨_,rfl⟩;rw[←b0];rintro e w2 ⟨rfl,b2⟩;have a8:=hI (a5.out.trans (b2.mono a5.out.size));have a6:=hI b0;clear b2 a5 b0;by_cases he0:er=0
  ·have d1:(er !=0)=false:=by simp[he0]
   have a4:Hid (Dr n (Ak xs) (Af ys)=if 64<m then 12 else Fs n nx (Af ys)):=by
    show _=_;rw[HV.out,if_neg (by rw[←a6.out];simpa using he0),d4.out,b6.out]
   clear HV a6 he0;by_cases hm64:64<m
   ·have a3:(64:Int)<(m:Int):=by omega
    go_wp2;go_ret;exact⟨by rw[a4.out,if_pos hm64];rfl,a8.out⟩
   ·have a3:¬(64:Int)<(m:Int):=by omega
    have a9:Hid (Dr n (Ak xs) (Af ys)=Fs n nx (Af ys)):=by show _=_;rw[a4.out,if_neg hm64]
    clear a4;go_wp2_with fail
    go_loopw [24] (fun i wr=>∃k:Nat,k<=m/\i= .int .i64 (k:Int)/\Hid (Fs n nx (Af ys)=Fs n nx ((Af ys).drop k))/\Hid (Below w.heap.size w wr)) (fun i _=>m-(intOf i).toNat)
    case atStart=>exact⟨0,Nat.zero_le _,rfl,rfl,a8.out⟩
    case round=>
     obtain⟨k,hk,rfl,HE,HB⟩:=hrel;clear a8;by_cases hlt:k<m
     ·have d6:(k:Int)<(m:Int):=by omega
      obtain⟨x,hx⟩:=(HY.out.below HB.out).get hlt;obtain⟨yb,yo,hA,d8,b9,k0,k1,k2,k3,k4⟩:=(HY.out.below HB.out).at_ hx;subst hA;have b8:(Af ys)[k]? =some x.d:=by rw[Af,List.getElem?_map,hx];rfl
      have HS:Hid (Fs n nx ((Af ys).drop k)=if x.d.law<0\/(nx:Int)<=x.d.law then 3 else if Ev n x.d≠0 then Ev n x.d else Fs n nx ((Af ys).drop (k+1))):=by
       show _=_;rw[X0 b8];rfl
      have d0:=hI b9;clear hx b8 b9;obtain⟨⟨law,ps,T,S,fin⟩,Aw,nw,cw⟩:=x;simp only at k0 k1 k2 k3 k4;have d2:=d0.out.u.law;simp only at d2;have a1:Hid (Below w.heap.size w (wr.alloc (.cells #[.int .i64 law, .slice Aw nw cw, .int .i64 T, .int .i64 S, .int .i64 fin] 38))):=HB.out.alloc HB.out.size _;have hsz:=HB.out.size;by_cases hl0:law<0
      ·go_wp2;go_ret;exact⟨by rw[a9.out,HE.out,HS.out,if_pos (.inl hl0)];rfl,a1.out⟩
      ·by_cases hln:(nx:Int)<=law
       ·go_wp2;go_ret;exact⟨by rw[a9.out,HE.out,HS.out,if_pos (.inr hln)];rfl,a1.out⟩
       ·have a7:Hid (Fs n nx ((Af ys).drop k)=if Ev n ⟨law,ps,T,S,fin⟩≠0 then Ev n ⟨law,ps,T,S,fin⟩else Fs n nx ((Af ys).drop (k+1))):=by
         show _=_
         have:=HS.out
         rw[if_neg (by show¬(law<0\/(nx:Int)<=law);omega)]at this;exact this
        clear HS;go_wp2_with fail;refine(Abc b An n cn ⟨⟨law,ps,T,S,fin⟩,Aw,nw,cw⟩ _ ((a1.out.cell (p:=⟨b,0,none⟩) b7).trans HC.out) (Nat.lt_of_lt_of_le b7 a1.out.size) (d0.out.below ((Below.refl _ wr).alloc rr _))).mono ?_;obtain⟨e1,a0⟩:∃e1,e1=Ev n ⟨law,ps,T,S,fin⟩:=⟨_,rfl⟩;rw[←a0];rintro e w3 ⟨rfl,b4⟩;have b3:=hI (a1.out.trans (b4.mono a1.out.size));have a2:=hI a0;clear b4 a1 HB a0 hsz;by_cases h10:e1=0
        ·have d3:(e1 !=0)=false:=by simp[h10]
         have b1:Hid (Fs n nx ((Af ys).drop k)=Fs n nx ((Af ys).drop (k+1))):=by
          show _=_;rw[a7.out,if_neg (by rw[←a2.out];simpa using h10)]
         clear a7 a2 h10;go_wp2_with fail
         go_roundw
         case rel=>exact⟨k+1,by omega,by simp,by show _=_;rw[HE.out,b1.out],b3.out⟩
         case measure=>simp[intOf];omega
        ·have d3:(e1 !=0)=true:=by simpa using h10
         have b1:Hid (Fs n nx ((Af ys).drop k)=e1):=by
          show _=_;rw[a7.out,if_pos (by rw[←a2.out];exact h10),a2.out]
         clear a7 a2 h10;go_wp2;go_ret;exact⟨by rw[a9.out,HE.out,b1.out];rfl,b3.out⟩
     ·obtain rfl:k=m:=by omega
      go_wp2;go_ret;exact⟨by rw[a9.out,HE.out,List.drop_eq_nil_of_le (by rw[b6.out];exact rr)];rfl,HB.out⟩
  ·have d1:(er !=0)=true:=by simpa using he0
   have a4:Hid (Dr n (Ak xs) (Af ys)=er):=by
    show _=_;rw[HV.out,if_pos (by rw[←a6.out];exact he0),a6.out]
   clear HV a6 he0;go_wp2;go_ret;exact⟨by rw[a4.out];rfl,a8.out⟩
def Ji (w:World)(r:Int×List Int)(e:Ending)(w':World):Prop:=
 ∃A m c,e= .returned (.tuple #[.slice A m c, .int .i64 r.1])/\Cm w' A m c r.2/\Below w.heap.size w w'
theorem Ji.bad {w w':World}{r:Int×List Int}{er:Int}(h:r=(er,[]))(hb:Below w.heap.size w w'):Ji w r (.returned (.tuple #[.slice none 0 0, .int .i64 er])) w':=by
 subst h;exact⟨none,0,0,rfl,Am.nil _ _,hb⟩
theorem Qx {n g:Nat}{f:Nat->Int}{t:TypeId}{w:World}(hg:w.heap[g]? =some (.cells (Et n f) t (0,0)))(hn:n<=4096):Cm w (some ⟨g,0,none⟩) n n ((List.range n).map f):=
 ⟨by simp,rr,by unfold maxLen;omega,(fun h=>by cases h),fun h=>⟨g,0,rfl,lt_of_block hg,fun j v hv=>by
  rw[Nat.zero_add];refine Aa hg ?_;unfold Et;simpa using hv⟩⟩
theorem Tq (b n:Nat)(rs:List Bh)(x:Cs)(w:World)(hm:Cl w b n rs)(hx:Hb w x):
  Calls Tryz.prog 20 #[.pointer (some ⟨b,0,none⟩),Vo x] w (Ji w (Ff n rs x.d)):=by
 obtain⟨An,cn,mb,Ar,cr,Aq,cq,c0,c1,c2,c3⟩:=hm.cells;have b0:=hm.lt;have d0:=hm.few;obtain⟨⟨law,ps,T,S,fin⟩,Aw,nw,cw⟩:=x;have HM:=hI hm;have HX:=hI hx;have HC:=hI c0;clear hm hx c0 c1 c2 c3;have kb:(w.alloc (.cells #[.int .i64 law, .slice Aw nw cw, .int .i64 T, .int .i64 S, .int .i64 fin] 38)).heap[w.heap.size]? =some (.cells #[.int .i64 law, .slice Aw nw cw, .int .i64 T, .int .i64 S, .int .i64 fin] 38 (0,0)):=hpt;have kB:Below w.heap.size w (w.alloc (.cells #[.int .i64 law, .slice Aw nw cw, .int .i64 T, .int .i64 S, .int .i64 fin] 38)):=bel;go_enter Tryz.func20,Tryz.ntmps20;go_wp2_with fail;obtain⟨B0,b6⟩:∃B0,B0=w.heap.size:=⟨_,rfl⟩;rw[←b6]at kb ⊢;have b7:=hI kb;have a8:=hI kB;have f3:w.heap.size<=B0:=Nat.le_of_eq b6.symm;generalize w.alloc (.cells #[.int .i64 law, .slice Aw nw cw, .int .i64 T, .int .i64 S, .int .i64 fin] 38)=W0 at*;clear b6 kb kB;refine(F2 b An n cn W0 ((a8.out.cell (p:=⟨b,0,none⟩) b0).trans HC.out)).mono ?_;rintro e w1 ⟨rfl,b4⟩;have a0:=hI ((b4.block B0 (lt_of_block b7.out)).trans b7.out);have a2:=hI (a8.out.trans (b4.mono a8.out.size));clear b4 b7 a8;by_cases hn0:n=0
 ·have HV:Hid (Ff n rs ⟨law,ps,T,S,fin⟩=(1,[])):=by show _=_;unfold Ff;rw[if_pos hn0]
  have hz:(n:Int)=0:=by omega
  go_wp2
  go_ret2
  exact Ji.bad HV.out a2.out
 ·have hz:((n:Int)==0)=false:=by simpa using hn0
  have HV:Hid (Ff n rs ⟨law,ps,T,S,fin⟩=if Ev n ⟨law,ps,T,S,fin⟩≠0 then(Ev n ⟨law,ps,T,S,fin⟩,[])else(0,(List.range n).map fun a=>Bx (Hn n rs ⟨law,ps,T,S,fin⟩ a))):=by show _=_;unfold Ff;rw[if_neg hn0]
  have k0:=Aa (j:=0) a0.out rfl;have k1:=Aa (j:=1) a0.out rfl;have k2:=Aa (j:=2) a0.out rfl;have k3:=Aa (j:=3) a0.out rfl;have k4:=Aa (j:=4) a0.out rfl;go_wp2_with fail;clear k0 k1 k2 k3 k4;refine(Abc b An n cn ⟨⟨law,ps,T,S,fin⟩,Aw,nw,cw⟩ w1 ((a2.out.cell (p:=⟨b,0,none⟩) b0).trans HC.out) (Nat.lt_of_lt_of_le b0 a2.out.size) (HX.out.below a2.out)).mono ?_;obtain⟨e1,a1⟩:∃e1,e1=Ev n ⟨law,ps,T,S,fin⟩:=⟨_,rfl⟩;rw[←a1];rintro e w2 ⟨rfl,b1⟩;have b2:=hI ((b1.block B0 (lt_of_block a0.out)).trans a0.out);have a4:=hI (a2.out.trans (b1.mono a2.out.size));have a3:=hI a1;clear b1 a0 a2 a1;by_cases h10:e1=0
  ·have d7:(e1 !=0)=false:=by simp[h10]
   have d3:Hid (Ev n ⟨law,ps,T,S,fin⟩=0):=by show _=_;rw[←a3.out,h10]
   have a7:Hid (Ff n rs ⟨law,ps,T,S,fin⟩=(0,(List.range n).map fun a=>Bx (Hn n rs ⟨law,ps,T,S,fin⟩ a))):=by show _=_;rw[HV.out,if_neg (by rw[d3.out];simp)]
   clear HV a3 h10;go_wp2_with fail;refine(F2 b An n cn w2 ((a4.out.cell (p:=⟨b,0,none⟩) b0).trans HC.out)).mono ?_;rintro e w3 ⟨rfl,b3⟩;have a6:=hI ((b3.block B0 (lt_of_block b2.out)).trans b2.out);have a5:=hI (a4.out.trans (b3.mono a4.out.size));clear b3 b2 a4;have d6:=fun w=>run_make_row' (P:=Tryz.prog) 42 2 (.int .i64 0) 8 Tryz.underlying42 Su rfl .i64 .i64 n (by omega) (by omega) w
   have f4:n<=maxLen:=by unfold maxLen;omega
   go_wp2_with fail;clear d6;rw[Lw];have b5:Hid ((w3.alloc (.cells (Et n fun _=>0) 2)).heap[w3.heap.size]? =some (.cells (Et n fun _=>0) 2 (0,0))):=Ah rfl;have d1:=hI ((Aj (lt_of_block a6.out):(w3.alloc (.cells (Et n fun _=>0) 2)).heap[B0]? =_).trans a6.out);have d2:Hid (Below w.heap.size w (w3.alloc (.cells (Et n fun _=>0) 2))):=a5.out.alloc a5.out.size _;have b9:=a5.out.size;have f2:B0<w3.heap.size:=lt_of_block a6.out;obtain⟨g,hg⟩:∃g,g=w3.heap.size:=⟨_,rfl⟩;rw[←hg]at b5 f2 b9 ⊢;generalize w3.alloc (.cells (Et n fun _=>0) 2)=w4 at*;clear hg a6 a5
   go_loopw [8,23] (fun _ i wr=>∃k:Nat,k<=n/\i= .int .i64 (k:Int)/\Hid (wr.heap[g]? =some (.cells (Et n fun v=>if v<k then Bx (Hn n rs ⟨law,ps,T,S,fin⟩ v)else 0) 2 (0,0)))/\Hid (wr.heap[B0]? =some (.cells #[.int .i64 law, .slice Aw nw cw, .int .i64 T, .int .i64 S, .int .i64 fin] 38 (0,0)))/\Hid (Below w.heap.size w wr)) (fun _ i _=>n-(intOf i).toNat)
   case atStart=>exact⟨0,Nat.zero_le _,rfl,by show _=_;simpa using b5.out,d1.out,d2.out⟩
   case round=>
    obtain⟨k,hk,rfl,HG,HK,HB⟩:=hrel;clear b5 d1 d2;by_cases hlt:k<n
    ·have f5:(k:Int)<(n:Int):=by omega
     have k0:=Aa (j:=0) HK.out rfl;have k1:=Aa (j:=1) HK.out rfl;have k2:=Aa (j:=2) HK.out rfl;have k3:=Aa (j:=3) HK.out rfl;have k4:=Aa (j:=4) HK.out rfl;go_wp2_with fail;clear k0 k1 k2 k3 k4;refine(Aes b n rs ⟨⟨law,ps,T,S,fin⟩,Aw,nw,cw⟩ k wr (HM.out.below HB.out) (HX.out.below HB.out) d3.out hlt).mono ?_;obtain⟨t,ht⟩:∃t,t=Bx (Hn n rs ⟨law,ps,T,S,fin⟩ k):=⟨_,rfl⟩;rw[←ht];rintro e w5 ⟨rfl,a9⟩;have b8:=hI ((a9.block g (lt_of_block HG.out)).trans HG.out);have f0:=hI ((a9.block B0 (lt_of_block HK.out)).trans HK.out);have f1:=hI (HB.out.trans (a9.mono HB.out.size));have d4:=hI ht;clear a9 HG HK HB ht;have cg:=Jf b8.out hlt;have fg:w5.frozen? ⟨g,k,none⟩=false:=by simp[World.frozen?,b8.out]
     have d8:Hid ((w5.setCell ⟨g,k,none⟩ (.int .i64 t)).heap[g]? =some (.cells (Et n fun v=>if v<k+1 then Bx (Hn n rs ⟨law,ps,T,S,fin⟩ v)else 0) 2 (0,0))):=by
      show _=_
      rw[B2 b8.out,Nz (g:=fun v=>if v<k+1 then Bx (Hn n rs ⟨law,ps,T,S,fin⟩ v)else 0) (by simp[d4.out]) fun v _ hv=>by
       by_cases e:v<k
       ·simp[e,Nat.lt_succ_of_lt e]
       ·have:¬v<k+1:=by omega
        simp[e,this]]
     have d9:=hI ((Below.heap_setCell w5 ⟨g,k,none⟩ (.int .i64 t) B0 (by show B0≠g;omega)).trans f0.out);have d5:=hI (f1.out.setCell (p:=⟨g,k,none⟩) (by show w.heap.size<=g;omega) (.int .i64 t));go_wp2_with fail
     go_roundw
     case rel=>exact⟨k+1,by omega,by simp,d8.out,d9.out,d5.out⟩
     case measure=>simp[intOf];omega
    ·obtain rfl:k=n:=by omega
     go_wp2
     go_ret2
     have hr:=Qx HG.out (by omega);refine⟨_,_,_,by rw[a7.out];rfl, ?_,HB.out⟩;rw[a7.out];show Cm _ _ _ _ ((List.range k).map fun a=>Bx (Hn k rs ⟨law,ps,T,S,fin⟩ a));rw[show((List.range k).map fun a=>Bx (Hn k rs ⟨law,ps,T,S,fin⟩ a))=(List.range k).map fun v=>if v<k then Bx (Hn k rs ⟨law,ps,T,S,fin⟩ v)else 0 from List.map_congr_left fun v hv=>by rw[if_pos (List.mem_range.1 hv)]]
     exact hr
  ·have d7:(e1 !=0)=true:=by simpa using h10
   have a7:Hid (Ff n rs ⟨law,ps,T,S,fin⟩=(e1,[])):=by show _=_;rw[HV.out,if_pos (by rw[←a3.out];exact h10),a3.out]
   clear HV a3 h10;go_wp2
   go_ret2
   exact Ji.bad a7.out a4.out
theorem Ji.own {w W:World}{r:Int×List Int}{B:Nat}{v:Value}{l:List Int}(hr:r=(0,l))(h:W.ownsRow B 3 1 v l.length (l.map (Value.int .i64)))(hb:Below w.heap.size w W):Ji w r (.returned (.tuple #[v, .int .i64 0])) W:=by
 subst hr;obtain⟨A,c,rfl⟩:=Bg h;exact⟨A,_,c,rfl,Am.of_own h (by decide),hb⟩
def Ee (w:World)(B:Nat)(v:Value)(l:List Int):Prop:=w.ownsRow B 3 1 v l.length (l.map (Value.int .i64))/\B<=w.heap.size
theorem Ee.nil {w:World}{B:Nat}(h:B<=w.heap.size):Ee w B (.slice none 0 0) []:=⟨World.ownsRow_nil _ _ _ _,h⟩
theorem Ee.below {w w':World}{B:Nat}{v:Value}{l:List Int}(h:Ee w B v l)(hb:Below w.heap.size w w'):Ee w' B v l:=
 ⟨Be h.1 fun k e=>hb.block k (h.1.lt k e).2,Nat.le_trans h.2 hb.size⟩
theorem Ee.push {w W:World}{B:Nat}{v v':Value}{l:List Int}{x:Int}(h:Ee w B v l)(hown:W.ownsRow B 3 1 v' (l.length+1) (l.map (Value.int .i64)++[.int .i64 x]))(hg:w.grownBy W v.ownBlock):Ee W B v' (l++[x]):=
 ⟨by rw[List.length_append,List.map_append];exact hown,Nat.le_trans h.2 hg.size⟩
theorem Ee.grow {w W w0:World}{B:Nat}{v:Value}{l:List Int}(h:Ee w B v l)(hb:Below w0.heap.size w0 w)(hB:w0.heap.size<=B)(hg:w.grownBy W v.ownBlock):Below w0.heap.size w0 W:=
 hb.grown hg hb.size fun k e=>Nat.le_trans hB (h.1.lt k e).1
theorem Ee.form {w:World}{B:Nat}{v:Value}{l:List Int}(h:Ee w B v l):∃A c,v= .slice A l.length c:=Bg h.1
theorem Pj (x:Int)(w:World):Calls Tryz.prog 101 #[.int .i64 x] w fun e w'=>e= .returned (.bool false)/\w'=w:=by
 go_enter Tryz.func101,Tryz.ntmps101;go_wp2;go_ret;simp
theorem Aeb (x y:Int)(w:World):Calls Tryz.prog 57 #[.int .i64 x, .int .i64 y] w fun e w'=>e= .returned (.int .i64 (Ed x y))/\w'=w:=by
 go_enter Tryz.func57,Tryz.ntmps57;by_cases h1:x<y
 ·have h2:Ed x y= -1:=by unfold Ed;rw[if_pos h1]
  rw[h2];go_wp2_with(go_at_call 101;refine(Pj _ _).mono ?_;rintro e w1 ⟨rfl,rfl⟩);go_ret;exact⟨rfl,rfl⟩
 ·by_cases h2:y<x
  ·have h3:Ed x y=1:=by unfold Ed;rw[if_neg h1,if_pos h2]
   rw[h3];go_wp2_with(go_at_call 101;refine(Pj _ _).mono ?_;rintro e w1 ⟨rfl,rfl⟩);go_ret;exact⟨rfl,rfl⟩
  ·have h3:Ed x y=0:=by unfold Ed;rw[if_neg h1,if_neg h2]
   rw[h3];go_wp2_with(go_at_call 101;refine(Pj _ _).mono ?_;rintro e w1 ⟨rfl,rfl⟩);go_ret;exact⟨rfl,rfl⟩
def D7:Option Nat->Int
 |none=>9223372036854775807
 |some t=>t
theorem Abd (o:Option Nat)(w:World):Calls Tryz.prog 77 #[.int .i64 (Bx o)] w fun e w'=>e= .returned (.int .i64 (D7 o))/\w'=w:=by
 cases o with
 |none=>
  simp only[Bx];go_enter Tryz.func77,Tryz.ntmps77;go_wp2;go_ret;exact⟨rfl,rfl⟩
 |some t=>
  have h:((t:Int)== -1)=false:=by simp
  simp only[Bx];go_enter Tryz.func77,Tryz.ntmps77;go_wp2;go_ret;exact⟨rfl,rfl⟩
theorem Aew (o:Option Nat)(now:Int)(w:World):Calls Tryz.prog 104 #[.int .i64 (Bx o), .int .i64 now] w fun e w'=>e= .returned (.bool (G0 now o))/\w'=w:=by
 cases o with
 |none=>
  simp only[Bx];go_enter Tryz.func104,Tryz.ntmps104;go_wp2;go_ret;exact⟨rfl,rfl⟩
 |some t=>
  have h:((t:Int) != -1)=true:=by simp
  simp only[Bx];go_enter Tryz.func104,Tryz.ntmps104;go_wp2;go_ret;exact⟨rfl,rfl⟩
theorem Yx (A:Option Addr)(n c:Nat)(xs:List (Nat×Nat))(F:Nat)(lb:Array Value)(p:(Nat×Nat)->Bool)(w:World)(hx:Dg Hm 2 w A n c xs)(hE:Enters Tryz.prog F)
  (hcall:∀W,Below w.heap.size w W→∀s∈xs,Calls Tryz.prog F (#[.agg #[.int .i64 (s.1:Int), .int .i64 (s.2:Int)]]++lb) W fun e W'=>e= .returned (.bool (p s))/\Below W.heap.size W W'):
  Calls Tryz.prog 98 #[.slice A n c, .func (.func F) #[] lb] w fun e w'=>e= .returned (.int .i64 (Ex p xs))/\Below w.heap.size w w':=by
 have hm:n<=9223372036854775807:=by have h1:=hx.1.2.1;have h2:=hx.1.2.2.1;unfold maxLen at h2;omega
 have HX:=hI hx;clear hx;have HC:=hI hcall;clear hcall;unfold Enters at hE;go_enter Tryz.func98,Tryz.ntmps98;go_wp2
 go_loopw [5,8] (fun _ i wr=>∃k:Nat,k<=n/\i= .int .i64 k/\Hid ((xs.take k).any p=false)/\Below w.heap.size w wr) (fun _ i _=>n-(intOf i).toNat)
 case atStart=>exact⟨0,Nat.zero_le _,rfl,by simp[Hid],Below.refl _ _⟩
 case round=>
  obtain⟨k,hk,rfl,HA,hB⟩:=hrel;by_cases hlt:k<n
  ·obtain⟨s,a2⟩:∃s,xs[k]? =some s:=⟨xs[k]'(by rw[HX.out.2];exact hlt),List.getElem?_eq_getElem _⟩;obtain⟨b,off,rfl,hb,a4⟩:=(HX.out.below hB rr).at_ Ht (by decide) a2;have a6:=a4 0 _ rfl;have a7:=a4 1 _ rfl;simp only[Nat.add_zero,←Nat.add_assoc]at a6 a7;clear a4;have a0:=hI (HC.out wr hB s (List.mem_of_getElem? a2));have HK:=hI a2;clear a2;by_cases hp:p s=true
   ·have hr:=Fb p xs k s HK.out HA.out hp;have HR:=hI hr;clear hr;have HP:=hI hp;clear hp;go_wp2_with fail;refine a0.out.mono ?_;rintro e w1 ⟨rfl,a1⟩;rw[HP.out];have a3:=hB.trans (a1.mono hB.size);clear a1;go_wp2;go_ret;exact⟨by rw[HR.out];rfl,a3⟩
   ·have a5:p s=false:=by simpa using hp
    have HP:=hI a5;clear hp a5;go_wp2_with fail;refine a0.out.mono ?_;rintro e w1 ⟨rfl,a1⟩;rw[HP.out];have a3:=hB.trans (a1.mono hB.size);clear a1;go_wp2
    go_roundw
    case rel=>exact⟨k+1,by omega,by go_num,by rw[Bp xs k _ HK.out,List.any_append,HA.out];simp[HP.out,Hid],a3⟩
    case measure=>simp[intOf];omega
  ·obtain rfl:k=n:=by omega
   have hr:Ex p xs= -1:=by
    have:=HA.out
    rw[List.take_of_length_le (by rw[HX.out.2];exact rr)]at this;exact Fa p xs this
   have HR:=hI hr;clear hr;go_wp2;go_ret;exact⟨by rw[HR.out];rfl,hB⟩
theorem Yy (A:Option Addr)(n c:Nat)(xs:List (Nat×Nat))(F:Nat)(lb:Array Value)(p:(Nat×Nat)->Bool)(w:World)(hx:Dg Hm 2 w A n c xs)(hE:Enters Tryz.prog F)
  (hcall:∀W,Below w.heap.size w W→∀s∈xs,Calls Tryz.prog F (#[.agg #[.int .i64 (s.1:Int), .int .i64 (s.2:Int)]]++lb) W fun e W'=>e= .returned (.bool (p s))/\Below W.heap.size W W'):
  Calls Tryz.prog 53 #[.slice A n c, .func (.func F) #[] lb] w fun e w'=>e= .returned (.bool (xs.any p))/\Below w.heap.size w w':=by
 have a0:=Yx A n c xs F lb p w hx hE hcall;have H:=hI (Gq p xs);clear hx hcall hE;go_enter Tryz.func53,Tryz.ntmps53;go_wp2_with(go_at_call 98;refine a0.mono ?_;rintro e w1 ⟨rfl,a1⟩);go_ret;refine⟨?_,a1⟩;show Ending.returned (.bool (decide (0<=Ex p xs)))=_;rw[H.out]
end Go.Proofs.YtaglfmlgbcmakaaGreatDoor
namespace Go.Proofs.YtaglfmlgbcmakaaGreatDoor
open Go.RowKit Go.Shelf Go.Sort
-- a row of records, as the sort sees it
theorem S7 {α:Type} [Inhabited α](enc:α->List Value)(k:Nat)(hk:∀x,(enc x).length=k)(h0:0<k)(l:List α):flatK enc k l.toArray=(l.flatMap enc).toArray:=by
 apply ext_get!
 ·simp[La enc k hk]
 ·intro t ht;have a0:t<l.length*k:=by simpa using ht
  rw[get_flatK _ _ _ _ (by simpa using a0)];have hq:t/k<l.length:=Nat.div_lt_of_lt_mul (by rw[Nat.mul_comm];exact a0);have hm:t%k<k:=Nat.mod_lt _ h0;have hx:l[t/k]? =some l[t/k]:=List.getElem?_eq_getElem hq;have hl:t%k<(enc l[t/k]).length:=by rw[hk];exact hm
  have h3:=Rf enc k hk l (t/k) _ hx (t%k) _ (List.getElem?_eq_getElem hl);rw[show t/k*k+t%k=t by rw[Nat.mul_comm];exact Nat.div_add_mod t k]at h3;have e1:(l.toArray)[t/k]! =l[t/k]:=by simp[getElem!_pos,hq]
  rw[e1]
  have e2:((l.flatMap enc).toArray)[t]! =(enc l[t/k])[t%k]:=by
   have a1:=(List.getElem?_eq_some_iff.1 h3).1;rw[getElem!_pos ((l.flatMap enc).toArray) t (by simpa using a1)];simpa using(List.getElem?_eq_some_iff.1 h3).2
  rw[e2,getElem!_pos (enc l[t/k]) (t%k) hl]
theorem Xj {α:Type} [Inhabited α]{enc:α->List Value}{k:Nat}(hk:∀x,(enc x).length=k)(h0:0<k){w:World}{base g n c:Nat}{e:TypeId}{l:List α}(h:w.ownsRow base e k (.slice (some ⟨g,0,none⟩) n c) n (l.flatMap enc)):
  HoldsK enc k w g 0 l.toArray:=by
 unfold HoldsK Holds;rw[S7 enc k hk h0];intro j hj;obtain⟨h1,⟨e0,_⟩|⟨g',cap',cur,e0,hb,hg,hn,hm,hs,ht⟩⟩:=h
 ·cases e0
 injection e0 with e1 _ e3
 injection e1 with e1
 injection e1 with e1
 subst e1;have a0:j<(l.flatMap enc).length:=by simpa using hj
 have a1:j<cur.size:=by rw[hs];rw[h1]at a0;exact Nat.lt_of_lt_of_le a0 (Nat.mul_le_mul_right k hn)
 have e5:cur[j]? =some (l.flatMap enc)[j]:=by
  have h5:=congrArg (fun x:List Value=>x[j]?) ht;simp only[List.getElem?_take]at h5;rw[if_pos (by rw[←h1];exact a0),Array.getElem?_toList,List.getElem?_eq_getElem a0]at h5;exact h5
 refine⟨?_, ?_⟩
 ·rw[getElem!_pos ((l.flatMap enc).toArray) j hj];simp[World.cell?,hg,e5]
 ·simp[World.frozen?,hg]
theorem S8 {α:Type} [Inhabited α]{enc:α->List Value}{k:Nat}(hk:∀x,(enc x).length=k)(h0:0<k){w:World}{g c:Nat}{l:List α}(h:HoldsK enc k w g 0 l.toArray)(hg:g<w.heap.size)(hc:l.length<=c)(hm:c<=maxLen):
  Am w (some ⟨g,0,none⟩) l.length c k (l.flatMap enc):=by
 refine⟨La enc k hk l,hc,hm,(fun h=>by cases h),fun _=>⟨g,0,rfl,hg,fun j v hv=> ?_⟩⟩
 unfold HoldsK Holds at h;rw[S7 enc k hk h0]at h;have hj:=(List.getElem?_eq_some_iff.1 hv).1;have h1:=(h j (by simpa using hj)).1;rw[getElem!_pos ((l.flatMap enc).toArray) j (by simpa using hj)]at h1;rw[h1];simpa using(List.getElem?_eq_some_iff.1 hv).2
end Go.Proofs.YtaglfmlgbcmakaaGreatDoor
namespace Go.Proofs.YtaglfmlgbcmakaaGreatDoor
open Go.RowKit Go.Shelf Go.Sort Go.Lib
theorem Ado (s:Nat×Nat)(r:Db)(bx:Nat)(w:World)(h:w.heap[bx]? =some (.cells #[.int .i64 r.1, .int .i64 r.2.1, .int .i64 r.2.2] 64 (0,0))):
  Calls Tryz.prog 54 #[.agg #[.int .i64 (s.1:Int), .int .i64 (s.2:Int)], .pointer (some ⟨bx,0,none⟩)] w fun e w'=>e= .returned (.bool (decide ((s.1:Int)=r.2.1)))/\Below w.heap.size w w':=by
 obtain⟨x,l⟩:=s;obtain⟨p,q,z⟩:=r;have c1:=Aa (j:=1) h rfl;have hb:=lt_of_block h;clear h;simp only at c1 ⊢;go_enter Tryz.func54,Tryz.ntmps54;go_wp2;go_ret;refine⟨?_,bel⟩;congr 2
theorem Zn (s t:Nat×Nat)(w:World):
  Calls Tryz.prog 56 #[.agg #[.int .i64 (s.1:Int), .int .i64 (s.2:Int)], .agg #[.int .i64 (t.1:Int), .int .i64 (t.2:Int)]] w fun e w'=>e= .returned (.int .i64 (Ed (s.1:Int) (t.1:Int)))∧∃q os,w'=grow (w.drewN q) os:=by
 obtain⟨x,l⟩:=s;obtain⟨y,z⟩:=t;simp only;go_enter Tryz.func56,Tryz.ntmps56;go_wp2_with fail;refine(Aeb (x:Int) (y:Int) _).mono ?_;rintro e w1 ⟨rfl,rfl⟩;go_wp2;go_ret;refine⟨rfl,0, #[.cells #[.int .i64 (x:Int), .int .i64 (l:Int)] 112, .cells #[.int .i64 (y:Int), .int .i64 (z:Int)] 112], ?_⟩;rw[alloc_eq_grow,alloc_eq_grow,grow_grow];rfl
def Ab1 (s t:Nat×Nat):Int:=Ed (s.1:Int) (t.1:Int)
theorem Lt (s t:Nat×Nat):ltOf Ab1 s t=decide (s.1<t.1):=by
 unfold ltOf Ab1 Ed;by_cases h1:s.1<t.1<;>by_cases h2:t.1<s.1<;>simp[h1,h2]
theorem Zo:SWO (ltOf Ab1) where
 irrefl x:=by rw[Lt];simp
 trans x y z h1 h2:=by rw[Lt]at*;simp at*;omega
 ntrans x y z h1 h2:=by rw[Lt]at*;simp at*;omega
theorem Uf {α:Type} [Inhabited α]{enc:α->List Value}{k:Nat}(w:World)(g m:Nat)(d:Array α)(os:Array Obj):Ag (fun i=>i=g) w (sortWorldK enc k w g 0 m d os):=by
 unfold sortWorldK putRowK putRow mapBlock Sort.grow Sort.ahead;refine⟨rfl,rfl,rfl,by simp,fun i hi hs=> ?_⟩
 simp only;rw[Array.getElem?_append_left (by simpa using hi),Array.getElem?_modify,if_neg (fun e=>hs e.symm)]
theorem Wy (v:Value)(base:Nat)(es:List (Nat×Nat))(w:World)(h:w.ownsRow base 112 2 v es.length (es.flatMap Hm))(hn:es.length<=4000):
  Calls Tryz.prog 55 #[v, .func (.func 56) #[] #[]] w fun e w'=>
   e= .returned (.tuple #[])/\(∃A c es',v= .slice A es.length c/\Ek w' A es.length c es'/\es'.Perm es)/\Ag (fun k=>v.ownBlock=some k) w w':=by
 rcases Nat.eq_zero_or_pos es.length with h0|h0
 ·have hs:es=[]:=List.eq_nil_of_length_eq_zero h0;subst hs;rcases h.2 with⟨rfl,_⟩|⟨g,cap,cur,rfl,hb,hg,a3,a4,a5,ht⟩
  ·exact(AnyF.slices_SortFunc_none Tryz.sortEnd none 0 _ w).mono fun e w' ⟨h1,h2⟩=>by
    subst h2;exact⟨h1,⟨none,0,[],rfl,⟨Am.nil _ _,rfl⟩,List.Perm.refl _⟩,Ag.refl _ _⟩
  ·exact(AnyF.slices_SortFunc_none Tryz.sortEnd (some ⟨g,0,none⟩) cap _ w).mono fun e w' ⟨h1,h2⟩=>by
    subst h2;exact⟨h1,⟨some ⟨g,0,none⟩,cap,[],rfl,⟨Am.of_own h (by decide),rfl⟩,List.Perm.refl _⟩,Ag.refl _ _⟩
 ·obtain⟨g,cap,rfl,hb,hg⟩:=Qp h h0
  have hm:es.length<=cap/\cap<=maxLen:=by
   have h3:=Am.of_own h (by decide);exact⟨h3.2.1,h3.2.2.1⟩
  have hH:HoldsK Hm 2 w g 0 es.toArray:=Xj Ht (by decide) h
  have a2:=AnyQ.slices_SortFunc Tryz.sortEnd 2 Tryz.isAgg112 Tryz.sizeOf112 Hm Ht (fun x v hv=>by simp[Hm]at hv;rcases hv with rfl|rfl<;>rfl) Ab1 Zo 56 #[] g 0 cap es.toArray w
   (enters_of Tryz.func56 (by kernel_rfl) rfl) (fun m os dk _ x y=>(Zn x y _).mono fun e w' ⟨h1,h2⟩=>⟨h1,h2⟩) hH hg (by simp;omega)
  refine Calls.mono a2 ?_;rintro e w' ⟨rfl,d',m,os,hp,hs,rfl⟩;have a1:d'.size=es.length:=by have:=hp.1;simpa using this
  have a0:d'.toList.Perm es:=by
   have h3:=hp.2.2;rw[show es.toArray.size=es.length from by simp]at h3;have e1:(d'.extract 0 es.length).toList=d'.toList:=by rw[←a1];simp
   have e2:(es.toArray.extract 0 es.length).toList=es:=by simp
   rwa[e1,e2]at h3
  refine⟨rfl,⟨some ⟨g,0,none⟩,cap,d'.toList,rfl, ?_,a0⟩,(Uf w g m d' os).mono fun k e=>by show some g=some k;rw[e]⟩
  have h5:HoldsK Hm 2 (sortWorldK Hm 2 w g 0 m d' os) g 0 d'.toList.toArray:=by
   unfold sortWorldK;refine holdsK_grow Hm 2 _ os g 0 _ (by simpa[putRowK,putRow,mapBlock,Sort.ahead]using hg) ?_;exact holdsK_putRowK Hm 2 (Sort.ahead w m) g 0 es.toArray _ hH (by simpa using a1)
  have hl:d'.toList.length=es.length:=by simpa using a1
  have h6:=S8 Ht (by decide) h5 (Nat.lt_of_lt_of_le hg (by unfold sortWorldK Sort.grow;simp[putRowK,putRow,mapBlock,Sort.ahead])) (by rw[hl];exact hm.1) hm.2;rw[hl]at h6;exact⟨h6,hl⟩
end Go.Proofs.YtaglfmlgbcmakaaGreatDoor
namespace Go.Proofs.YtaglfmlgbcmakaaGreatDoor
open Go.RowKit Go.Shelf Go.Maps Go.WideMaps
def P3 (v:Value):Option (DataW Value×List MemPlace):=some (.held v,[])
def Ga (L:List Int):List UInt8:=L.map fun x=>UInt8.ofNat x.toNat
def Lr (L:List Int):Lit:= .string (Ga L)
def Mh (L:List Int):Prop:=∀x∈L,0<=x/\x<256
theorem Qa:∀{L L':List Int},Mh L->Mh L'->Ga L=Ga L'->L=L'
 |[],[],_,_,_=>rfl
 |[],y::ys,_,_,e=>by cases e
 |x::xs,[],_,_,e=>by cases e
 |x::xs,y::ys,h,h',e=>by
  simp only[Ga,List.map_cons,List.cons.injEq]at e;have hx:=h x (List.mem_cons_self ..);have hy:=h' y (List.mem_cons_self ..)
  have e1:x=y:=by
   have:=congrArg UInt8.toNat e.1
   simp only[UInt8.toNat_ofNat']at this;omega
  rw[e1,Qa (fun z hz=>h z (List.mem_cons_of_mem _ hz)) (fun z hz=>h' z (List.mem_cons_of_mem _ hz)) e.2]
theorem Yw {L L':List Int}(h:Mh L)(h':Mh L')(e:Lr L=Lr L'):L=L':=by
 injection e with e
 exact Qa h h' e
theorem Sc (L:List Int)(hl:L.length<=4096):keyOf Tryz.prog 9 (.string ⟨(Ga L).toArray⟩)=some (Lr L):=by
 have h:=keyOf_string_mk (P:=Tryz.prog) (k:=9) (s:=⟨(Ga L).toArray⟩) Tryz.underlying9 (by
  show((Ga L).toArray).size<=maxLen;rw[List.size_toArray];unfold Ga maxLen;rw[List.length_map];omega)
 rw[h];rfl
theorem Sd {w:World}{B:Nat}{v:Value}{L:List Int}(hu:Mh L)(h:w.ownsRow B 5 1 v L.length (L.map (Value.int .u8))):(convert 102 9 v).run Tryz.prog w= .ok (.string ⟨(Ga L).toArray⟩) w:=by
 rcases h.2 with⟨rfl,e⟩|⟨g,cap,cur,rfl,_,hg,h1,h2,h3,h4⟩
 ·obtain rfl:L=[]:=List.length_eq_zero_iff.1 e;rw[run_convert_bytes_string w 102 9 5 none 0 0 Tryz.underlying102 Tryz.underlying5 Tryz.underlying9];simp[Conv.bytesToString,Ga];rfl
 ·have hb:(Ga L).length=L.length:=List.length_map _;rw[←hb];refine run_convert_bytes_back w 102 9 5 ⟨g,0,none⟩ cap (Ga L) Tryz.underlying102 Tryz.underlying5 Tryz.underlying9 fun j hj=> ?_
  have a0:j<L.length:=by rw[←hb];exact hj
  rw[Gm,Nat.zero_add];refine Aa hg ?_;rw[Nat.mul_one]at h4;have h5:=congrArg (fun l:List Value=>l[j]?) h4;simp only[List.getElem?_take,if_pos a0,List.getElem?_map,List.getElem?_eq_getElem a0,Option.map_some]at h5;have h6:cur[j]? =some (.int .u8 L[j]):=by simpa using h5
  rw[h6];have hx:=hu L[j] (List.getElem_mem _)
  have:((Ga L)[j].toNat:Int)=L[j]:=by
   simp only[Ga,List.getElem_map,UInt8.toNat_ofNat'];omega
  rw[this]
def Kj (B bm:Nat)(vo:Value)(W:World)(A:Option Addr)(n:Nat):Prop:=0<n→∀ad,A=some ad->B<=ad.block/\ad.block≠bm/\vo.ownBlock≠some ad.block/\ad.block<W.heap.size
structure Fr (B bm i:Nat)(ls:List Bb)(ws:List Snd)(vo:Value)(ps:List Part)(D:DataW Value)(W:World):Prop where
 lb:B<=bm
 om:W.ownsMap Tryz.prog 9 P3 bm i D
 im:IsMap D
 wd:∀L,Mh L->Go.Maps.has D (Lr L)=true→∃A n c,D.atKey (Lr L) (.held (.slice none 0 0))= .held (.slice A n c)/\Ae W A n c (Bt (Cx ls L) ws).2/\(Bt (Cx ls L) ws).1=0/\Kj B bm vo W A n
 oo:W.ownsRow B 28 1 vo ps.length (ps.map Part.val)
 pp:Kc W ps
 pd:∀p∈ps,Kj B bm vo W p.1 p.2.1
 sz:B<=W.heap.size
section
variable {B bm i:Nat}{ls:List Bb}{ws:List Snd}{vo vo':Value}{ps:List Part}{D:DataW Value}{W W':World}
theorem Q6 {n:Nat}{H:Type}{R:Value->Option (DataW H×List MemPlace)}{D:DataW H}{k:TypeId}(h:W.ownsMap Tryz.prog k R bm n D)(hb:W'.heap[bm]? =W.heap[bm]?):W'.ownsMap Tryz.prog k R bm n D:=by
 obtain⟨es,clock,h1,h2⟩:=h;exact⟨es,clock,hb.trans h1,h2⟩
theorem Kj.up {A:Option Addr}{n:Nat}(h:Kj B bm vo W A n)(hs:W.heap.size<=W'.heap.size):Kj B bm vo W' A n:=fun hn ad had=>by
 obtain⟨h1,h2,h3,h4⟩:=h hn ad had;exact⟨h1,h2,h3,Nat.lt_of_lt_of_le h4 hs⟩
theorem Fr.mono (h:Fr B bm i ls ws vo ps D W){j:Nat}(hj:i<=j):Fr B bm j ls ws vo ps D W:=⟨h.lb,h.om.mono hj,h.im,h.wd,h.oo,h.pp,h.pd,h.sz⟩
theorem Fr.below (h:Fr B bm i ls ws vo ps D W)(hb:Below W.heap.size W W'):Fr B bm i ls ws vo ps D W':=
 ⟨h.lb,Q6 h.om (hb.block bm h.om.lt),h.im,fun L hL hh=>by
   obtain⟨A,n,c,h1,h2,h3,h4⟩:=h.wd L hL hh;exact⟨A,n,c,h1,h2.below hb rr,h3,h4.up hb.size⟩,
  Be h.oo fun k e=>hb.block k (h.oo.lt k e).2,fun p hp=>(h.pp p hp).below hb rr,fun p hp=>(h.pd p hp).up hb.size,Nat.le_trans h.sz hb.size⟩
theorem Fr.noMap (h:Fr B bm i ls ws vo ps D W):vo.ownBlock≠some bm:=by
 intro e;obtain⟨es,clock,h1,_⟩:=h.om;rcases h.oo.2 with⟨rfl,_⟩|⟨g,cap,cur,rfl,_,hg,_⟩
 ·cases e
 ·obtain rfl:g=bm:=Option.some.inj e;rw[hg]at h1;cases h1
theorem Fr.put (h:Fr B bm i ls ws vo ps D W){L:List Int}(hL:Mh L){A:Option Addr}{n c:Nat}(hw:Ae W A n c (Bt (Cx ls L) ws).2)(h0:(Bt (Cx ls L) ws).1=0)(hf:Kj B bm vo W A n)
  (hm:W'.ownsMap Tryz.prog 9 P3 bm (i+1) (D.put (Lr L) (.held (.slice A n c)))) (hg:W.grownBy W' (some bm)):Fr B bm (i+1) ls ws vo ps (D.put (Lr L) (.held (.slice A n c))) W'/\Ae W' A n c (Bt (Cx ls L) ws).2/\Kj B bm vo W' A n:=by
 have a2:=h.noMap;have hk:Ag (fun k=>k=bm) W W':=⟨hg.os,hg.tape,hg.output,hg.size,fun k hk hn=>hg.block k hk (fun e=>hn (by injection e))⟩
 have a1:∀{A':Option Addr} {n' c':Nat} {x:List Snd},Ae W A' n' c' x->Kj B bm vo W A' n'->Ae W' A' n' c' x:=fun hw hn=>hw.keep hk fun hp ad had e=>(hn hp ad had).2.1 e
 refine⟨⟨h.lb,hm,h.im.put _ _,fun L' hL' hh=> ?_,Be h.oo fun k e=>hg.block k (h.oo.lt k e).2 (fun e'=>by injection e' with e';subst e';exact a2 e),fun p hp=>a1 (h.pp p hp) (h.pd p hp),fun p hp=>(h.pd p hp).up hg.size,Nat.le_trans h.sz hg.size⟩,a1 hw hf,hf.up hg.size⟩
 by_cases e:L'=L
 ·subst e;exact⟨A,n,c,atKey_put_same h.im (show WideAt.IsKeyLit (Lr L')from trivial) _ _,a1 hw hf,h0,hf.up hg.size⟩
 ·have a0:Lr L'≠Lr L:=fun e'=>e (Yw hL' hL e')
  rw[has_put_other a0]at hh;obtain⟨A',n',c',h1,h2,h3,h4⟩:=h.wd L' hL' hh;exact⟨A',n',c',by rw[atKey_put_other a0];exact h1,a1 h2 h4,h3,h4.up hg.size⟩
theorem Fr.push (h:Fr B bm i ls ws vo ps D W){p:Part}(hw:Ae W p.1 p.2.1 p.2.2.1 p.2.2.2)(hf:Kj B bm vo W p.1 p.2.1)
  (hown:W'.ownsRow B 28 1 vo' (ps.length+1) (ps.map Part.val++[p.val])) (hg:W.grownBy W' vo.ownBlock) (a1:vo'.ownBlock=vo.ownBlock\/vo'.ownBlock=some W.heap.size):Fr B bm i ls ws vo' (ps++[p]) D W':=by
 have hk:Ag (fun k=>vo.ownBlock=some k) W W':=⟨hg.os,hg.tape,hg.output,hg.size,fun k hk hn=>hg.block k hk (fun e=>hn e.symm)⟩
 have a0:∀{A:Option Addr} {n:Nat},Kj B bm vo W A n->Kj B bm vo' W' A n:=fun h hn ad had=>by
  obtain⟨h1,h2,h3,h4⟩:=h hn ad had;refine⟨h1,h2,fun e=> ?_,Nat.lt_of_lt_of_le h4 hg.size⟩
  rcases a1 with h'|h'
  ·exact h3 (h'▸e)
  ·rw[h']at e;injection e with e;omega
 refine⟨h.lb,Q6 h.om (hg.block bm h.om.lt fun e=>h.noMap e.symm),h.im,fun L hL hh=> ?_,by rw[List.length_append,List.map_append];exact hown, ?_, ?_,Nat.le_trans h.sz hg.size⟩
 ·obtain⟨A',n',c',h1,h2,h3,h4⟩:=h.wd L hL hh;exact⟨A',n',c',h1,h2.keep hk fun hn ad had=>(h4 hn ad had).2.2.1,h3,a0 h4⟩
 ·intro q hq;rcases List.mem_append.1 hq with hq|hq
  ·exact(h.pp q hq).keep hk fun hn ad had=>(h.pd q hq hn ad had).2.2.1
  ·obtain rfl:q=p:=by simpa using hq
   exact hw.keep hk fun hn ad had=>(hf hn ad had).2.2.1
 ·intro q hq;rcases List.mem_append.1 hq with hq|hq
  ·exact a0 (h.pd q hq)
  ·obtain rfl:q=p:=by simpa using hq
   exact a0 hf
end
def Qb (w:World)(r:Int×List (List Snd))(e:Ending)(w':World):Prop:=
 ∃A c,∃ps:List Part,e= .returned (.tuple #[.slice A ps.length c, .int .i64 r.1])/\ps.map Part.word=r.2/\w'.ownsRow w.heap.size 28 1 (.slice A ps.length c) ps.length (ps.map Part.val)/\Kc w' ps∧
  (∀p∈ps,0<p.2.1→∀ad,p.1=some ad->w.heap.size<=ad.block/\(Value.slice A ps.length c).ownBlock≠some ad.block)/\Below w.heap.size w w'
theorem Qb.bad {w w':World}{r:Int×List (List Snd)}{er:Int}(h:r=(er,[]))(hb:Below w.heap.size w w'):Qb w r (.returned (.tuple #[.slice none 0 0, .int .i64 er])) w':=by
 subst h;exact⟨none,0,[],rfl,rfl,World.ownsRow_nil _ _ _ _,(fun p hp=>absurd hp (List.not_mem_nil)),(fun p hp=>absurd hp (List.not_mem_nil)),hb⟩
end Go.Proofs.YtaglfmlgbcmakaaGreatDoor
namespace Go.Proofs.YtaglfmlgbcmakaaGreatDoor
open Go.RowKit Go.Shelf
def Hc (n:Nat)(f:Nat->Value):Array Value:=((List.range n).map f).toArray
theorem Ab0 {n v:Nat}(f:Nat->Value)(h:v<n):(Hc n f)[v]? =some (f v):=by unfold Hc;simp[h]
theorem Zh {n k:Nat}{f g:Nat->Value}{x:Value}(hk:g k=x)(h:∀v,v<n->v≠k->g v=f v):(Hc n f).setIfInBounds k x=Hc n g:=by
 unfold Hc;apply Array.ext
 ·simp
 ·intro i h1 h2;have hi:i<n:=by simpa using h2
  by_cases e:i=k
  ·subst e;simp[hi,hk]
  ·simp[Array.getElem_setIfInBounds,Ne.symm e,h i hi e]
theorem Ww (n:Nat):madeCells #[.slice none 0 0] n=Hc n fun _=> .slice none 0 0:=by
 unfold madeCells Hc;apply Array.ext
 ·simp
 ·intro i h1 h2;simp[Nat.mod_one]
theorem Je {n v g:Nat}{f:Nat->Value}{t:TypeId}{w:World}(hg:w.heap[g]? =some (.cells (Hc n f) t (0,0)))(h:v<n):w.cell? ⟨g,v,none⟩=some (f v):=Aa hg (Ab0 f h)
structure Gd (B q n:Nat)(val:Nat->Value)(ls:Nat->List (Nat×Nat))(W:World):Prop where
 qB:q<B
 blk:W.heap[q]? =some (.cells (Hc n val) 110 (0,0))
 own:∀v,v<n->W.ownsRow B 112 2 (val v) (ls v).length ((ls v).flatMap Hm)
 apart:∀u v,u<n->v<n->u≠v→∀k,(val u).ownBlock=some k->(val v).ownBlock≠some k
 sz:B<=W.heap.size
section
variable {B q n:Nat}{val:Nat->Value}{ls:Nat->List (Nat×Nat)}{W W':World}
theorem Gd.below (h:Gd B q n val ls W)(hb:Below W.heap.size W W'):Gd B q n val ls W':=
 ⟨h.qB,(hb.block q (lt_of_block h.blk)).trans h.blk,fun v hv=>Be (h.own v hv) fun k e=>hb.block k ((h.own v hv).lt k e).2,h.apart,Nat.le_trans h.sz hb.size⟩
theorem Gd.eq (h:Gd B q n val ls W){ls':Nat->List (Nat×Nat)}(e:∀v,v<n->ls' v=ls v):Gd B q n val ls' W:=⟨h.qB,h.blk,fun v hv=>by rw[e v hv];exact h.own v hv,h.apart,h.sz⟩
theorem Gd.push (h:Gd B q n val ls W){v:Nat}(hv:v<n){v':Value}{p:Nat×Nat}(hown:W'.ownsRow B 112 2 v' ((ls v).length+1) ((ls v).flatMap Hm++Hm p))(hg:W.grownBy W' (val v).ownBlock)
  (a3:v'.ownBlock=(val v).ownBlock\/v'.ownBlock=some W.heap.size):
  Gd B q n (fun u=>if u=v then v' else val u) (fun u=>if u=v then ls v++[p]else ls u) (W'.setCell ⟨q,v,none⟩ v'):=by
 have a2:=lt_of_block h.blk;have a0:∀u,u<n→∀k,(val u).ownBlock=some k->B<=k/\k<W.heap.size:=fun u hu k e=>(h.own u hu).lt k e
 have a1:W'.heap[q]? =some (.cells (Hc n val) 110 (0,0)):=(hg.block q a2 (fun e=>by have:=(a0 v hv q e.symm).1;have:=h.qB;omega)).trans h.blk;refine⟨h.qB, ?_,fun u hu=> ?_,fun u u' hu hu' hne k e e'=> ?_,by have:=hg.size;have:=h.sz;simp;omega⟩
 ·rw[B2 a1,Zh (g:=fun u=>if u=v then v' else val u) (by simp) fun u _ hne=>by simp[hne]]
 ·by_cases e:u=v
  ·subst e;simp only[if_true];rw[List.length_append,List.length_singleton,List.flatMap_append,List.flatMap_singleton];exact Be hown fun k e=>Below.heap_setCell _ _ _ _ (by have:=(hown.lt k e).1;have:=h.qB;show k≠q;omega)
  ·simp only[if_neg e];exact Be (h.own u hu) fun k e'=>(Below.heap_setCell _ _ _ _ (by have:=(a0 u hu k e').1;have:=h.qB;show k≠q;omega)).trans (hg.block k (a0 u hu k e').2 (fun e2=>h.apart u v hu hv e k e' e2.symm))
 ·have key:∀u,u<n->u≠v→∀k,(val u).ownBlock=some k->v'.ownBlock≠some k:=fun u hu hne k e e'=>by
   rcases a3 with h'|h'
   ·exact h.apart u v hu hv hne k e (h'▸e')
   ·rw[h']at e';injection e' with e';have:=(a0 u hu k e).2;omega
  by_cases e1:u=v
  ·by_cases e2:u'=v
   ·exact hne (e1.trans e2.symm)
   ·simp only[if_pos e1]at e;simp only[if_neg e2]at e';exact key u' hu' e2 k e' e
  ·simp only[if_neg e1]at e;by_cases e2:u'=v
   ·simp only[if_pos e2]at e';exact key u hu e1 k e e'
   ·simp only[if_neg e2]at e';exact h.apart u u' hu hu' hne k e e'
end
theorem Zi (done:List Bh){a b l:Nat}(hab:a≠b)(v:Nat):Cp (done++[(a,b,l)]) v=(if v=b then(if b=a then Cp done a++[(b,l)]else Cp done b)++[(a,l)]else if v=a then Cp done a++[(b,l)]else Cp done v):=by
 rw[Wu];have a0:¬b=a:=fun e=>hab e.symm
 by_cases h1:v=b
 ·subst h1;simp[hab,a0]
 ·by_cases h2:v=a
  ·subst h2;simp[h1]
  ·have h3:¬a=v:=fun e=>h2 e.symm
   have h4:¬b=v:=fun e=>h1 e.symm
   simp[h1,h2,h3,h4]
theorem Zj {n:Nat}{rs:List Db}{done:List Bh}{j:Nat}{r:Db}(h:rs[j]? =some r):Dt n done (rs.drop j)=if min r.1 r.2.1<0\/(n:Int)<=max r.1 r.2.1 then 3 else if r.1=r.2.1 then 9 else if r.2.2<1\/1073741824<r.2.2 then 2
  else if done.any (fun s=>Df s r.1.toNat r.2.1.toNat)then 6 else Dt n (done++[B5 r]) (rs.drop (j+1)):=by
 have hk:=(List.getElem?_eq_some_iff.1 h).1;rw[List.drop_eq_getElem_cons hk,(List.getElem?_eq_some_iff.1 h).2];rfl
theorem Sj:(Tryz.prog.info? 112).map (fun i=>(i.zero,i.size,i.bytes))=some (some (.agg #[.int .i64 0, .int .i64 0]),2,16):=by kernel_rfl
theorem N7 {S:Nat->Prop}{w w':World}{A:Option Addr}{n c sz:Nat}{vs:List Value}(h:Am w A n c sz vs)(hk:Ag S w w')(hS:0<n→∀ad,A=some ad→¬S ad.block):Am w' A n c sz vs:=by
 refine⟨h.1,h.2.1,h.2.2.1,h.2.2.2.1,fun hn=> ?_⟩
 obtain⟨b,off,hA,hb,hc⟩:=h.2.2.2.2 hn;have a0:=hk.block b hb (hS hn _ hA);exact⟨b,off,hA,Nat.lt_of_lt_of_le hb hk.size,fun j v hv=>(World.cell?_of_block a0).trans (hc j v hv)⟩
def Acj:Value->Option Addr
 | .slice A _ _=>A
 |_=>none
def Ack:Value->Nat
 | .slice _ _ c=>c
 |_=>0
structure Lf (B n i:Nat)(val:Nat->Value)(ls es:Nat->List (Nat×Nat))(W0 W:World):Prop where
 lo:∀v,v<n->i<=v->W.ownsRow B 112 2 (val v) (ls v).length ((ls v).flatMap Hm)
 hi:∀v,v<n->v<i->Ek W (Acj (val v)) (ls v).length (Ack (val v)) (es v)/\(es v).Perm (ls v)
 kp:Ag (fun k=>B<=k) W0 W
 ap:∀u v,u<n->v<n->u≠v→∀k,(val u).ownBlock=some k->(val v).ownBlock≠some k
 vl:∀v,v<n→∃A c,val v= .slice A (ls v).length c
 bl:∀v,v<n→∀k,(val v).ownBlock=some k->B<=k
theorem Lf.start {B q n:Nat}{val:Nat->Value}{ls:Nat->List (Nat×Nat)}{W:World}(h:Gd B q n val ls W):Lf B n 0 val ls ls W W:=
 ⟨fun v hv _=>h.own v hv,fun v _ hv=>absurd hv (Nat.not_lt_zero _),Ag.refl _ _,h.apart,fun v hv=>Bg (h.own v hv),fun v hv k e=>((h.own v hv).lt k e).1⟩
theorem Lf.step {B n i:Nat}{val:Nat->Value}{ls es:Nat->List (Nat×Nat)}{W0 W W':World}(h:Lf B n i val ls es W0 W)(hi:i<n){A:Option Addr}{c:Nat}{es':List (Nat×Nat)}(hv:val i= .slice A (ls i).length c)(he:Ek W' A (ls i).length c es')(hp:es'.Perm (ls i))
  (hk:Ag (fun k=>(val i).ownBlock=some k) W W'):Lf B n (i+1) val ls (fun v=>if v=i then es' else es v) W0 W':=by
 refine⟨fun v hv' hlt=>Be (h.lo v hv' (by omega)) fun k e=>hk.block k ((h.lo v hv' (by omega)).lt k e).2 (fun e'=>h.ap i v hi hv' (by omega) k e' e),fun v hv' hlt=> ?_,h.kp.trans (hk.mono fun k e=>h.bl i hi k e),h.ap,h.vl,h.bl⟩
 by_cases e:v=i
 ·subst e;simp only[if_true];rw[hv];exact⟨he,hp⟩
 ·simp only[if_neg e];obtain⟨h1,h2⟩:=h.hi v hv' (by omega);refine⟨⟨N7 h1.1 hk fun hn ad had e'=> ?_,h1.2⟩,h2⟩
  obtain⟨A2,c2,a1⟩:=h.vl v hv';refine h.ap i v hi hv' (Ne.symm e) ad.block e' ?_;rw[a1]at had ⊢;have a0:A2=some ad:=had;rw[a0];rfl
theorem Lf.map {B q n b:Nat}{val:Nat->Value}{rs:List Bh}{es:Nat->List (Nat×Nat)}{W0 W:World}(h:Lf B n n val (Cp rs) es W0 W){An:Option Addr}{cn mb:Nat}{Ar:Option Addr}{cr:Nat}
  (hb:W.heap[b]? =some (.cells #[.slice An n cn, .map (some mb), .slice Ar rs.length cr, .slice (some ⟨q,0,none⟩) n n] 99 (0,0))) (hr:Cv W Ar rs.length cr (rs.map Dq)) (hq:W.heap[q]? =some (.cells (Hc n val) 110 (0,0)))
  (hok:Eg n rs) (hn:n<=128) (hrs:rs.length<=512):Cl W b n rs:=by
 refine⟨An,cn,mb,Ar,cr,some ⟨q,0,none⟩,n,(List.range n).map fun v=>(Acj (val v),(Cp rs v).length,Ack (val v),es v),hb,hr, ?_,fun v p hp=> ?_,hok,hn,hrs⟩
 ·have a0:((List.range n).map fun v=>(Acj (val v),(Cp rs v).length,Ack (val v),es v)).map Uc.val=(List.range n).map val:=by
   rw[List.map_map];refine List.map_congr_left fun v hv=> ?_
   obtain⟨A2,c2,a1⟩:=h.vl v (List.mem_range.1 hv);show Value.slice (Acj (val v)) _ (Ack (val v))=val v;rw[a1];rfl
  rw[a0];refine⟨by simp,rr,by unfold maxLen;omega,(fun h=>by cases h),fun _=>⟨q,0,rfl,lt_of_block hq,fun j v hv=> ?_⟩⟩
  rw[Nat.zero_add];refine Aa hq ?_;unfold Hc;simpa using hv
 ·rw[List.getElem?_map]at hp;by_cases hv:v<n
  ·rw[List.getElem?_range hv]at hp;simp only[Option.map_some,Option.some.injEq]at hp;subst hp;exact h.hi v hv hv
  ·rw[List.getElem?_eq_none (by simpa using hv)]at hp;cases hp
end Go.Proofs.YtaglfmlgbcmakaaGreatDoor
