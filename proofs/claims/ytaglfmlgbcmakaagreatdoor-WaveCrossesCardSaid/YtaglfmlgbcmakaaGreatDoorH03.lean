/-
  slices.Contains over numbers; which waves are allowed: wave.Wave's check, wave.Check.
  wave.Arrive, wave.Relics.
  wave.Relics.
  cmp.Compare over int, cmp.Or; which wave comes first: arrival's rank and by; wave.Crossed.
  slices.IndexFunc and slices.ContainsFunc over records of type points.end.
  A row of records, as the library's sort sees it.
  The closures of points.New; slices.SortFunc over the ends of roads.
  slices.Clone of a word: what is returned may be written.
  What wave.Forms keeps: the forms that have been derived, by the indexes of the laws, and those of the points so far.
  The roads at each point, under way (points.New).
  The roads at each point, while they are sorted (points.New).
-/
import Derived.Lib.OwnBridge
import Derived.Maps.OwnSet
import Derived.Laws.IdiomStrings
import Derived.Maps.OwnOps
import Derived.Test.YtaglfmlgbcmakaaGreatDoorH02
set_option linter.all false
set_option maxRecDepth 100000
set_option maxHeartbeats 4000000
namespace Go.Proofs.YtaglfmlgbcmakaaGreatDoor
open Go.RowKit Go.Shelf
theorem Amb (A:Option Addr)(n c:Nat)(xs:List Int)(v:Int)(w:World)(hx:Bn w A n c xs):
  Calls Tryz.prog 143 #[.slice A n c, .int .i64 v] w fun e w'=>∃i:Int,e= .returned (.int .i64 i)/\decide (0<=i)=xs.any (fun b=>decide (b=v))/\Below w.heap.size w w':=by
 have a2:n<=9223372036854775807:=by have h1:=hx.2.1;have h2:=hx.2.2.1;unfold maxLen at h2;omega
 have a0:xs.length=n:=by have:=hx.1;simpa using this
 have HX:=hI hx;have HL:=hI a0;clear hx a0;go_enter Tryz.func143,Tryz.ntmps143;go_wp2
 go_loopw [8] (fun i wr=>∃k:Nat,k<=n/\i= .int .i64 (k:Int)/\Hid ((xs.take k).any (fun b=>decide (b=v))=false)/\Hid (Below w.heap.size w wr)) (fun i _=>n-(intOf i).toNat)
 case atStart=>exact⟨0,Nat.zero_le _,rfl,by simp[Hid],Below.refl _ _⟩
 case round=>
  obtain⟨k,hk,rfl,HN,HB⟩:=hrel;by_cases hlt:k<n
  ·have a5:(k:Int)<(n:Int):=by omega
   obtain⟨pb,po,u,hA,a1,hv,a6⟩:=(HX.out.below HB.out rr:Am wr A n c 1 (xs.map (Value.int .i64))).at1 hlt;subst hA;obtain⟨p,hp⟩:∃p,xs[k]? =some p:=⟨xs[k]'(by rw[HL.out];exact hlt),List.getElem?_eq_getElem _⟩;obtain rfl:u= .int .i64 p:=by rw[List.getElem?_map,hp]at hv;simpa using hv.symm
   have a4:Hid (xs.take (k+1)=xs.take k++[p]):=Bd xs k p hp;have a3:=hI (List.mem_of_getElem? hp);clear hv hp a1;by_cases he:v=p
   ·subst he;go_wp2;go_ret;refine⟨(k:Int),rfl, ?_,HB.out⟩;rw[decide_eq_true (by omega)];symm;rw[List.any_eq_true];exact⟨v,a3.out,by simp⟩
   ·have a7:(v==p)=false:=by simpa using he
    go_wp2
    go_roundw
    case rel=>exact⟨k+1,by omega,by simp,by
     show _=_;rw[a4.out,List.any_append,HN.out]
     have:¬p=v:=fun e=>he e.symm
     simp[this],HB.out⟩
    case measure=>simp[intOf];omega
  ·obtain rfl:k=n:=by omega
   go_wp2;go_ret;refine⟨-1,rfl, ?_,HB.out⟩;have h:=HN.out;rw[List.take_of_length_le (by rw[HL.out];exact rr)]at h;rw[h];rfl
theorem Amc (A:Option Addr)(n c:Nat)(xs:List Int)(v:Int)(w:World)(hx:Bn w A n c xs):
  Calls Tryz.prog 105 #[.slice A n c, .int .i64 v] w fun e w'=>e= .returned (.bool (xs.any fun b=>decide (b=v)))/\Below w.heap.size w w':=by
 have HX:=hI hx;clear hx;go_enter Tryz.func105,Tryz.ntmps105;go_wp2_with fail;refine(Amb A n c xs v w HX.out).mono ?_;rintro e w1 ⟨i,rfl,hi,a0⟩;have HI:=hI hi;have HB:=hI a0;clear hi a0;go_wp2;go_ret;exact⟨by rw[←HI.out];rfl,HB.out⟩
theorem Ai1 (b:Nat)(An:Option Addr)(n cn:Nat)(x:Bu)(w:World)(hc:w.cell? ⟨b,0,none⟩=some (.slice An n cn))(hbl:b<w.heap.size)(hx:Fw w x):
  Calls Tryz.prog 61 #[M8 x, .pointer (some ⟨b,0,none⟩)] w fun e w'=>e= .returned (.int .i64 (Di n x.d))/\Below w.heap.size w w':=by
 obtain⟨a0,hu⟩:=hx;obtain⟨⟨law,ps,T,S,fin⟩,Aw,nw,cw⟩:=x;simp only at a0;have b8:nw<=9223372036854775807:=by have h1:=a0.2.1;have h2:=a0.2.2.1;unfold maxLen at h2;omega
 have a2:ps.length=nw:=by have:=a0.1;simpa using this
 have b7:nw<=cw:=a0.2.1;have HP:=hI a0;have HC:=hI hc;have HL:=hI a2;clear a0 hc a2 hu;have kb:(w.alloc (.cells #[.int .i64 law, .slice Aw nw cw, .int .i64 T, .int .i64 S, .int .i64 fin] 38)).heap[w.heap.size]? =some (.cells #[.int .i64 law, .slice Aw nw cw, .int .i64 T, .int .i64 S, .int .i64 fin] 38 (0,0)):=hpt;have kB:Below w.heap.size w (w.alloc (.cells #[.int .i64 law, .slice Aw nw cw, .int .i64 T, .int .i64 S, .int .i64 fin] 38)):=bel;go_enter Tryz.func61,Tryz.ntmps61;go_wp2_with fail;obtain⟨B0,a7⟩:∃B0,B0=w.heap.size:=⟨_,rfl⟩;rw[←a7]at kb ⊢;have b3:=hI kb;have b0:=hI kB;have d3:w.heap.size<=B0:=Nat.le_of_eq a7.symm;generalize w.alloc (.cells #[.int .i64 law, .slice Aw nw cw, .int .i64 T, .int .i64 S, .int .i64 fin] 38)=W0 at*;clear a7 kb kB
 go_loopw [5,6,10] (fun _ _ i wr=>∃k:Nat,k<=nw/\i= .int .i64 (k:Int)/\Hid (F5 n [] ps=F5 n (ps.take k) (ps.drop k))/\Hid (wr.heap[B0]? =some (.cells #[.int .i64 law, .slice Aw nw cw, .int .i64 T, .int .i64 S, .int .i64 fin] 38 (0,0)))/\Hid (Below w.heap.size w wr)) (fun _ _ i _=>nw-(intOf i).toNat)
 case atStart=>exact⟨0,Nat.zero_le _,rfl,rfl,b3.out,b0.out⟩
 case round=>
  obtain⟨k,hk,rfl,HE,HK,HB⟩:=hrel;clear b3 b0;have c1:=Ad (j:=1) HK.out rfl;by_cases hlt:k<nw
  ·have d1:(k:Int)<(nw:Int):=by omega
   obtain⟨pb,po,v,hA,b6,hv,b5⟩:=(HP.out.below HB.out rr:Am wr Aw nw cw 1 (ps.map (Value.int .i64))).at1 hlt;obtain⟨p,hp⟩:∃p,ps[k]? =some p:=⟨ps[k]'(by rw[HL.out];exact hlt),List.getElem?_eq_getElem _⟩;obtain rfl:v= .int .i64 p:=by rw[List.getElem?_map,hp]at hv;simpa using hv.symm
   have b4:ps.drop k=p::ps.drop (k+1):=by
    rw[List.drop_eq_getElem_cons (by rw[HL.out];exact hlt)];congr 1;exact(List.getElem?_eq_some_iff.1 hp).2
   have d0:Hid (ps.take (k+1)=ps.take k++[p]):=Bd ps k p hp
   have HS:Hid (F5 n (ps.take k) (ps.drop k)=if p<0\/(n:Int)<=p then 3 else if(ps.take k).any (fun b=>decide (b=p))then 6 else F5 n (ps.take (k+1)) (ps.drop (k+1))):=by
    show _=_;rw[b4,d0.out];rfl
   clear hv hp b4
   have a4:∀er:Int,er≠0->F5 n [] ps=er->Di n ⟨law,ps,T,S,fin⟩=er:=fun er h0 h=>by
    unfold Di;rw[if_pos (by rw[h];exact h0)];exact h
   have a1:=hI a4;clear a4;by_cases hp0:p<0
   ·subst hA;go_wp2;go_ret;exact⟨by rw[a1.out 3 (by decide) (by rw[HE.out,HS.out,if_pos (.inl hp0)])];rfl,HB.out⟩
   ·subst hA;go_wp2_with fail;refine(Gz b An n cn wr ((HB.out.cell (p:=⟨b,0,none⟩) hbl).trans HC.out)).mono ?_;rintro e w1 ⟨rfl,a6⟩;have a5:=hI ((a6.block B0 (lt_of_block HK.out)).trans HK.out);have c1':=Ad (j:=1) a5.out rfl;have a3:=hI (HB.out.trans (a6.mono HB.out.size));have a9:=(a6.cell (p:=⟨pb,po+k,none⟩) b6).trans b5;clear a6 HK HB c1 b5;by_cases hpn:(n:Int)<=p
    ·go_wp2;go_ret;exact⟨by rw[a1.out 3 (by decide) (by rw[HE.out,HS.out,if_pos (.inr hpn)])];rfl,a3.out⟩
    ·have d2:k<=cw:=by omega
     have b1:=hI (Am.take (HP.out.below a3.out rr) (k:=k) hk);go_wp2_with fail;refine(Amc (some ⟨pb,po,none⟩) k cw (ps.take k) p w1 (by have:=b1.out;rw[Nat.mul_one,←List.map_take]at this;exact this)).mono ?_;rintro e w2 ⟨rfl,a8⟩;have b9:=hI ((a8.block B0 (lt_of_block a5.out)).trans a5.out);have b2:=hI (a3.out.trans (a8.mono a3.out.size));clear a8 a5 a3 c1' a9 b1
     cases han:(ps.take k).any (fun b=>decide (b=p))with
     |true=>
      have HA:=hI han;clear han;go_wp2;go_ret;exact⟨by rw[a1.out 6 (by decide) (by rw[HE.out,HS.out,if_neg (by omega),if_pos HA.out])];rfl,b2.out⟩
     |false=>
      have HA:=hI han;clear han;go_wp2_with fail
      go_roundw
      case rel=>exact⟨k+1,by omega,by simp,by
       show _=_;rw[HE.out,HS.out,if_neg (by omega),if_neg (by rw[HA.out];simp)],b9.out,b2.out⟩
      case measure=>simp[intOf];omega
  ·obtain rfl:k=nw:=by omega
   have HZ:Hid (F5 n [] ps=0):=by
    show _=_;rw[HE.out,List.drop_eq_nil_of_le (by rw[HL.out];exact rr)];rfl
   have HV:Hid (Di n ⟨law,ps,T,S,fin⟩=if min T S<0\/1073741824<max T S then 2 else 0):=by
    show _=_;unfold Di;rw[if_neg (by rw[HZ.out];simp)]
   have c2:=Ad (j:=2) HK.out rfl;have c3:=Ad (j:=3) HK.out rfl;clear HE;by_cases h1:min T S<0
   ·go_wp2;go_ret;exact⟨by rw[HV.out,if_pos (.inl h1)];rfl,HB.out⟩
   ·by_cases h2:1073741824<max T S
    ·go_wp2;go_ret;exact⟨by rw[HV.out,if_pos (.inr h2)];rfl,HB.out⟩
    ·have h3:¬(min T S<0\/1073741824<max T S):=by omega
     have H3:=hI h3;clear h3;go_wp2;go_ret;exact⟨by rw[HV.out,if_neg H3.out];rfl,HB.out⟩
theorem Pw {α:Type}{l:List α}{k:Nat}{x:α}(h:l[k]? =some x):l.drop k=x::l.drop (k+1):=by
 have hk:=(List.getElem?_eq_some_iff.1 h).1;rw[List.drop_eq_getElem_cons hk];congr 1;exact(List.getElem?_eq_some_iff.1 h).2
theorem Hs (b n:Nat)(rs:List Bb)(Ax:Option Addr)(nx cx:Nat)(xs:List Bj)(A:Option Addr)(m c:Nat)(ys:List Bu)(w:World)(hm:C0 w b n rs)(hx:Br w Ax nx cx xs)(hy:Bv w A m c ys)(hT:Cd w):
  Calls Tryz.prog 37 #[.pointer (some ⟨b,0,none⟩), .slice Ax nx cx, .slice A m c] w fun e w'=>e= .returned (.int .i64 (Ck n (Ah xs) (Ae ys)))/\Below w.heap.size w w':=by
 obtain⟨An,cn,mb,Ar,cr,Aq,cq,c0,c1,c2,c3⟩:=hm.cells;have b2:=hm.lt;have d7:=hy.max;have d8:=hx.max;have HM:=hI hm;have HX:=hI hx;have HY:=hI hy;have HT:=hI hT;have HC:=hI c0;have d1:Hid ((Ah xs).length=nx):=by show _=_;rw[Ah,List.length_map];exact hx.len
 have d0:Hid ((Ae ys).length=m):=by show _=_;rw[Ae,List.length_map];exact hy.len
 clear hm hx hy hT c0 c1 c2 c3;go_enter Tryz.func37,Tryz.ntmps37;go_wp2_with fail;refine(Gz b An n cn w HC.out).mono ?_;rintro e w1 ⟨rfl,b8⟩;have a4:=hI b8;clear b8;by_cases hn0:n=0
 ·have HV:Hid (Ck n (Ah xs) (Ae ys)=1):=by show _=_;unfold Ck;rw[if_pos hn0]
  have hz:(n:Int)=0:=by omega
  go_wp2;go_ret;exact⟨by rw[HV.out];rfl,a4.out⟩
 ·have hz:((n:Int)==0)=false:=by simpa using hn0
  have HV:Hid (Ck n (Ah xs) (Ae ys)=if Dg (Ah xs)≠0 then Dg (Ah xs)else if 64<(Ae ys).length then 12 else Ej n (Ah xs).length (Ae ys)):=by show _=_;unfold Ck;rw[if_neg hn0]
  go_wp2_with fail;refine(Xy Ax nx cx xs w1 (HX.out.below a4.out rr)).mono ?_;obtain⟨er,b0⟩:∃er,er=Dg (Ah xs):=⟨_,rfl⟩;rw[←b0];rintro e w2 ⟨rfl,b7⟩;have a9:=hI (a4.out.trans (b7.mono a4.out.size));have a6:=hI b0;clear b7 a4 b0;by_cases he0:er=0
  ·have d3:(er !=0)=false:=by simp[he0]
   have a3:Hid (Ck n (Ah xs) (Ae ys)=if 64<m then 12 else Ej n nx (Ae ys)):=by
    show _=_;rw[HV.out,if_neg (by rw[←a6.out];simpa using he0),d1.out,d0.out]
   clear HV a6 he0;by_cases hm64:64<m
   ·have a2:(64:Int)<(m:Int):=by omega
    go_wp2;go_ret;exact⟨by rw[a3.out,if_pos hm64];rfl,a9.out⟩
   ·have a2:¬(64:Int)<(m:Int):=by omega
    have a7:Hid (Ck n (Ah xs) (Ae ys)=Ej n nx (Ae ys)):=by show _=_;rw[a3.out,if_neg hm64]
    clear a3;go_wp2_with fail
    go_loopw [24] (fun i wr=>∃k:Nat,k<=m/\i= .int .i64 (k:Int)/\Hid (Ej n nx (Ae ys)=Ej n nx ((Ae ys).drop k))/\Hid (Below w.heap.size w wr)) (fun i _=>m-(intOf i).toNat)
    case atStart=>exact⟨0,Nat.zero_le _,rfl,rfl,a9.out⟩
    case round=>
     obtain⟨k,hk,rfl,HE,HB⟩:=hrel;clear a9;by_cases hlt:k<m
     ·have d5:(k:Int)<(m:Int):=by omega
      obtain⟨x,hx⟩:=(HY.out.below HB.out).get hlt;obtain⟨yb,yo,hA,d6,b5,k0,k1,k2,k3,k4⟩:=(HY.out.below HB.out).at_ hx;subst hA;have b3:(Ae ys)[k]? =some x.d:=by rw[Ae,List.getElem?_map,hx];rfl
      have HS:Hid (Ej n nx ((Ae ys).drop k)=if x.d.law<0\/(nx:Int)<=x.d.law then 3 else if Di n x.d≠0 then Di n x.d else Ej n nx ((Ae ys).drop (k+1))):=by
       show _=_;rw[Pw b3];rfl
      have b4:=hI b5;clear hx b3 b5;obtain⟨⟨law,ps,T,S,fin⟩,Aw,nw,cw⟩:=x;simp only at k0 k1 k2 k3 k4;have d4:=b4.out.u.law;simp only at d4;have a1:Hid (Below w.heap.size w (wr.alloc (.cells #[.int .i64 law, .slice Aw nw cw, .int .i64 T, .int .i64 S, .int .i64 fin] 38))):=HB.out.alloc HB.out.size _;have hsz:=HB.out.size;by_cases hl0:law<0
      ·go_wp2;go_ret;exact⟨by rw[a7.out,HE.out,HS.out,if_pos (.inl hl0)];rfl,a1.out⟩
      ·by_cases hln:(nx:Int)<=law
       ·go_wp2;go_ret;exact⟨by rw[a7.out,HE.out,HS.out,if_pos (.inr hln)];rfl,a1.out⟩
       ·have a8:Hid (Ej n nx ((Ae ys).drop k)=if Di n ⟨law,ps,T,S,fin⟩≠0 then Di n ⟨law,ps,T,S,fin⟩else Ej n nx ((Ae ys).drop (k+1))):=by
         show _=_
         have:=HS.out
         rw[if_neg (by show¬(law<0\/(nx:Int)<=law);omega)]at this;exact this
        clear HS;go_wp2_with fail;refine(Ai1 b An n cn ⟨⟨law,ps,T,S,fin⟩,Aw,nw,cw⟩ _ ((a1.out.cell (p:=⟨b,0,none⟩) b2).trans HC.out) (Nat.lt_of_lt_of_le b2 a1.out.size) (b4.out.below ((Below.refl _ wr).alloc rr _))).mono ?_;obtain⟨e1,a0⟩:∃e1,e1=Di n ⟨law,ps,T,S,fin⟩:=⟨_,rfl⟩;rw[←a0];rintro e w3 ⟨rfl,b9⟩;have b6:=hI (a1.out.trans (b9.mono a1.out.size));have a5:=hI a0;clear b9 a1 HB a0 hsz;by_cases h10:e1=0
        ·have d2:(e1 !=0)=false:=by simp[h10]
         have b1:Hid (Ej n nx ((Ae ys).drop k)=Ej n nx ((Ae ys).drop (k+1))):=by
          show _=_;rw[a8.out,if_neg (by rw[←a5.out];simpa using h10)]
         clear a8 a5 h10;go_wp2_with fail
         go_roundw
         case rel=>exact⟨k+1,by omega,by simp,by show _=_;rw[HE.out,b1.out],b6.out⟩
         case measure=>simp[intOf];omega
        ·have d2:(e1 !=0)=true:=by simpa using h10
         have b1:Hid (Ej n nx ((Ae ys).drop k)=e1):=by
          show _=_;rw[a8.out,if_pos (by rw[←a5.out];exact h10),a5.out]
         clear a8 a5 h10;go_wp2;go_ret;exact⟨by rw[a7.out,HE.out,b1.out];rfl,b6.out⟩
     ·obtain rfl:k=m:=by omega
      go_wp2;go_ret;exact⟨by rw[a7.out,HE.out,List.drop_eq_nil_of_le (by rw[d0.out];exact rr)];rfl,HB.out⟩
  ·have d3:(er !=0)=true:=by simpa using he0
   have a3:Hid (Ck n (Ah xs) (Ae ys)=er):=by
    show _=_;rw[HV.out,if_pos (by rw[←a6.out];exact he0),a6.out]
   clear HV a6 he0;go_wp2;go_ret;exact⟨by rw[a3.out];rfl,a9.out⟩
def C6 (w:World)(r:Int×List Int)(e:Ending)(w':World):Prop:=
 ∃A m c,e= .returned (.tuple #[.slice A m c, .int .i64 r.1])/\Bn w' A m c r.2/\Below w.heap.size w w'
theorem C6.bad {w w':World}{r:Int×List Int}{er:Int}(h:r=(er,[]))(hb:Below w.heap.size w w'):C6 w r (.returned (.tuple #[.slice none 0 0, .int .i64 er])) w':=by
 subst h;exact⟨none,0,0,rfl,Am.nil _ _,hb⟩
theorem Vx {n g:Nat}{f:Nat->Int}{t:TypeId}{w:World}(hg:w.heap[g]? =some (.cells (D9 n f) t (0,0)))(hn:n<=4096):Bn w (some ⟨g,0,none⟩) n n ((List.range n).map f):=
 ⟨by simp,rr,by unfold maxLen;omega,(fun h=>by cases h),fun h=>⟨g,0,rfl,lt_of_block hg,fun j v hv=>by
  rw[Nat.zero_add];refine Ad hg ?_;unfold D9;simpa using hv⟩⟩
theorem J2 (b n:Nat)(rs:List Bb)(x:Bu)(w:World)(hm:C0 w b n rs)(hx:Fw w x):
  Calls Tryz.prog 20 #[.pointer (some ⟨b,0,none⟩),M8 x] w (C6 w (Cx n rs x.d)):=by
 obtain⟨An,cn,mb,Ar,cr,Aq,cq,c0,c1,c2,c3⟩:=hm.cells;have a5:=hm.lt;have d1:=hm.few;obtain⟨⟨law,ps,T,S,fin⟩,Aw,nw,cw⟩:=x;have HM:=hI hm;have HX:=hI hx;have HC:=hI c0;clear hm hx c0 c1 c2 c3;have kb:(w.alloc (.cells #[.int .i64 law, .slice Aw nw cw, .int .i64 T, .int .i64 S, .int .i64 fin] 38)).heap[w.heap.size]? =some (.cells #[.int .i64 law, .slice Aw nw cw, .int .i64 T, .int .i64 S, .int .i64 fin] 38 (0,0)):=hpt;have kB:Below w.heap.size w (w.alloc (.cells #[.int .i64 law, .slice Aw nw cw, .int .i64 T, .int .i64 S, .int .i64 fin] 38)):=bel;go_enter Tryz.func20,Tryz.ntmps20;go_wp2_with fail;obtain⟨B0,b4⟩:∃B0,B0=w.heap.size:=⟨_,rfl⟩;rw[←b4]at kb ⊢;have b6:=hI kb;have a6:=hI kB;have f5:w.heap.size<=B0:=Nat.le_of_eq b4.symm;generalize w.alloc (.cells #[.int .i64 law, .slice Aw nw cw, .int .i64 T, .int .i64 S, .int .i64 fin] 38)=W0 at*;clear b4 kb kB;refine(Gz b An n cn W0 ((a6.out.cell (p:=⟨b,0,none⟩) a5).trans HC.out)).mono ?_;rintro e w1 ⟨rfl,b8⟩;have a0:=hI ((b8.block B0 (lt_of_block b6.out)).trans b6.out);have a2:=hI (a6.out.trans (b8.mono a6.out.size));clear b8 b6 a6;by_cases hn0:n=0
 ·have HV:Hid (Cx n rs ⟨law,ps,T,S,fin⟩=(1,[])):=by show _=_;unfold Cx;rw[if_pos hn0]
  have hz:(n:Int)=0:=by omega
  go_wp2
  go_ret2
  exact C6.bad HV.out a2.out
 ·have hz:((n:Int)==0)=false:=by simpa using hn0
  have HV:Hid (Cx n rs ⟨law,ps,T,S,fin⟩=if Di n ⟨law,ps,T,S,fin⟩≠0 then(Di n ⟨law,ps,T,S,fin⟩,[])else(0,(List.range n).map fun a=>Bf (De n rs ⟨law,ps,T,S,fin⟩ a))):=by show _=_;unfold Cx;rw[if_neg hn0]
  have k0:=Ad (j:=0) a0.out rfl;have k1:=Ad (j:=1) a0.out rfl;have k2:=Ad (j:=2) a0.out rfl;have k3:=Ad (j:=3) a0.out rfl;have k4:=Ad (j:=4) a0.out rfl;go_wp2_with fail;clear k0 k1 k2 k3 k4;refine(Ai1 b An n cn ⟨⟨law,ps,T,S,fin⟩,Aw,nw,cw⟩ w1 ((a2.out.cell (p:=⟨b,0,none⟩) a5).trans HC.out) (Nat.lt_of_lt_of_le a5 a2.out.size) (HX.out.below a2.out)).mono ?_;obtain⟨e1,a1⟩:∃e1,e1=Di n ⟨law,ps,T,S,fin⟩:=⟨_,rfl⟩;rw[←a1];rintro e w2 ⟨rfl,b5⟩;have b3:=hI ((b5.block B0 (lt_of_block a0.out)).trans a0.out);have a3:=hI (a2.out.trans (b5.mono a2.out.size));have a4:=hI a1;clear b5 a0 a2 a1;by_cases h10:e1=0
  ·have d7:(e1 !=0)=false:=by simp[h10]
   have d3:Hid (Di n ⟨law,ps,T,S,fin⟩=0):=by show _=_;rw[←a4.out,h10]
   have a8:Hid (Cx n rs ⟨law,ps,T,S,fin⟩=(0,(List.range n).map fun a=>Bf (De n rs ⟨law,ps,T,S,fin⟩ a))):=by show _=_;rw[HV.out,if_neg (by rw[d3.out];simp)]
   clear HV a4 h10;go_wp2_with fail;refine(Gz b An n cn w2 ((a3.out.cell (p:=⟨b,0,none⟩) a5).trans HC.out)).mono ?_;rintro e w3 ⟨rfl,b9⟩;have b0:=hI ((b9.block B0 (lt_of_block b3.out)).trans b3.out);have a7:=hI (a3.out.trans (b9.mono a3.out.size));clear b9 b3 a3;have d8:=fun w=>run_make_row' (P:=Tryz.prog) 42 2 (.int .i64 0) 8 Tryz.underlying42 K6 rfl .i64 .i64 n (by omega) (by omega) w
   have f4:n<=maxLen:=by unfold maxLen;omega
   go_wp2_with fail;clear d8;rw[Lm];have b7:Hid ((w3.alloc (.cells (D9 n fun _=>0) 2)).heap[w3.heap.size]? =some (.cells (D9 n fun _=>0) 2 (0,0))):=Ak rfl;have d0:=hI ((Az (lt_of_block b0.out):(w3.alloc (.cells (D9 n fun _=>0) 2)).heap[B0]? =_).trans b0.out);have d2:Hid (Below w.heap.size w (w3.alloc (.cells (D9 n fun _=>0) 2))):=a7.out.alloc a7.out.size _;have b2:=a7.out.size;have d5:B0<w3.heap.size:=lt_of_block b0.out;obtain⟨g,hg⟩:∃g,g=w3.heap.size:=⟨_,rfl⟩;rw[←hg]at b7 d5 b2 ⊢;generalize w3.alloc (.cells (D9 n fun _=>0) 2)=w4 at*;clear hg b0 a7
   go_loopw [8,23] (fun _ i wr=>∃k:Nat,k<=n/\i= .int .i64 (k:Int)/\Hid (wr.heap[g]? =some (.cells (D9 n fun v=>if v<k then Bf (De n rs ⟨law,ps,T,S,fin⟩ v)else 0) 2 (0,0)))/\Hid (wr.heap[B0]? =some (.cells #[.int .i64 law, .slice Aw nw cw, .int .i64 T, .int .i64 S, .int .i64 fin] 38 (0,0)))/\Hid (Below w.heap.size w wr)) (fun _ i _=>n-(intOf i).toNat)
   case atStart=>exact⟨0,Nat.zero_le _,rfl,by show _=_;simpa using b7.out,d0.out,d2.out⟩
   case round=>
    obtain⟨k,hk,rfl,HG,HK,HB⟩:=hrel;clear b7 d0 d2;by_cases hlt:k<n
    ·have f3:(k:Int)<(n:Int):=by omega
     have k0:=Ad (j:=0) HK.out rfl;have k1:=Ad (j:=1) HK.out rfl;have k2:=Ad (j:=2) HK.out rfl;have k3:=Ad (j:=3) HK.out rfl;have k4:=Ad (j:=4) HK.out rfl;go_wp2_with fail;clear k0 k1 k2 k3 k4;refine(Aix b n rs ⟨⟨law,ps,T,S,fin⟩,Aw,nw,cw⟩ k wr (HM.out.below HB.out) (HX.out.below HB.out) d3.out hlt).mono ?_;obtain⟨t,ht⟩:∃t,t=Bf (De n rs ⟨law,ps,T,S,fin⟩ k):=⟨_,rfl⟩;rw[←ht];rintro e w5 ⟨rfl,a9⟩;have b1:=hI ((a9.block g (lt_of_block HG.out)).trans HG.out);have d9:=hI ((a9.block B0 (lt_of_block HK.out)).trans HK.out);have d6:=hI (HB.out.trans (a9.mono HB.out.size));have f0:=hI ht;clear a9 HG HK HB ht;have cg:=Gk b1.out hlt;have fg:w5.frozen? ⟨g,k,none⟩=false:=by simp[World.frozen?,b1.out]
     have f2:Hid ((w5.setCell ⟨g,k,none⟩ (.int .i64 t)).heap[g]? =some (.cells (D9 n fun v=>if v<k+1 then Bf (De n rs ⟨law,ps,T,S,fin⟩ v)else 0) 2 (0,0))):=by
      show _=_
      rw[B2 b1.out,K4 (g:=fun v=>if v<k+1 then Bf (De n rs ⟨law,ps,T,S,fin⟩ v)else 0) (by simp[f0.out]) fun v _ hv=>by
       by_cases e:v<k
       ·simp[e,Nat.lt_succ_of_lt e]
       ·have:¬v<k+1:=by omega
        simp[e,this]]
     have f1:=hI ((Below.heap_setCell w5 ⟨g,k,none⟩ (.int .i64 t) B0 (by show B0≠g;omega)).trans d9.out);have d4:=hI (d6.out.setCell (p:=⟨g,k,none⟩) (by show w.heap.size<=g;omega) (.int .i64 t));go_wp2_with fail
     go_roundw
     case rel=>exact⟨k+1,by omega,by simp,f2.out,f1.out,d4.out⟩
     case measure=>simp[intOf];omega
    ·obtain rfl:k=n:=by omega
     go_wp2
     go_ret2
     have hr:=Vx HG.out (by omega);refine⟨_,_,_,by rw[a8.out];rfl, ?_,HB.out⟩;rw[a8.out];show Bn _ _ _ _ ((List.range k).map fun a=>Bf (De k rs ⟨law,ps,T,S,fin⟩ a));rw[show((List.range k).map fun a=>Bf (De k rs ⟨law,ps,T,S,fin⟩ a))=(List.range k).map fun v=>if v<k then Bf (De k rs ⟨law,ps,T,S,fin⟩ v)else 0 from List.map_congr_left fun v hv=>by rw[if_pos (List.mem_range.1 hv)]]
     exact hr
  ·have d7:(e1 !=0)=true:=by simpa using h10
   have a8:Hid (Cx n rs ⟨law,ps,T,S,fin⟩=(e1,[])):=by show _=_;rw[HV.out,if_pos (by rw[←a4.out];exact h10),a4.out]
   clear HV a4 h10;go_wp2
   go_ret2
   exact C6.bad a8.out a3.out
theorem C6.own {w W:World}{r:Int×List Int}{B:Nat}{v:Value}{l:List Int}(hr:r=(0,l))(h:W.ownsRow B 3 1 v l.length (l.map (Value.int .i64)))(hb:Below w.heap.size w W):C6 w r (.returned (.tuple #[v, .int .i64 0])) W:=by
 subst hr;obtain⟨A,c,rfl⟩:=Bh h;exact⟨A,_,c,rfl,Am.of_own h (by decide),hb⟩
def Ct (w:World)(B:Nat)(v:Value)(l:List Int):Prop:=w.ownsRow B 3 1 v l.length (l.map (Value.int .i64))/\B<=w.heap.size
theorem Ct.nil {w:World}{B:Nat}(h:B<=w.heap.size):Ct w B (.slice none 0 0) []:=⟨World.ownsRow_nil _ _ _ _,h⟩
theorem Ct.below {w w':World}{B:Nat}{v:Value}{l:List Int}(h:Ct w B v l)(hb:Below w.heap.size w w'):Ct w' B v l:=
 ⟨Bc h.1 fun k e=>hb.block k (h.1.lt k e).2,Nat.le_trans h.2 hb.size⟩
theorem Ct.push {w W:World}{B:Nat}{v v':Value}{l:List Int}{x:Int}(h:Ct w B v l)(hown:W.ownsRow B 3 1 v' (l.length+1) (l.map (Value.int .i64)++[.int .i64 x]))(hg:w.grownBy W v.ownBlock):Ct W B v' (l++[x]):=
 ⟨by rw[List.length_append,List.map_append];exact hown,Nat.le_trans h.2 hg.size⟩
theorem Ct.grow {w W w0:World}{B:Nat}{v:Value}{l:List Int}(h:Ct w B v l)(hb:Below w0.heap.size w0 w)(hB:w0.heap.size<=B)(hg:w.grownBy W v.ownBlock):Below w0.heap.size w0 W:=
 hb.grown hg hb.size fun k e=>Nat.le_trans hB (h.1.lt k e).1
theorem Ct.form {w:World}{B:Nat}{v:Value}{l:List Int}(h:Ct w B v l):∃A c,v= .slice A l.length c:=Bh h.1
theorem Ai2 (b n:Nat)(rs:List Bb)(Ax:Option Addr)(nx cx:Nat)(xs:List Bj)(A:Option Addr)(m c:Nat)(ys:List Bu)(kk:Int)(w:World)(hm:C0 w b n rs)(hx:Br w Ax nx cx xs)(hy:Bv w A m c ys)(hT:Cd w):
  Calls Tryz.prog 41 #[.pointer (some ⟨b,0,none⟩), .slice Ax nx cx, .slice A m c, .int .i64 kk] w (C6 w (Dv n rs (Ah xs) (Ae ys) kk)):=by
 obtain⟨An,cn,mb,Ar,cr,Aq,cq,c0,c1,c2,c3⟩:=hm.cells;have d5:=hm.lt;have b9:=hm.few;have f7:=hy.max;have HM:=hI hm;have HX:=hI hx;have HY:=hI hy;have HT:=hI hT;have HC:=hI c0;have d8:Hid ((Ae ys).length=m):=by show _=_;rw[Ae,List.length_map];exact hy.len
 clear hm hx hy hT c0 c1 c2 c3;go_enter Tryz.func41,Tryz.ntmps41;go_wp2_with fail;refine(Hs b n rs Ax nx cx xs A m c ys w HM.out HX.out HY.out HT.out).mono ?_;obtain⟨er,a6⟩:∃er,er=Ck n (Ah xs) (Ae ys):=⟨_,rfl⟩;rw[←a6];rintro e w1 ⟨rfl,d4⟩;have a0:=hI d4;have a4:=hI a6;clear d4 a6;by_cases he0:er=0
 ·have f3:(er !=0)=false:=by simp[he0]
  have b8:Hid (Ck n (Ah xs) (Ae ys)=0):=by show _=_;rw[←a4.out,he0]
  have HV:Hid (Dv n rs (Ah xs) (Ae ys) kk=if kk<0\/(m:Int)<=kk then(3,[])else(0,((List.range n).filter fun a=>(tAt n rs (Ae ys) a kk.toNat).isNone).map fun(a:Nat)=>(a:Int))):=by
   show _=_;unfold Dv;rw[if_neg (by rw[b8.out];simp),d8.out]
  clear a4 he0;by_cases hk0:kk<0
  ·have a2:Hid (Dv n rs (Ah xs) (Ae ys) kk=(3,[])):=by show _=_;rw[HV.out,if_pos (.inl hk0)]
   go_wp2
   go_ret2
   exact C6.bad a2.out a0.out
  ·by_cases hkm:(m:Int)<=kk
   ·have a2:Hid (Dv n rs (Ah xs) (Ae ys) kk=(3,[])):=by show _=_;rw[HV.out,if_pos (.inr hkm)]
    go_wp2
    go_ret2
    exact C6.bad a2.out a0.out
   ·obtain⟨k,rfl⟩:∃k:Nat,kk=k:=⟨kk.toNat,by omega⟩;have a8:k<m:=by omega
    obtain⟨P,hP⟩:∃P:Nat->Bool,P=fun a=>(tAt n rs (Ae ys) a k).isNone:=⟨_,rfl⟩
    have a2:Hid (Dv n rs (Ah xs) (Ae ys) k=(0,((List.range n).filter P).map fun(a:Nat)=>(a:Int))):=by
     show _=_;rw[HV.out,if_neg (by omega),hP];rfl
    have HP:=hI hP;clear HV hP;have f1:(k:Int)<(m:Int):=by omega
    go_wp2_with fail;refine(Gz b An n cn w1 ((a0.out.cell (p:=⟨b,0,none⟩) d5).trans HC.out)).mono ?_;rintro e w2 ⟨rfl,d1⟩;have b1:=hI (a0.out.trans (d1.mono a0.out.size));clear d1 a0;have b0:=b1.out.size;obtain⟨B,hB⟩:∃B,B=w2.heap.size:=⟨_,rfl⟩;have f2:w.heap.size<=B:=by omega
    have b7:Hid (Ct w2 B (.slice none 0 0) []):=Ct.nil (by omega);clear hB b0;go_wp2_with fail
    go_loopw [11,30] (fun s11 i wr=>∃j:Nat,j<=n/\i= .int .i64 (j:Int)/\Hid (Ct wr B s11 (((List.range j).filter P).map fun(a:Nat)=>(a:Int)))/\Hid (Below w.heap.size w wr)) (fun _ i _=>n-(intOf i).toNat)
    case atStart=>exact⟨0,Nat.zero_le _,rfl,b7.out,b1.out⟩
    case round=>
     obtain⟨j,hj,rfl,HN,HB⟩:=hrel;clear b7 b1;by_cases hlt:j<n
     ·have f8:(j:Int)<(n:Int):=by omega
      obtain⟨x,hx⟩:=(HY.out.below HB.out).get a8;obtain⟨yb,yo,hA,d9,b6,k0,k1,k2,k3,k4⟩:=(HY.out.below HB.out).at_ hx;subst hA;have a5:(Ae ys)[k]? =some x.d:=by rw[Ae,List.getElem?_map,hx];rfl
      have d2:Hid (tAt n rs (Ae ys) j k=De n rs x.d j):=by show _=_;unfold tAt;rw[a5];rfl
      have H1:Hid (Di n x.d=0):=((Dj b8.out).2.2.2 x.d (List.mem_of_getElem? a5)).2.2;have b5:=hI b6;have b4:Hid (P j=(De n rs x.d j).isNone):=by show _=_;rw[HP.out];show(tAt n rs (Ae ys) j k).isNone=_;rw[d2.out]
      clear hx a5 b6;obtain⟨⟨law,ps,T,S,fin⟩,Aw,nw,cw⟩:=x;simp only at k0 k1 k2 k3 k4;go_wp2_with fail;clear k0 k1 k2 k3 k4;refine(Aix b n rs ⟨⟨law,ps,T,S,fin⟩,Aw,nw,cw⟩ j wr (HM.out.below HB.out) b5.out H1.out hlt).mono ?_;obtain⟨t,ht⟩:∃t,t=De n rs ⟨law,ps,T,S,fin⟩ j:=⟨_,rfl⟩;have d3:Hid (P j=t.isNone):=by show _=_;rw[b4.out,ht]
      rw[←ht];rintro e w3 ⟨rfl,b3⟩;have a3:=hI (HN.out.below b3);have a7:=hI (HB.out.trans (b3.mono HB.out.size));clear b3 HN HB ht b4 d2 H1 b5 d9
      have d0:Hid ((List.range (j+1)).filter P=(List.range j).filter P++(if P j=true then [j]else [])):=by
       show _=_;rw[List.range_succ,List.filter_append];congr 1;by_cases h:P j=true
       ·rw[if_pos h,List.filter_cons_of_pos h];rfl
       ·rw[if_neg h,List.filter_cons_of_neg h];rfl
      cases t with
      |some t=>
       simp only[Bf];have f9:((t:Int)== -1)=false:=by simp
       go_wp2_with fail
       go_roundw
       case rel=>exact⟨j+1,by omega,by simp,by show Ct _ _ _ _;rw[d0.out,d3.out];simpa using a3.out,a7.out⟩
       case measure=>simp[intOf];omega
      |none=>
       simp only[Bf];obtain⟨A8,c8,f0⟩:=a3.out.form;subst f0;obtain⟨L,hL⟩:∃L,L=((List.range j).filter P).map fun(a:Nat)=>(a:Int):=⟨_,rfl⟩
       have f6:L.length<=j:=by rw[hL,List.length_map];exact Nat.le_trans (List.length_filter_le _ _) (by simp)
       rw[←hL]at a3 ⊢;have HL:=hI hL;clear hL;have a9:=a3.out.below ((Below.refl _ w3).alloc rr (.cells #[.int .i64 (j:Int)] 3));have b2:=hI a9;have d7:=a9.2;have f4:Hid (Below w.heap.size w (w3.alloc (.cells #[.int .i64 (j:Int)] 3))):=a7.out.alloc a7.out.size _;clear a9;go_wp2_with(at_builtin;refine Fs rfl (.tmp 41) (.tmp 43) rfl B (.slice A8 L.length c8) L.length (L.map (Value.int .i64)) rfl b2.out.1 ⟨w3.heap.size,0,none⟩ 1 (.int .i64 (j:Int)) rfl (cell_one_new _ _ _) rfl (by omega) d7 ?hc)
       case hc=>
        intro v' w4 a1 hg _;have d6:=hI (b2.out.push a1 hg);have f5:=hI (b2.out.grow f4.out f2 hg);clear a1 hg;go_wp2_with fail
        go_roundw
        case rel=>exact⟨j+1,by omega,by simp,by show Ct _ _ _ _;rw[d0.out,d3.out,if_pos (by rfl),List.map_append,←HL.out];exact d6.out,f5.out⟩
        case measure=>simp[intOf];omega
     ·obtain rfl:j=n:=by omega
      go_wp2
      go_ret2
      exact C6.own a2.out HN.out.1 HB.out
 ·have f3:(er !=0)=true:=by simpa using he0
  have HV:Hid (Dv n rs (Ah xs) (Ae ys) kk=(er,[])):=by show _=_;unfold Dv;rw[if_pos (by rw[←a4.out];exact he0),a4.out]
  go_wp2
  go_ret2
  exact C6.bad HV.out a0.out
theorem Tl (x:Int)(w:World):Calls Tryz.prog 101 #[.int .i64 x] w fun e w'=>e= .returned (.bool false)/\w'=w:=by
 go_enter Tryz.func101,Tryz.ntmps101;go_wp2;go_ret;simp
theorem Ai3 (x y:Int)(w:World):Calls Tryz.prog 57 #[.int .i64 x, .int .i64 y] w fun e w'=>e= .returned (.int .i64 (D6 x y))/\w'=w:=by
 go_enter Tryz.func57,Tryz.ntmps57;by_cases h1:x<y
 ·have h2:D6 x y= -1:=by unfold D6;rw[if_pos h1]
  rw[h2];go_wp2_with(go_at_call 101;refine(Tl _ _).mono ?_;rintro e w1 ⟨rfl,rfl⟩);go_ret;exact⟨rfl,rfl⟩
 ·by_cases h2:y<x
  ·have h3:D6 x y=1:=by unfold D6;rw[if_neg h1,if_pos h2]
   rw[h3];go_wp2_with(go_at_call 101;refine(Tl _ _).mono ?_;rintro e w1 ⟨rfl,rfl⟩);go_ret;exact⟨rfl,rfl⟩
  ·have h3:D6 x y=0:=by unfold D6;rw[if_neg h1,if_neg h2]
   rw[h3];go_wp2_with(go_at_call 101;refine(Tl _ _).mono ?_;rintro e w1 ⟨rfl,rfl⟩);go_ret;exact⟨rfl,rfl⟩
def orQ (x y:Int):Int:=if x≠0 then x else y
theorem Am7 (x y:Int)(b:Nat)(w:World)(h0:w.cell? ⟨b,0,none⟩=some (.int .i64 x))(h1:w.cell? ⟨b,1,none⟩=some (.int .i64 y)):
  Calls Tryz.prog 78 #[.slice (some ⟨b,0,none⟩) 2 2] w fun e w'=>e= .returned (.int .i64 (orQ x y))/\w'=w:=by
 go_enter Tryz.func78,Tryz.ntmps78;go_wp2
 go_loopw [5,8] (fun _ i wr=>∃k:Nat,k<=2/\i= .int .i64 k/\(0<k->x=0)/\(1<k->y=0)/\wr=w) (fun _ i _=>2-(intOf i).toNat)
 case atStart=>exact⟨0,by omega,rfl,by omega,by omega,rfl⟩
 case round=>
  obtain⟨k,hk,rfl,hx,hy,rfl⟩:=hrel;have a2:k=0\/k=1\/k=2:=by omega
  rcases a2 with rfl|rfl|rfl
  ·by_cases h:x=0
   ·subst h;go_wp2
    go_roundw
    case rel=>exact⟨1,by omega,rfl,by simp,by simp,by simp⟩
    case measure=>simp[intOf]
   ·have hb:(x !=0)=true:=by simpa using h
    go_wp2;go_ret;exact⟨by unfold orQ;rw[if_pos h];rfl,rfl⟩
  ·have a0:=hx (by omega);subst a0;by_cases h:y=0
   ·subst h;go_wp2
    go_roundw
    case rel=>exact⟨2,by omega,rfl,by simp,by simp,by simp⟩
    case measure=>simp[intOf]
   ·have hb:(y !=0)=true:=by simpa using h
    go_wp2;go_ret;exact⟨by unfold orQ;rw[if_neg (by simp)];rfl,rfl⟩
  ·have a0:=hx (by omega);have a1:=hy (by omega);subst a0 a1;go_wp2;go_ret;exact⟨rfl,rfl⟩
def D7:Option Nat->Int
 |none=>9223372036854775807
 |some t=>t
theorem Xl (o:Option Nat)(w:World):Calls Tryz.prog 77 #[.int .i64 (Bf o)] w fun e w'=>e= .returned (.int .i64 (D7 o))/\w'=w:=by
 cases o with
 |none=>
  simp only[Bf];go_enter Tryz.func77,Tryz.ntmps77;go_wp2;go_ret;exact⟨rfl,rfl⟩
 |some t=>
  have h:((t:Int)== -1)=false:=by simp
  simp only[Bf];go_enter Tryz.func77,Tryz.ntmps77;go_wp2;go_ret;exact⟨rfl,rfl⟩
theorem Ana (o:Option Nat)(now:Int)(w:World):Calls Tryz.prog 104 #[.int .i64 (Bf o), .int .i64 now] w fun e w'=>e= .returned (.bool (En now o))/\w'=w:=by
 cases o with
 |none=>
  simp only[Bf];go_enter Tryz.func104,Tryz.ntmps104;go_wp2;go_ret;exact⟨rfl,rfl⟩
 |some t=>
  have h:((t:Int) != -1)=true:=by simp
  simp only[Bf];go_enter Tryz.func104,Tryz.ntmps104;go_wp2;go_ret;exact⟨rfl,rfl⟩
theorem Aga (A:Option Addr)(n c:Nat)(xs:List (Nat×Nat))(F:Nat)(lb:Array Value)(p:(Nat×Nat)->Bool)(w:World)(hx:Cr Kl 2 w A n c xs)(hE:Enters Tryz.prog F)
  (hcall:∀W,Below w.heap.size w W→∀s∈xs,Calls Tryz.prog F (#[.agg #[.int .i64 (s.1:Int), .int .i64 (s.2:Int)]]++lb) W fun e W'=>e= .returned (.bool (p s))/\Below W.heap.size W W'):
  Calls Tryz.prog 98 #[.slice A n c, .func (.func F) #[] lb] w fun e w'=>e= .returned (.int .i64 (Gu p xs))/\Below w.heap.size w w':=by
 have hm:n<=9223372036854775807:=by have h1:=hx.1.2.1;have h2:=hx.1.2.2.1;unfold maxLen at h2;omega
 have HX:=hI hx;clear hx;have HC:=hI hcall;clear hcall;unfold Enters at hE;go_enter Tryz.func98,Tryz.ntmps98;go_wp2
 go_loopw [5,8] (fun _ i wr=>∃k:Nat,k<=n/\i= .int .i64 k/\Hid ((xs.take k).any p=false)/\Below w.heap.size w wr) (fun _ i _=>n-(intOf i).toNat)
 case atStart=>exact⟨0,Nat.zero_le _,rfl,by simp[Hid],Below.refl _ _⟩
 case round=>
  obtain⟨k,hk,rfl,HA,hB⟩:=hrel;by_cases hlt:k<n
  ·obtain⟨s,a2⟩:∃s,xs[k]? =some s:=⟨xs[k]'(by rw[HX.out.2];exact hlt),List.getElem?_eq_getElem _⟩;obtain⟨b,off,rfl,hb,a4⟩:=(HX.out.below hB rr).at_ Kx (by decide) a2;have a6:=a4 0 _ rfl;have a7:=a4 1 _ rfl;simp only[Nat.add_zero,←Nat.add_assoc]at a6 a7;clear a4;have a0:=hI (HC.out wr hB s (List.mem_of_getElem? a2));have HK:=hI a2;clear a2;by_cases hp:p s=true
   ·have hr:=Hc p xs k s HK.out HA.out hp;have HR:=hI hr;clear hr;have HP:=hI hp;clear hp;go_wp2_with fail;refine a0.out.mono ?_;rintro e w1 ⟨rfl,a1⟩;rw[HP.out];have a3:=hB.trans (a1.mono hB.size);clear a1;go_wp2;go_ret;exact⟨by rw[HR.out];rfl,a3⟩
   ·have a5:p s=false:=by simpa using hp
    have HP:=hI a5;clear hp a5;go_wp2_with fail;refine a0.out.mono ?_;rintro e w1 ⟨rfl,a1⟩;rw[HP.out];have a3:=hB.trans (a1.mono hB.size);clear a1;go_wp2
    go_roundw
    case rel=>exact⟨k+1,by omega,by go_num,by rw[Bd xs k _ HK.out,List.any_append,HA.out];simp[HP.out,Hid],a3⟩
    case measure=>simp[intOf];omega
  ·obtain rfl:k=n:=by omega
   have hr:Gu p xs= -1:=by
    have:=HA.out
    rw[List.take_of_length_le (by rw[HX.out.2];exact rr)]at this;exact Hb p xs this
   have HR:=hI hr;clear hr;go_wp2;go_ret;exact⟨by rw[HR.out];rfl,hB⟩
theorem Agb (A:Option Addr)(n c:Nat)(xs:List (Nat×Nat))(F:Nat)(lb:Array Value)(p:(Nat×Nat)->Bool)(w:World)(hx:Cr Kl 2 w A n c xs)(hE:Enters Tryz.prog F)
  (hcall:∀W,Below w.heap.size w W→∀s∈xs,Calls Tryz.prog F (#[.agg #[.int .i64 (s.1:Int), .int .i64 (s.2:Int)]]++lb) W fun e W'=>e= .returned (.bool (p s))/\Below W.heap.size W W'):
  Calls Tryz.prog 53 #[.slice A n c, .func (.func F) #[] lb] w fun e w'=>e= .returned (.bool (xs.any p))/\Below w.heap.size w w':=by
 have a0:=Aga A n c xs F lb p w hx hE hcall;have H:=hI (Ku p xs);clear hx hcall hE;go_enter Tryz.func53,Tryz.ntmps53;go_wp2_with(go_at_call 98;refine a0.mono ?_;rintro e w1 ⟨rfl,a1⟩);go_ret;refine⟨?_,a1⟩;show Ending.returned (.bool (decide (0<=Gu p xs)))=_;rw[H.out]
end Go.Proofs.YtaglfmlgbcmakaaGreatDoor
namespace Go.Proofs.YtaglfmlgbcmakaaGreatDoor
open Go.RowKit Go.Shelf Go.Sort
-- a row of records, as the sort sees it
theorem Zq {α:Type} [Inhabited α](enc:α->List Value)(k:Nat)(hk:∀x,(enc x).length=k)(h0:0<k)(l:List α):flatK enc k l.toArray=(l.flatMap enc).toArray:=by
 apply ext_get!
 ·simp[Ld enc k hk]
 ·intro t ht;have a0:t<l.length*k:=by simpa using ht
  rw[get_flatK _ _ _ _ (by simpa using a0)];have hq:t/k<l.length:=Nat.div_lt_of_lt_mul (by rw[Nat.mul_comm];exact a0);have hm:t%k<k:=Nat.mod_lt _ h0;have hx:l[t/k]? =some l[t/k]:=List.getElem?_eq_getElem hq;have hl:t%k<(enc l[t/k]).length:=by rw[hk];exact hm
  have h3:=Wx enc k hk l (t/k) _ hx (t%k) _ (List.getElem?_eq_getElem hl);rw[show t/k*k+t%k=t by rw[Nat.mul_comm];exact Nat.div_add_mod t k]at h3;have e1:(l.toArray)[t/k]! =l[t/k]:=by simp[getElem!_pos,hq]
  rw[e1]
  have e2:((l.flatMap enc).toArray)[t]! =(enc l[t/k])[t%k]:=by
   have a1:=(List.getElem?_eq_some_iff.1 h3).1;rw[getElem!_pos ((l.flatMap enc).toArray) t (by simpa using a1)];simpa using(List.getElem?_eq_some_iff.1 h3).2
  rw[e2,getElem!_pos (enc l[t/k]) (t%k) hl]
theorem Aes {α:Type} [Inhabited α]{enc:α->List Value}{k:Nat}(hk:∀x,(enc x).length=k)(h0:0<k){w:World}{base g n c:Nat}{e:TypeId}{l:List α}(h:w.ownsRow base e k (.slice (some ⟨g,0,none⟩) n c) n (l.flatMap enc)):
  HoldsK enc k w g 0 l.toArray:=by
 unfold HoldsK Holds;rw[Zq enc k hk h0];intro j hj;obtain⟨h1,⟨e0,_⟩|⟨g',cap',cur,e0,hb,hg,hn,hm,hs,ht⟩⟩:=h
 ·cases e0
 injection e0 with e1 _ e3
 injection e1 with e1
 injection e1 with e1
 subst e1;have a0:j<(l.flatMap enc).length:=by simpa using hj
 have a1:j<cur.size:=by rw[hs];rw[h1]at a0;exact Nat.lt_of_lt_of_le a0 (Nat.mul_le_mul_right k hn)
 have e5:cur[j]? =some (l.flatMap enc)[j]:=by
  have h5:=congrArg (fun x:List Value=>x[j]?) ht;simp only[List.getElem?_take]at h5;rw[if_pos (by rw[←h1];exact a0),Array.getElem?_toList,List.getElem?_eq_getElem a0]at h5;exact h5
 refine⟨?_, ?_⟩
 ·rw[getElem!_pos ((l.flatMap enc).toArray) j hj];simp[World.cell?,hg,e5]
 ·simp[World.frozen?,hg]
theorem Zr {α:Type} [Inhabited α]{enc:α->List Value}{k:Nat}(hk:∀x,(enc x).length=k)(h0:0<k){w:World}{g c:Nat}{l:List α}(h:HoldsK enc k w g 0 l.toArray)(hg:g<w.heap.size)(hc:l.length<=c)(hm:c<=maxLen):
  Am w (some ⟨g,0,none⟩) l.length c k (l.flatMap enc):=by
 refine⟨Ld enc k hk l,hc,hm,(fun h=>by cases h),fun _=>⟨g,0,rfl,hg,fun j v hv=> ?_⟩⟩
 unfold HoldsK Holds at h;rw[Zq enc k hk h0]at h;have hj:=(List.getElem?_eq_some_iff.1 hv).1;have h1:=(h j (by simpa using hj)).1;rw[getElem!_pos ((l.flatMap enc).toArray) j (by simpa using hj)]at h1;rw[h1];simpa using(List.getElem?_eq_some_iff.1 hv).2
end Go.Proofs.YtaglfmlgbcmakaaGreatDoor
namespace Go.Proofs.YtaglfmlgbcmakaaGreatDoor
open Go.RowKit Go.Shelf Go.Sort Go.Lib
theorem Alo (s:Nat×Nat)(r:Dt)(bx:Nat)(w:World)(h:w.heap[bx]? =some (.cells #[.int .i64 r.1, .int .i64 r.2.1, .int .i64 r.2.2] 64 (0,0))):
  Calls Tryz.prog 54 #[.agg #[.int .i64 (s.1:Int), .int .i64 (s.2:Int)], .pointer (some ⟨bx,0,none⟩)] w fun e w'=>e= .returned (.bool (decide ((s.1:Int)=r.2.1)))/\Below w.heap.size w w':=by
 obtain⟨x,l⟩:=s;obtain⟨p,q,z⟩:=r;have c1:=Ad (j:=1) h rfl;have hb:=lt_of_block h;clear h;simp only at c1 ⊢;go_enter Tryz.func54,Tryz.ntmps54;go_wp2;go_ret;refine⟨?_,bel⟩;congr 2
theorem Agx (s t:Nat×Nat)(w:World):
  Calls Tryz.prog 56 #[.agg #[.int .i64 (s.1:Int), .int .i64 (s.2:Int)], .agg #[.int .i64 (t.1:Int), .int .i64 (t.2:Int)]] w fun e w'=>e= .returned (.int .i64 (D6 (s.1:Int) (t.1:Int)))∧∃q os,w'=grow (w.drewN q) os:=by
 obtain⟨x,l⟩:=s;obtain⟨y,z⟩:=t;simp only;go_enter Tryz.func56,Tryz.ntmps56;go_wp2_with fail;refine(Ai3 (x:Int) (y:Int) _).mono ?_;rintro e w1 ⟨rfl,rfl⟩;go_wp2;go_ret;refine⟨rfl,0, #[.cells #[.int .i64 (x:Int), .int .i64 (l:Int)] 112, .cells #[.int .i64 (y:Int), .int .i64 (z:Int)] 112], ?_⟩;rw[alloc_eq_grow,alloc_eq_grow,grow_grow];rfl
def Aj0 (s t:Nat×Nat):Int:=D6 (s.1:Int) (t.1:Int)
theorem Pg (s t:Nat×Nat):ltOf Aj0 s t=decide (s.1<t.1):=by
 unfold ltOf Aj0 D6;by_cases h1:s.1<t.1<;>by_cases h2:t.1<s.1<;>simp[h1,h2]
theorem Agy:SWO (ltOf Aj0) where
 irrefl x:=by rw[Pg];simp
 trans x y z h1 h2:=by rw[Pg]at*;simp at*;omega
 ntrans x y z h1 h2:=by rw[Pg]at*;simp at*;omega
theorem Aaz {α:Type} [Inhabited α]{enc:α->List Value}{k:Nat}(w:World)(g m:Nat)(d:Array α)(os:Array Obj):Au (fun i=>i=g) w (sortWorldK enc k w g 0 m d os):=by
 unfold sortWorldK putRowK putRow mapBlock Sort.grow Sort.ahead;refine⟨rfl,rfl,rfl,by simp,fun i hi hs=> ?_⟩
 simp only;rw[Array.getElem?_append_left (by simpa using hi),Array.getElem?_modify,if_neg (fun e=>hs e.symm)]
theorem Ad1 (v:Value)(base:Nat)(es:List (Nat×Nat))(w:World)(h:w.ownsRow base 112 2 v es.length (es.flatMap Kl))(hn:es.length<=4000):
  Calls Tryz.prog 55 #[v, .func (.func 56) #[] #[]] w fun e w'=>
   e= .returned (.tuple #[])/\(∃A c es',v= .slice A es.length c/\Fv w' A es.length c es'/\es'.Perm es)/\Au (fun k=>v.ownBlock=some k) w w':=by
 rcases Nat.eq_zero_or_pos es.length with h0|h0
 ·have hs:es=[]:=List.eq_nil_of_length_eq_zero h0;subst hs;rcases h.2 with⟨rfl,_⟩|⟨g,cap,cur,rfl,hb,hg,a4,a3,a5,ht⟩
  ·exact(AnyF.slices_SortFunc_none Tryz.sortEnd none 0 _ w).mono fun e w' ⟨h1,h2⟩=>by
    subst h2;exact⟨h1,⟨none,0,[],rfl,⟨Am.nil _ _,rfl⟩,List.Perm.refl _⟩,Au.refl _ _⟩
  ·exact(AnyF.slices_SortFunc_none Tryz.sortEnd (some ⟨g,0,none⟩) cap _ w).mono fun e w' ⟨h1,h2⟩=>by
    subst h2;exact⟨h1,⟨some ⟨g,0,none⟩,cap,[],rfl,⟨Am.of_own h (by decide),rfl⟩,List.Perm.refl _⟩,Au.refl _ _⟩
 ·obtain⟨g,cap,rfl,hb,hg⟩:=Vo h h0
  have hm:es.length<=cap/\cap<=maxLen:=by
   have h3:=Am.of_own h (by decide);exact⟨h3.2.1,h3.2.2.1⟩
  have hH:HoldsK Kl 2 w g 0 es.toArray:=Aes Kx (by decide) h
  have a2:=AnyQ.slices_SortFunc Tryz.sortEnd 2 Tryz.isAgg112 Tryz.sizeOf112 Kl Kx (fun x v hv=>by simp[Kl]at hv;rcases hv with rfl|rfl<;>rfl) Aj0 Agy 56 #[] g 0 cap es.toArray w
   (enters_of Tryz.func56 (by kernel_rfl) rfl) (fun m os dk _ x y=>(Agx x y _).mono fun e w' ⟨h1,h2⟩=>⟨h1,h2⟩) hH hg (by simp;omega)
  refine Calls.mono a2 ?_;rintro e w' ⟨rfl,d',m,os,hp,hs,rfl⟩;have a1:d'.size=es.length:=by have:=hp.1;simpa using this
  have a0:d'.toList.Perm es:=by
   have h3:=hp.2.2;rw[show es.toArray.size=es.length from by simp]at h3;have e1:(d'.extract 0 es.length).toList=d'.toList:=by rw[←a1];simp
   have e2:(es.toArray.extract 0 es.length).toList=es:=by simp
   rwa[e1,e2]at h3
  refine⟨rfl,⟨some ⟨g,0,none⟩,cap,d'.toList,rfl, ?_,a0⟩,(Aaz w g m d' os).mono fun k e=>by show some g=some k;rw[e]⟩
  have h5:HoldsK Kl 2 (sortWorldK Kl 2 w g 0 m d' os) g 0 d'.toList.toArray:=by
   unfold sortWorldK;refine holdsK_grow Kl 2 _ os g 0 _ (by simpa[putRowK,putRow,mapBlock,Sort.ahead]using hg) ?_;exact holdsK_putRowK Kl 2 (Sort.ahead w m) g 0 es.toArray _ hH (by simpa using a1)
  have hl:d'.toList.length=es.length:=by simpa using a1
  have h6:=Zr Kx (by decide) h5 (Nat.lt_of_lt_of_le hg (by unfold sortWorldK Sort.grow;simp[putRowK,putRow,mapBlock,Sort.ahead])) (by rw[hl];exact hm.1) hm.2;rw[hl]at h6;exact⟨h6,hl⟩
end Go.Proofs.YtaglfmlgbcmakaaGreatDoor
namespace Go.Proofs.YtaglfmlgbcmakaaGreatDoor
open Go.RowKit
def Qp (w:World)(A:Option Addr)(n:Nat):Prop:=0<n→∀ad,A=some ad→∃cs t,w.heap[ad.block]? =some (.cells cs t (0,0))
theorem Qp.of_own {w:World}{base:Nat}{t:TypeId}{sz n c m:Nat}{A:Option Addr}{xs:List Value}(h:w.ownsRow base t sz (.slice A n c) m xs):Qp w A n:=fun _ ad had=>by
 rcases h.2 with⟨e,_⟩|⟨g,cap,cur,e,_,hg,_⟩
 ·injection e with e _ _
  rw[had]at e;cases e
 ·injection e with e _ _
  rw[had]at e;injection e with e
  subst e;exact⟨_,_,hg⟩
theorem Qp.keep {w w':World}{A:Option Addr}{n:Nat}(h:Qp w A n)(hb:0<n→∀ad,A=some ad->w'.heap[ad.block]? =w.heap[ad.block]?):Qp w' A n:=fun hn ad had=>by
 obtain⟨cs,t,hc⟩:=h hn ad had;exact⟨cs,t,(hb hn ad had).trans hc⟩
theorem Qp.below {w w':World}{A:Option Addr}{n:Nat}(h:Qp w A n)(hb:Below w.heap.size w w'):Qp w' A n:=fun hn ad had=>by
 obtain⟨cs,t,hc⟩:=h hn ad had;exact⟨cs,t,(hb.block _ (lt_of_block hc)).trans hc⟩
def Afp (w:World)(xs:List Snd)(e:Ending)(w':World):Prop:=
 ∃A n c,e= .returned (.slice A n c)/\Aj w' A n c xs/\Below w.heap.size w w'/\(∀ad,A=some ad->w.heap.size<=ad.block)/\Qp w' A n
theorem Xv (A:Option Addr)(n c:Nat)(xs:List Snd)(w:World)(hx:Aj w A n c xs)(hb:n<=4096):
  Calls Tryz.prog 60 #[.slice A n c] w (Afp w xs):=by
 have HX:=hI hx;clear hx
 cases A with
 |none=>
  have a1:c=0:=HX.out.2.2.2.1 rfl;have a2:n=0:=by have:=HX.out.2.1;omega
  subst a1 a2;go_enter Tryz.func60,Tryz.ntmps60;go_wp2;go_ret;obtain rfl:xs=[]:=List.eq_nil_of_length_eq_zero HX.out.len;exact⟨none,0,0,rfl,Am.nil _ _,Below.refl _ _,(fun _ h=>by cases h),fun _ _ h=>by cases h⟩
 |some ad=>
  go_enter Tryz.func60,Tryz.ntmps60;go_wp2_with(at_builtin;refine Hg rfl (.tmp 5) (.tmp 6) rfl w.heap.size _ 0 [] rfl (World.ownsRow_made w #[] 0 rr (by simp[maxLen]) rfl) (some ad) n c xs rfl (HX.out.below (B:=w.heap.size) bel rr) (by omega) (by simp) ?_;intro v1 w1 a0 a4 _);go_ret;have a3:=Fb (B:=w.heap.size) (w0:=w) bel (World.ownsRow_made (e:=49) (size:=2) w #[] 0 rr (by simp[maxLen]) rfl) a4 rr (by simp);have ho:w1.ownsRow w.heap.size 49 2 v1 n (Ce xs):=by simpa using a0
  obtain⟨A1,c1,rfl⟩:=Bh ho;exact⟨A1,n,c1,rfl,Am.of_own ho (by decide),a3,(fun ad had=>by subst had;exact(ho.lt ad.block rfl).1),Qp.of_own ho⟩
end Go.Proofs.YtaglfmlgbcmakaaGreatDoor
namespace Go.Proofs.YtaglfmlgbcmakaaGreatDoor
open Go.RowKit Go.Shelf Go.Maps Go.WideMaps
def Un (v:Value):Option (DataW Value×List MemPlace):=some (.held v,[])
def Hx (L:List Int):List UInt8:=L.map fun x=>UInt8.ofNat x.toNat
def N9 (L:List Int):Lit:= .string (Hx L)
def P3 (L:List Int):Prop:=∀x∈L,0<=x/\x<256
theorem Uo:∀{L L':List Int},P3 L->P3 L'->Hx L=Hx L'->L=L'
 |[],[],_,_,_=>rfl
 |[],y::ys,_,_,e=>by cases e
 |x::xs,[],_,_,e=>by cases e
 |x::xs,y::ys,h,h',e=>by
  simp only[Hx,List.map_cons,List.cons.injEq]at e;have hx:=h x (List.mem_cons_self ..);have hy:=h' y (List.mem_cons_self ..)
  have e1:x=y:=by
   have:=congrArg UInt8.toNat e.1
   simp only[UInt8.toNat_ofNat']at this;omega
  rw[e1,Uo (fun z hz=>h z (List.mem_cons_of_mem _ hz)) (fun z hz=>h' z (List.mem_cons_of_mem _ hz)) e.2]
theorem Af7 {L L':List Int}(h:P3 L)(h':P3 L')(e:N9 L=N9 L'):L=L':=by
 injection e with e
 exact Uo h h' e
theorem Ye (L:List Int)(hl:L.length<=4096):keyOf Tryz.prog 9 (.string ⟨(Hx L).toArray⟩)=some (N9 L):=by
 have h:=keyOf_string_mk (P:=Tryz.prog) (k:=9) (s:=⟨(Hx L).toArray⟩) Tryz.underlying9 (by
  show((Hx L).toArray).size<=maxLen;rw[List.size_toArray];unfold Hx maxLen;rw[List.length_map];omega)
 rw[h];rfl
theorem Yf {w:World}{B:Nat}{v:Value}{L:List Int}(hu:P3 L)(h:w.ownsRow B 5 1 v L.length (L.map (Value.int .u8))):(convert 102 9 v).run Tryz.prog w= .ok (.string ⟨(Hx L).toArray⟩) w:=by
 rcases h.2 with⟨rfl,e⟩|⟨g,cap,cur,rfl,_,hg,h1,h2,h3,h4⟩
 ·obtain rfl:L=[]:=List.length_eq_zero_iff.1 e;rw[run_convert_bytes_string w 102 9 5 none 0 0 Tryz.underlying102 Tryz.underlying5 Tryz.underlying9];simp[Conv.bytesToString,Hx];rfl
 ·have hb:(Hx L).length=L.length:=List.length_map _;rw[←hb];refine run_convert_bytes_back w 102 9 5 ⟨g,0,none⟩ cap (Hx L) Tryz.underlying102 Tryz.underlying5 Tryz.underlying9 fun j hj=> ?_
  have a0:j<L.length:=by rw[←hb];exact hj
  rw[He,Nat.zero_add];refine Ad hg ?_;rw[Nat.mul_one]at h4;have h5:=congrArg (fun l:List Value=>l[j]?) h4;simp only[List.getElem?_take,if_pos a0,List.getElem?_map,List.getElem?_eq_getElem a0,Option.map_some]at h5;have h6:cur[j]? =some (.int .u8 L[j]):=by simpa using h5
  rw[h6];have hx:=hu L[j] (List.getElem_mem _)
  have:((Hx L)[j].toNat:Int)=L[j]:=by
   simp only[Hx,List.getElem_map,UInt8.toNat_ofNat'];omega
  rw[this]
def M3 (B bm:Nat)(vo:Value)(W:World)(A:Option Addr)(n:Nat):Prop:=0<n→∀ad,A=some ad->B<=ad.block/\ad.block≠bm/\vo.ownBlock≠some ad.block/\ad.block<W.heap.size
structure G3 (B bm i:Nat)(ls:List Bi)(ws:List Snd)(vo:Value)(ps:List Part)(D:DataW Value)(W:World):Prop where
 lb:B<=bm
 om:W.ownsMap Tryz.prog 9 Un bm i D
 im:IsMap D
 wd:∀L,P3 L->Go.Maps.has D (N9 L)=true→∃A n c,D.atKey (N9 L) (.held (.slice none 0 0))= .held (.slice A n c)/\Aj W A n c (B9 (Df ls L) ws).2/\(B9 (Df ls L) ws).1=0/\M3 B bm vo W A n
 oo:W.ownsRow B 28 1 vo ps.length (ps.map Part.val)
 pp:Ko W ps
 pd:∀p∈ps,M3 B bm vo W p.1 p.2.1
 pu:∀p∈ps,Qp W p.1 p.2.1
 sz:B<=W.heap.size
section
variable {B bm i:Nat}{ls:List Bi}{ws:List Snd}{vo vo':Value}{ps:List Part}{D:DataW Value}{W W':World}
theorem V9 {n:Nat}{H:Type}{R:Value->Option (DataW H×List MemPlace)}{D:DataW H}{k:TypeId}(h:W.ownsMap Tryz.prog k R bm n D)(hb:W'.heap[bm]? =W.heap[bm]?):W'.ownsMap Tryz.prog k R bm n D:=by
 obtain⟨es,clock,h1,h2⟩:=h;exact⟨es,clock,hb.trans h1,h2⟩
theorem M3.up {A:Option Addr}{n:Nat}(h:M3 B bm vo W A n)(hs:W.heap.size<=W'.heap.size):M3 B bm vo W' A n:=fun hn ad had=>by
 obtain⟨h1,h2,h3,h4⟩:=h hn ad had;exact⟨h1,h2,h3,Nat.lt_of_lt_of_le h4 hs⟩
theorem G3.mono (h:G3 B bm i ls ws vo ps D W){j:Nat}(hj:i<=j):G3 B bm j ls ws vo ps D W:=⟨h.lb,h.om.mono hj,h.im,h.wd,h.oo,h.pp,h.pd,h.pu,h.sz⟩
theorem G3.below (h:G3 B bm i ls ws vo ps D W)(hb:Below W.heap.size W W'):G3 B bm i ls ws vo ps D W':=
 ⟨h.lb,V9 h.om (hb.block bm h.om.lt),h.im,fun L hL hh=>by
   obtain⟨A,n,c,h1,h2,h3,h4⟩:=h.wd L hL hh;exact⟨A,n,c,h1,h2.below hb rr,h3,h4.up hb.size⟩,
  Bc h.oo fun k e=>hb.block k (h.oo.lt k e).2,fun p hp=>(h.pp p hp).below hb rr,fun p hp=>(h.pd p hp).up hb.size,fun p hp=>(h.pu p hp).below hb,Nat.le_trans h.sz hb.size⟩
theorem G3.noMap (h:G3 B bm i ls ws vo ps D W):vo.ownBlock≠some bm:=by
 intro e;obtain⟨es,clock,h1,_⟩:=h.om;rcases h.oo.2 with⟨rfl,_⟩|⟨g,cap,cur,rfl,_,hg,_⟩
 ·cases e
 ·obtain rfl:g=bm:=Option.some.inj e;rw[hg]at h1;cases h1
theorem G3.put (h:G3 B bm i ls ws vo ps D W){L:List Int}(hL:P3 L){A:Option Addr}{n c:Nat}(hw:Aj W A n c (B9 (Df ls L) ws).2)(h0:(B9 (Df ls L) ws).1=0)(hf:M3 B bm vo W A n)
  (hm:W'.ownsMap Tryz.prog 9 Un bm (i+1) (D.put (N9 L) (.held (.slice A n c)))) (hg:W.grownBy W' (some bm)):G3 B bm (i+1) ls ws vo ps (D.put (N9 L) (.held (.slice A n c))) W'/\Aj W' A n c (B9 (Df ls L) ws).2/\M3 B bm vo W' A n:=by
 have a2:=h.noMap;have hk:Au (fun k=>k=bm) W W':=⟨hg.os,hg.tape,hg.output,hg.size,fun k hk hn=>hg.block k hk (fun e=>hn (by injection e))⟩
 have a1:∀{A':Option Addr} {n' c':Nat} {x:List Snd},Aj W A' n' c' x->M3 B bm vo W A' n'->Aj W' A' n' c' x:=fun hw hn=>hw.keep hk fun hp ad had e=>(hn hp ad had).2.1 e
 refine⟨⟨h.lb,hm,h.im.put _ _,fun L' hL' hh=> ?_,Bc h.oo fun k e=>hg.block k (h.oo.lt k e).2 (fun e'=>by injection e' with e';subst e';exact a2 e),fun p hp=>a1 (h.pp p hp) (h.pd p hp),fun p hp=>(h.pd p hp).up hg.size,fun p hp=>(h.pu p hp).keep fun hn ad had=>hg.block ad.block (h.pd p hp hn ad had).2.2.2 (fun e=>by injection e with e;exact(h.pd p hp hn ad had).2.1 e),Nat.le_trans h.sz hg.size⟩,a1 hw hf,hf.up hg.size⟩
 by_cases e:L'=L
 ·subst e;exact⟨A,n,c,atKey_put_same h.im (show WideAt.IsKeyLit (N9 L')from trivial) _ _,a1 hw hf,h0,hf.up hg.size⟩
 ·have a0:N9 L'≠N9 L:=fun e'=>e (Af7 hL' hL e')
  rw[has_put_other a0]at hh;obtain⟨A',n',c',h1,h2,h3,h4⟩:=h.wd L' hL' hh;exact⟨A',n',c',by rw[atKey_put_other a0];exact h1,a1 h2 h4,h3,h4.up hg.size⟩
theorem G3.push (h:G3 B bm i ls ws vo ps D W){p:Part}(hw:Aj W p.1 p.2.1 p.2.2.1 p.2.2.2)(hf:M3 B bm vo W p.1 p.2.1)(hu:Qp W p.1 p.2.1)
  (hown:W'.ownsRow B 28 1 vo' (ps.length+1) (ps.map Part.val++[p.val])) (hg:W.grownBy W' vo.ownBlock) (a1:vo'.ownBlock=vo.ownBlock\/vo'.ownBlock=some W.heap.size):G3 B bm i ls ws vo' (ps++[p]) D W':=by
 have hk:Au (fun k=>vo.ownBlock=some k) W W':=⟨hg.os,hg.tape,hg.output,hg.size,fun k hk hn=>hg.block k hk (fun e=>hn e.symm)⟩
 have a0:∀{A:Option Addr} {n:Nat},M3 B bm vo W A n->M3 B bm vo' W' A n:=fun h hn ad had=>by
  obtain⟨h1,h2,h3,h4⟩:=h hn ad had;refine⟨h1,h2,fun e=> ?_,Nat.lt_of_lt_of_le h4 hg.size⟩
  rcases a1 with h'|h'
  ·exact h3 (h'▸e)
  ·rw[h']at e;injection e with e;omega
 refine⟨h.lb,V9 h.om (hg.block bm h.om.lt fun e=>h.noMap e.symm),h.im,fun L hL hh=> ?_,by rw[List.length_append,List.map_append];exact hown, ?_, ?_, ?_,Nat.le_trans h.sz hg.size⟩
 ·obtain⟨A',n',c',h1,h2,h3,h4⟩:=h.wd L hL hh;exact⟨A',n',c',h1,h2.keep hk fun hn ad had=>(h4 hn ad had).2.2.1,h3,a0 h4⟩
 ·intro q hq;rcases List.mem_append.1 hq with hq|hq
  ·exact(h.pp q hq).keep hk fun hn ad had=>(h.pd q hq hn ad had).2.2.1
  ·obtain rfl:q=p:=by simpa using hq
   exact hw.keep hk fun hn ad had=>(hf hn ad had).2.2.1
 ·intro q hq;rcases List.mem_append.1 hq with hq|hq
  ·exact a0 (h.pd q hq)
  ·obtain rfl:q=p:=by simpa using hq
   exact a0 hf
 ·intro q hq;rcases List.mem_append.1 hq with hq|hq
  ·exact(h.pu q hq).keep fun hn ad had=>hg.block ad.block (h.pd q hq hn ad had).2.2.2 (fun e=>(h.pd q hq hn ad had).2.2.1 e.symm)
  ·obtain rfl:q=p:=by simpa using hq
   exact hu.keep fun hn ad had=>hg.block ad.block (hf hn ad had).2.2.2 (fun e=>(hf hn ad had).2.2.1 e.symm)
end
def Up (w:World)(r:Int×List (List Snd))(e:Ending)(w':World):Prop:=
 ∃A c,∃ps:List Part,e= .returned (.tuple #[.slice A ps.length c, .int .i64 r.1])/\ps.map Part.word=r.2/\w'.ownsRow w.heap.size 28 1 (.slice A ps.length c) ps.length (ps.map Part.val)/\Ko w' ps∧
  (∀p∈ps,0<p.2.1→∀ad,p.1=some ad->w.heap.size<=ad.block/\(Value.slice A ps.length c).ownBlock≠some ad.block∧∃cs t,w'.heap[ad.block]? =some (.cells cs t (0,0)))/\Below w.heap.size w w'
theorem Up.bad {w w':World}{r:Int×List (List Snd)}{er:Int}(h:r=(er,[]))(hb:Below w.heap.size w w'):Up w r (.returned (.tuple #[.slice none 0 0, .int .i64 er])) w':=by
 subst h;exact⟨none,0,[],rfl,rfl,World.ownsRow_nil _ _ _ _,(fun p hp=>absurd hp (List.not_mem_nil)),(fun p hp=>absurd hp (List.not_mem_nil)),hb⟩
end Go.Proofs.YtaglfmlgbcmakaaGreatDoor
namespace Go.Proofs.YtaglfmlgbcmakaaGreatDoor
open Go.RowKit Go.Shelf
def J8 (n:Nat)(f:Nat->Value):Array Value:=((List.range n).map f).toArray
theorem Ajz {n v:Nat}(f:Nat->Value)(h:v<n):(J8 n f)[v]? =some (f v):=by unfold J8;simp[h]
theorem Ags {n k:Nat}{f g:Nat->Value}{x:Value}(hk:g k=x)(h:∀v,v<n->v≠k->g v=f v):(J8 n f).setIfInBounds k x=J8 n g:=by
 unfold J8;apply Array.ext
 ·simp
 ·intro i h1 h2;have hi:i<n:=by simpa using h2
  by_cases e:i=k
  ·subst e;simp[hi,hk]
  ·simp[Array.getElem_setIfInBounds,Ne.symm e,h i hi e]
theorem Adz (n:Nat):madeCells #[.slice none 0 0] n=J8 n fun _=> .slice none 0 0:=by
 unfold madeCells J8;apply Array.ext
 ·simp
 ·intro i h1 h2;simp[Nat.mod_one]
theorem Lk {n v g:Nat}{f:Nat->Value}{t:TypeId}{w:World}(hg:w.heap[g]? =some (.cells (J8 n f) t (0,0)))(h:v<n):w.cell? ⟨g,v,none⟩=some (f v):=Ad hg (Ajz f h)
structure H8 (B q n:Nat)(val:Nat->Value)(ls:Nat->List (Nat×Nat))(W:World):Prop where
 qB:q<B
 blk:W.heap[q]? =some (.cells (J8 n val) 110 (0,0))
 own:∀v,v<n->W.ownsRow B 112 2 (val v) (ls v).length ((ls v).flatMap Kl)
 apart:∀u v,u<n->v<n->u≠v→∀k,(val u).ownBlock=some k->(val v).ownBlock≠some k
 sz:B<=W.heap.size
section
variable {B q n:Nat}{val:Nat->Value}{ls:Nat->List (Nat×Nat)}{W W':World}
theorem H8.below (h:H8 B q n val ls W)(hb:Below W.heap.size W W'):H8 B q n val ls W':=
 ⟨h.qB,(hb.block q (lt_of_block h.blk)).trans h.blk,fun v hv=>Bc (h.own v hv) fun k e=>hb.block k ((h.own v hv).lt k e).2,h.apart,Nat.le_trans h.sz hb.size⟩
theorem H8.eq (h:H8 B q n val ls W){ls':Nat->List (Nat×Nat)}(e:∀v,v<n->ls' v=ls v):H8 B q n val ls' W:=⟨h.qB,h.blk,fun v hv=>by rw[e v hv];exact h.own v hv,h.apart,h.sz⟩
theorem H8.push (h:H8 B q n val ls W){v:Nat}(hv:v<n){v':Value}{p:Nat×Nat}(hown:W'.ownsRow B 112 2 v' ((ls v).length+1) ((ls v).flatMap Kl++Kl p))(hg:W.grownBy W' (val v).ownBlock)
  (a2:v'.ownBlock=(val v).ownBlock\/v'.ownBlock=some W.heap.size):
  H8 B q n (fun u=>if u=v then v' else val u) (fun u=>if u=v then ls v++[p]else ls u) (W'.setCell ⟨q,v,none⟩ v'):=by
 have a1:=lt_of_block h.blk;have a0:∀u,u<n→∀k,(val u).ownBlock=some k->B<=k/\k<W.heap.size:=fun u hu k e=>(h.own u hu).lt k e
 have a3:W'.heap[q]? =some (.cells (J8 n val) 110 (0,0)):=(hg.block q a1 (fun e=>by have:=(a0 v hv q e.symm).1;have:=h.qB;omega)).trans h.blk;refine⟨h.qB, ?_,fun u hu=> ?_,fun u u' hu hu' hne k e e'=> ?_,by have:=hg.size;have:=h.sz;simp;omega⟩
 ·rw[B2 a3,Ags (g:=fun u=>if u=v then v' else val u) (by simp) fun u _ hne=>by simp[hne]]
 ·by_cases e:u=v
  ·subst e;simp only[if_true];rw[List.length_append,List.length_singleton,List.flatMap_append,List.flatMap_singleton];exact Bc hown fun k e=>Below.heap_setCell _ _ _ _ (by have:=(hown.lt k e).1;have:=h.qB;show k≠q;omega)
  ·simp only[if_neg e];exact Bc (h.own u hu) fun k e'=>(Below.heap_setCell _ _ _ _ (by have:=(a0 u hu k e').1;have:=h.qB;show k≠q;omega)).trans (hg.block k (a0 u hu k e').2 (fun e2=>h.apart u v hu hv e k e' e2.symm))
 ·have key:∀u,u<n->u≠v→∀k,(val u).ownBlock=some k->v'.ownBlock≠some k:=fun u hu hne k e e'=>by
   rcases a2 with h'|h'
   ·exact h.apart u v hu hv hne k e (h'▸e')
   ·rw[h']at e';injection e' with e';have:=(a0 u hu k e).2;omega
  by_cases e1:u=v
  ·by_cases e2:u'=v
   ·exact hne (e1.trans e2.symm)
   ·simp only[if_pos e1]at e;simp only[if_neg e2]at e';exact key u' hu' e2 k e' e
  ·simp only[if_neg e1]at e;by_cases e2:u'=v
   ·simp only[if_pos e2]at e';exact key u hu e1 k e e'
   ·simp only[if_neg e2]at e';exact h.apart u u' hu hu' hne k e e'
end
theorem Agt (done:List Bb){a b l:Nat}(hab:a≠b)(v:Nat):Dh (done++[(a,b,l)]) v=(if v=b then(if b=a then Dh done a++[(b,l)]else Dh done b)++[(a,l)]else if v=a then Dh done a++[(b,l)]else Dh done v):=by
 rw[Adx];have a0:¬b=a:=fun e=>hab e.symm
 by_cases h1:v=b
 ·subst h1;simp[hab,a0]
 ·by_cases h2:v=a
  ·subst h2;simp[h1]
  ·have h3:¬a=v:=fun e=>h2 e.symm
   have h4:¬b=v:=fun e=>h1 e.symm
   simp[h1,h2,h3,h4]
theorem Yp {n:Nat}{rs:List Dt}{done:List Bb}{j:Nat}{r:Dt}(h:rs[j]? =some r):Cq n done (rs.drop j)=if min r.1 r.2.1<0\/(n:Int)<=max r.1 r.2.1 then 3 else if r.1=r.2.1 then 9 else if r.2.2<1\/1073741824<r.2.2 then 2
  else if done.any (fun s=>B7 s r.1.toNat r.2.1.toNat)then 6 else Cq n (done++[Be r]) (rs.drop (j+1)):=by
 have hk:=(List.getElem?_eq_some_iff.1 h).1;rw[List.drop_eq_getElem_cons hk,(List.getElem?_eq_some_iff.1 h).2];rfl
theorem Yq:(Tryz.prog.info? 112).map (fun i=>(i.zero,i.size,i.bytes))=some (some (.agg #[.int .i64 0, .int .i64 0]),2,16):=by kernel_rfl
theorem S7 {S:Nat->Prop}{w w':World}{A:Option Addr}{n c sz:Nat}{vs:List Value}(h:Am w A n c sz vs)(hk:Au S w w')(hS:0<n→∀ad,A=some ad→¬S ad.block):Am w' A n c sz vs:=by
 refine⟨h.1,h.2.1,h.2.2.1,h.2.2.2.1,fun hn=> ?_⟩
 obtain⟨b,off,hA,hb,hc⟩:=h.2.2.2.2 hn;have a0:=hk.block b hb (hS hn _ hA);exact⟨b,off,hA,Nat.lt_of_lt_of_le hb hk.size,fun j v hv=>(World.cell?_of_block a0).trans (hc j v hv)⟩
def Akj:Value->Option Addr
 | .slice A _ _=>A
 |_=>none
def Akk:Value->Nat
 | .slice _ _ c=>c
 |_=>0
structure Nz (B n i:Nat)(val:Nat->Value)(ls es:Nat->List (Nat×Nat))(W0 W:World):Prop where
 lo:∀v,v<n->i<=v->W.ownsRow B 112 2 (val v) (ls v).length ((ls v).flatMap Kl)
 hi:∀v,v<n->v<i->Fv W (Akj (val v)) (ls v).length (Akk (val v)) (es v)/\(es v).Perm (ls v)
 kp:Au (fun k=>B<=k) W0 W
 ap:∀u v,u<n->v<n->u≠v→∀k,(val u).ownBlock=some k->(val v).ownBlock≠some k
 vl:∀v,v<n→∃A c,val v= .slice A (ls v).length c
 bl:∀v,v<n→∀k,(val v).ownBlock=some k->B<=k
theorem Nz.start {B q n:Nat}{val:Nat->Value}{ls:Nat->List (Nat×Nat)}{W:World}(h:H8 B q n val ls W):Nz B n 0 val ls ls W W:=
 ⟨fun v hv _=>h.own v hv,fun v _ hv=>absurd hv (Nat.not_lt_zero _),Au.refl _ _,h.apart,fun v hv=>Bh (h.own v hv),fun v hv k e=>((h.own v hv).lt k e).1⟩
theorem Nz.step {B n i:Nat}{val:Nat->Value}{ls es:Nat->List (Nat×Nat)}{W0 W W':World}(h:Nz B n i val ls es W0 W)(hi:i<n){A:Option Addr}{c:Nat}{es':List (Nat×Nat)}(hv:val i= .slice A (ls i).length c)(he:Fv W' A (ls i).length c es')(hp:es'.Perm (ls i))
  (hk:Au (fun k=>(val i).ownBlock=some k) W W'):Nz B n (i+1) val ls (fun v=>if v=i then es' else es v) W0 W':=by
 refine⟨fun v hv' hlt=>Bc (h.lo v hv' (by omega)) fun k e=>hk.block k ((h.lo v hv' (by omega)).lt k e).2 (fun e'=>h.ap i v hi hv' (by omega) k e' e),fun v hv' hlt=> ?_,h.kp.trans (hk.mono fun k e=>h.bl i hi k e),h.ap,h.vl,h.bl⟩
 by_cases e:v=i
 ·subst e;simp only[if_true];rw[hv];exact⟨he,hp⟩
 ·simp only[if_neg e];obtain⟨h1,h2⟩:=h.hi v hv' (by omega);refine⟨⟨S7 h1.1 hk fun hn ad had e'=> ?_,h1.2⟩,h2⟩
  obtain⟨A2,c2,a1⟩:=h.vl v hv';refine h.ap i v hi hv' (Ne.symm e) ad.block e' ?_;rw[a1]at had ⊢;have a0:A2=some ad:=had;rw[a0];rfl
theorem Nz.map {B q n b:Nat}{val:Nat->Value}{rs:List Bb}{es:Nat->List (Nat×Nat)}{W0 W:World}(h:Nz B n n val (Dh rs) es W0 W){An:Option Addr}{cn mb:Nat}{Ar:Option Addr}{cr:Nat}
  (hb:W.heap[b]? =some (.cells #[.slice An n cn, .map (some mb), .slice Ar rs.length cr, .slice (some ⟨q,0,none⟩) n n] 99 (0,0))) (hr:Cw W Ar rs.length cr (rs.map Hi)) (hq:W.heap[q]? =some (.cells (J8 n val) 110 (0,0)))
  (hok:Ci n rs) (hn:n<=128) (hrs:rs.length<=512):C0 W b n rs:=by
 refine⟨An,cn,mb,Ar,cr,some ⟨q,0,none⟩,n,(List.range n).map fun v=>(Akj (val v),(Dh rs v).length,Akk (val v),es v),hb,hr, ?_,fun v p hp=> ?_,hok,hn,hrs⟩
 ·have a0:((List.range n).map fun v=>(Akj (val v),(Dh rs v).length,Akk (val v),es v)).map Aaw.val=(List.range n).map val:=by
   rw[List.map_map];refine List.map_congr_left fun v hv=> ?_
   obtain⟨A2,c2,a1⟩:=h.vl v (List.mem_range.1 hv);show Value.slice (Akj (val v)) _ (Akk (val v))=val v;rw[a1];rfl
  rw[a0];refine⟨by simp,rr,by unfold maxLen;omega,(fun h=>by cases h),fun _=>⟨q,0,rfl,lt_of_block hq,fun j v hv=> ?_⟩⟩
  rw[Nat.zero_add];refine Ad hq ?_;unfold J8;simpa using hv
 ·rw[List.getElem?_map]at hp;by_cases hv:v<n
  ·rw[List.getElem?_range hv]at hp;simp only[Option.map_some,Option.some.injEq]at hp;subst hp;exact h.hi v hv hv
  ·rw[List.getElem?_eq_none (by simpa using hv)]at hp;cases hp
end Go.Proofs.YtaglfmlgbcmakaaGreatDoor
