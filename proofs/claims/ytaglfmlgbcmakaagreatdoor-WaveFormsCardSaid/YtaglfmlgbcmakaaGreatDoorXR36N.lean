/-
  ablautref36.New.
-/
import Derived.Test.YtaglfmlgbcmakaaGreatDoorXR36s
import Derived.Test.YtaglfmlgbcmakaaGreatDoorH08
set_option linter.all false
set_option maxRecDepth 100000
set_option maxHeartbeats 4000000
namespace Go.Proofs.YtaglfmlgbcmakaaGreatDoor
open Go.RowKit Go.Shelf
def E2 (w:World)(names:List ByteArray)(rs:List Ep)(e:Ending)(w':World):Prop:=
 ∃v,e= .returned (.tuple #[v, .int .i64 (Ed names rs)])/\H8 w' v (if Ed names rs=0 then names.length else 0) (rs.map Bm)/\Below w.heap.size w w'
theorem E2.bad {w w':World}{names:List ByteArray}{rs:List Ep}{er:Int}(h:Ed names rs=er)(h0:er≠0)(hb:Below w.heap.size w w'):E2 w names rs (.returned (.tuple #[.pointer none, .int .i64 er])) w':=by
 subst h;exact⟨_,rfl, .inl ⟨rfl,if_neg h0⟩,hb⟩
theorem Ah4 (An:Option Addr)(nn cn:Nat)(names:List ByteArray)(Ar:Option Addr)(nr cr:Nat)(rs:List Ep)(w:World)(hn:Hi w An nn cn names)(hsz:∀s∈names,s.size<=9223372036854775807)(hr:D7 w Ar nr cr rs)(h12:nn<=12\/128<nn)(h40:nr<=40\/512<nr):
  Calls Tryz.prog 74 #[.slice An nn cn, .slice Ar nr cr] w (E2 w names rs):=by
 have v0:nn<=cn/\cn<=9223372036854775807:=by have h1:=hn.2.1;have h2:=hn.2.2.1;unfold maxLen at h2;omega
 have t6:nr<=cr/\cr<=9223372036854775807:=by have h1:=hr.1.2.1;have h2:=hr.1.2.2.1;unfold maxLen at h2;omega
 have HN:=hI hn;have HR:=hI hr;have p2:=hI hsz;have d3:Hid (names.length=nn):=hn.len;have d1:Hid (rs.length=nr):=hr.2;clear hn hr hsz;go_enter Tryz.func74,Tryz.ntmps74;by_cases h1:nn>128
 ·have p8:(nn:Int)>128:=by omega
  have HV:Hid (Ed names rs=12):=by show _=_;unfold Ed;rw[if_pos (.inl (by rw[d3.out];exact h1))]
  go_wp2
  go_ret2
  exact E2.bad HV.out (by decide) (Below.refl _ _)
 by_cases h2:nr>512
 ·have p8:¬(nn:Int)>128:=by omega
  have r9:(nr:Int)>512:=by omega
  have HV:Hid (Ed names rs=12):=by show _=_;unfold Ed;rw[if_pos (.inr (by rw[d1.out];exact h2))]
  go_wp2
  go_ret2
  exact E2.bad HV.out (by decide) (Below.refl _ _)
 have p8:¬(nn:Int)>128:=by omega
 have r9:¬(nr:Int)>512:=by omega
 have q6:nn<=12:=by omega
 have q2:nr<=40:=by omega
 have HV:Hid (Ed names rs=if Dj [] names≠0 then Dj [] names else Da nn [] rs):=by show _=_;unfold Ed;rw[if_neg (by rw[d3.out,d1.out];omega),d3.out]
 clear h12 h40;go_wp2_with fail
 go_loopw [6,7] (fun s6 _ wr=>∃k:Nat,k<=nn/\s6= .int .i64 (k:Int)/\Hid (Dj [] names=Dj (names.take k) (names.drop k))/\Hid (Below w.heap.size w wr)) (fun s6 _ _=>nn-(intOf s6).toNat)
 case atStart=>exact⟨0,Nat.zero_le _,rfl,rfl,Below.refl _ _⟩
 case round=>as_aux_lemma=>
  obtain⟨k,hk,rfl,HE,HB⟩:=hrel;by_cases hlt:k<nn
  ·have t7:(k:Int)<(nn:Int):=by omega
   obtain⟨pb,po,v,hA,q0,hv,r2⟩:=(HN.out.below HB.out rr:Az wr An nn cn 1 (names.map Value.string)).at1 hlt;subst hA;obtain⟨s,hs⟩:∃s,names[k]? =some s:=⟨names[k]'(by rw[d3.out];exact hlt),List.getElem?_eq_getElem _⟩;obtain rfl:v= .string s:=by rw[List.getElem?_map,hs]at hv;simpa using hv.symm
   have HS:Hid (Dj (names.take k) (names.drop k)=if Dg s=false then 15 else if(names.take k).any (fun x=>decide (x=s))then 6 else Dj (names.take (k+1)) (names.drop (k+1))):=Yz hs;have s4:=hI hs;have r0:=p2.out s (List.mem_of_getElem? hs);clear hv hs;go_wp2_with fail;refine(Aed s wr r0).mono ?_;obtain⟨d,hd⟩:∃d,d=Dg s:=⟨_,rfl⟩;rw[←hd]at HS ⊢;clear hd;rintro e w1 ⟨rfl,rfl⟩
   cases d with
   |false=>
    have a1:Hid (Ed names rs=15):=by show _=_;rw[HV.out,HE.out,HS.out];simp
    go_wp2
    go_ret2
    exact E2.bad a1.out (by decide) HB.out
   |true=>
    have f0:Hid (Dj (names.take k) (names.drop k)=if(names.take k).any (fun x=>decide (x=s))then 6 else Dj (names.take (k+1)) (names.drop (k+1))):=by show _=_;rw[HS.out,if_neg (by simp)]
    clear HS;go_wp2_with fail
    go_loopw [7] (fun s7 wr=>∃j:Nat,j<=k/\s7= .int .i64 (j:Int)/\Hid ((names.take j).any (fun x=>decide (x=s))=false)/\Hid (Below w.heap.size w wr)) (fun s7 _=>k-(intOf s7).toNat)
    case atStart=>exact⟨0,Nat.zero_le _,rfl,rfl,HB.out⟩
    case round=>as_aux_lemma=>
     obtain⟨j,hj,rfl,b0,a3⟩:=hrel;clear r2 q0 HB;by_cases hjk:j<k
     ·have r4:(j:Int)<(k:Int):=by omega
      have u3:(j:Int)<(nn:Int):=by omega
      obtain⟨_,_,u',a5, -,j2,v5⟩:=(HN.out.below a3.out rr:Az wr (some ⟨pb,po,none⟩) nn cn 1 (names.map Value.string)).at1 (k:=j) (by omega);obtain⟨_,_,u2,f4, -,i4,t9⟩:=(HN.out.below a3.out rr:Az wr (some ⟨pb,po,none⟩) nn cn 1 (names.map Value.string)).at1 (k:=k) (by omega);simp only[Option.some.injEq,Addr.mk.injEq,and_true]at a5 f4;obtain⟨rfl,rfl⟩:=a5;obtain⟨rfl,rfl⟩:=f4;obtain⟨u,hu⟩:∃u,names[j]? =some u:=⟨names[j]'(by rw[d3.out];omega),List.getElem?_eq_getElem _⟩;obtain rfl:u'= .string u:=by rw[List.getElem?_map,hu]at j2;simpa using j2.symm
      obtain rfl:u2= .string s:=by rw[List.getElem?_map,s4.out]at i4;simpa using i4.symm
      have d8:Hid (names.take (j+1)=names.take j++[u]):=Bd names j u hu
      have g8:Hid (u∈names.take k):=by
       refine List.mem_of_getElem? (i:=j) ?_;rw[List.getElem?_take,if_pos hjk,hu]
      clear j2 i4 hu;by_cases hus:u=s
      ·subst hus
       have a1:Hid (Ed names rs=6):=by
        have h6:Dj [] names=6:=by rw[HE.out,f0.out,if_pos (by rw[List.any_eq_true];exact⟨u,g8.out,by simp⟩)]
        show _=_;rw[HV.out,if_pos (by rw[h6];decide),h6]
       go_wp2_with fail
       go_quiet (fail)
       go_wp2
       go_ret2
       exact E2.bad a1.out (by decide) (a3.out.drewN _)
      ·have q5:(u.toList==s.toList)=false:=Ame hus;have o9:=hI hus;clear hus;go_wp2_with fail
       go_quiet (fail)
       go_wp2_with fail
       go_roundw
       case rel=>first|exact⟨j+1,by omega,by go_num,by show _=_;rw[d8.out,List.any_append,b0.out];simpa using o9.out,a3.out.drewN _⟩|((repeat apply Exists.intro);exact⟨⟨j+1,by omega,by go_num,by show _=_;rw[d8.out,List.any_append,b0.out];simpa using o9.out,a3.out.drewN _⟩,rfl⟩)
       case measure=>simp[intOf];omega
     ·obtain rfl:j=k:=by omega
      have g6:Hid (Dj [] names=Dj (names.take (j+1)) (names.drop (j+1))):=by show _=_;rw[HE.out,f0.out,if_neg (by rw[b0.out];simp)]
      go_wp2_with fail
      go_roundw
      case rel=>first|exact⟨j+1,by omega,by go_num,g6.out,a3.out⟩|((repeat apply Exists.intro);exact⟨⟨j+1,by omega,by go_num,g6.out,a3.out⟩,rfl⟩)
      case measure=>simp[intOf];omega
  ·obtain rfl:k=nn:=by omega
   have d9:Hid (Dj [] names=0):=by show _=_;rw[HE.out,List.drop_eq_nil_of_le (by rw[d3.out];exact rr)];rfl
   have a6:Hid (Ed names rs=Da k [] rs):=by show _=_;rw[HV.out,if_neg (by rw[d9.out];simp)]
   clear HV HE d9 p2;have hz:(0:Nat)<=nr:=Nat.zero_le _;go_wp2_with fail
   go_loopw [9,10,11] (fun s9 _ _ wr=>∃j:Nat,j<=nr/\s9= .int .i64 (j:Int)/\Hid (Da k [] rs=Da k ((rs.take j).map Bm) (rs.drop j))/\Hid (∀s∈rs.take j,0<=s.1/\0<=s.2.1)/\Hid (Below w.heap.size w wr)) (fun s9 _ _ _=>nr-(intOf s9).toNat)
   case atStart=>exact⟨0,Nat.zero_le _,rfl,rfl,(fun s hs=>by cases hs),HB.out⟩
   case round=>as_aux_lemma=>
    obtain⟨j,hj,rfl,HE,d7,a8⟩:=hrel;clear HB hz;by_cases hjr:j<nr
    ·have s5:(j:Int)<(nr:Int):=by omega
     obtain⟨x,hx⟩:∃x,rs[j]? =some x:=⟨rs[j]'(by rw[d1.out];exact hjr),List.getElem?_eq_getElem _⟩;obtain⟨gb,go,hA,k8,g0,g1,g2⟩:=D7.at_ (Eb.below HR.out a8.out rr) hx;subst hA;have HX:=hI hx;have HS:=hI (Yw (n:=k) (done:=(rs.take j).map Bm) hx);have p0:Hid (rs.take (j+1)=rs.take j++[x]):=Bd rs j x hx;clear hx;obtain⟨ra,rb,rl⟩:=x;simp only at g0 g1 g2;have a0:Hid (Below w.heap.size w (wr.alloc (.cells #[.int .i64 ra, .int .i64 rb, .int .i64 rl] 64))):=a8.out.alloc a8.out.size _;have k3:Hid ((wr.alloc (.cells #[.int .i64 ra, .int .i64 rb, .int .i64 rl] 64)).heap[wr.heap.size]? =some (.cells #[.int .i64 ra, .int .i64 rb, .int .i64 rl] 64 (0,0))):=Am rfl;by_cases b1:ra<0
     ·have a1:Hid (Ed names rs=3):=by show _=_;rw[a6.out,HE.out,HS.out,if_pos (by show min ra rb<0\/(k:Int)<=max ra rb;omega)]
      go_wp2
      go_ret2
      exact E2.bad a1.out (by decide) a0.out
     by_cases b2:(k:Int)<=ra
     ·have a1:Hid (Ed names rs=3):=by show _=_;rw[a6.out,HE.out,HS.out,if_pos (by show min ra rb<0\/(k:Int)<=max ra rb;omega)]
      go_wp2
      go_ret2
      exact E2.bad a1.out (by decide) a0.out
     by_cases b3:rb<0
     ·have a1:Hid (Ed names rs=3):=by show _=_;rw[a6.out,HE.out,HS.out,if_pos (by show min ra rb<0\/(k:Int)<=max ra rb;omega)]
      go_wp2
      go_ret2
      exact E2.bad a1.out (by decide) a0.out
     by_cases b4:(k:Int)<=rb
     ·have a1:Hid (Ed names rs=3):=by show _=_;rw[a6.out,HE.out,HS.out,if_pos (by show min ra rb<0\/(k:Int)<=max ra rb;omega)]
      go_wp2
      go_ret2
      exact E2.bad a1.out (by decide) a0.out
     have f3:Hid (Da k ((rs.take j).map Bm) (rs.drop j)=if ra=rb then 9 else if rl<1\/1073741824<rl then 2
       else if((rs.take j).map Bm).any (fun s=>Cj s ra.toNat rb.toNat)then 6 else Da k ((rs.take j).map Bm++[Bm (ra,rb,rl)]) (rs.drop (j+1))):=by
      show _=_;rw[HS.out,if_neg (by show¬(min ra rb<0\/(k:Int)<=max ra rb);omega)]
     clear HS;by_cases b5:ra=rb
     ·subst b5;have a1:Hid (Ed names rs=9):=by show _=_;rw[a6.out,HE.out,f3.out,if_pos rfl]
      go_wp2
      go_ret2
      exact E2.bad a1.out (by decide) a0.out
     have v9:(ra==rb)=false:=by simpa using b5
     by_cases b6:rl<1
     ·have a1:Hid (Ed names rs=2):=by show _=_;rw[a6.out,HE.out,f3.out,if_neg b5,if_pos (.inl b6)]
      go_wp2
      go_ret2
      exact E2.bad a1.out (by decide) a0.out
     by_cases b7:1073741824<rl
     ·have a1:Hid (Ed names rs=2):=by show _=_;rw[a6.out,HE.out,f3.out,if_neg b5,if_pos (.inr b7)]
      go_wp2
      go_ret2
      exact E2.bad a1.out (by decide) a0.out
     obtain⟨a,rfl⟩:∃a:Nat,ra=a:=⟨ra.toNat,by omega⟩;obtain⟨b,rfl⟩:∃b:Nat,rb=b:=⟨rb.toNat,by omega⟩
     have f0:Hid (Da k ((rs.take j).map Bm) (rs.drop j)=if((rs.take j).map Bm).any (fun s=>Cj s a b)=true then 6 else Da k ((rs.take j).map Bm++[Bm ((a:Int),(b:Int),rl)]) (rs.drop (j+1))):=by
      show _=_;rw[f3.out,if_neg b5,if_neg (by omega)];rfl
     have v8:¬a=b:=by omega
     clear f3 b5;have t4:(((a:Nat):Int)==((b:Nat):Int))=false:=by rw[beq_eq_false_iff_ne];omega
     have p9:(a==b)=false:=by rw[beq_eq_false_iff_ne];omega
     go_wp2_with fail;obtain⟨X,hX⟩:∃X,X=wr.heap.size:=⟨_,rfl⟩;rw[←hX]at k3 ⊢;generalize wr.alloc (.cells #[.int .i64 (a:Int), .int .i64 (b:Int), .int .i64 rl] 64)=W5 at*;clear hX g0 g1 g2 k8 a8
     go_loopw [11] (fun s11 wr=>∃m:Nat,m<=j/\s11= .int .i64 (m:Int)/\Hid (((rs.take m).map Bm).any (fun s=>Cj s a b)=false)/\Hid (wr.heap[X]? =some (.cells #[.int .i64 (a:Int), .int .i64 (b:Int), .int .i64 rl] 64 (0,0)))/\Hid (Below w.heap.size w wr)) (fun s11 _=>j-(intOf s11).toNat)
     case atStart=>exact⟨0,Nat.zero_le _,rfl,rfl,k3.out,a0.out⟩
     case round=>as_aux_lemma=>
      obtain⟨m,hm,rfl,b0,d0,a4⟩:=hrel;clear k3 a0;by_cases hmj:m<j
      ·have s3:(m:Int)<(j:Int):=by omega
       have t6:(m:Int)<(nr:Int):=by omega
       obtain⟨y,hy⟩:∃y,rs[m]? =some y:=⟨rs[m]'(by rw[d1.out];omega),List.getElem?_eq_getElem _⟩;obtain⟨_,_,f4, -,g0,g1, -⟩:=D7.at_ (Eb.below HR.out a4.out rr) hy;simp only[Option.some.injEq,Addr.mk.injEq,and_true]at f4;obtain⟨rfl,rfl⟩:=f4;have i2:y∈rs.take j:=List.mem_of_getElem? (i:=m) (by rw[List.getElem?_take,if_pos hmj,hy]);have d8:Hid (rs.take (m+1)=rs.take m++[y]):=Bd rs m y hy;have f8:=d7.out y i2;obtain⟨yp,yq,yl⟩:=y;simp only at g0 g1 f8;obtain⟨p,rfl⟩:∃p:Nat,yp=p:=⟨yp.toNat,by omega⟩;obtain⟨q,rfl⟩:∃q:Nat,yq=q:=⟨yq.toNat,by omega⟩;have HJ:Hid (Cj (Bm ((p:Int),(q:Int),yl)) a b=((decide (p=a) && decide (q=b))||(decide (p=b) && decide (q=a)))):=rfl;have g8:Hid (Bm ((p:Int),(q:Int),yl)∈(rs.take j).map Bm):=List.mem_map.2 ⟨_,i2,rfl⟩;have x0:=Ad (j:=0) d0.out rfl;have x1:=Ad (j:=1) d0.out rfl;clear hy i2 f8;by_cases e1:a=p
       ·subst e1;by_cases e2:b=q
        ·subst e2
         have a1:Hid (Ed names rs=6):=by
          have h6:Da k [] rs=6:=by
           rw[HE.out,f0.out,if_pos (by rw[List.any_eq_true];exact⟨_,g8.out,by rw[HJ.out];simp⟩)]
          show _=_;rw[a6.out,h6]
         go_wp2_with fail
         go_quiet (fail)
         go_wp2
         go_ret2
         exact E2.bad a1.out (by decide) (a4.out.drewN _)
        ·have x2:(((q:Nat):Int)==((b:Nat):Int))=false:=by rw[beq_eq_false_iff_ne];omega
         have t5:(q==b)=false:=by rw[beq_eq_false_iff_ne];omega
         have b9:Hid (((rs.take (m+1)).map Bm).any (fun s=>Cj s a b)=false):=by
          show _=_;rw[d8.out,List.map_append,List.any_append,b0.out,Bool.false_or];show(Cj _ a b||false)=false;rw[HJ.out,Bool.or_false];simp<;>omega
         go_wp2_with fail
         go_quiet (fail)
         go_wp2_with fail
         go_roundw
         case rel=>first|exact⟨m+1,by omega,by go_num,b9.out,d0.out,a4.out.drewN _⟩|((repeat apply Exists.intro);exact⟨⟨m+1,by omega,by go_num,b9.out,d0.out,a4.out.drewN _⟩,rfl⟩)
         case measure=>simp[intOf];omega
       ·have u0:(((p:Nat):Int)==((a:Nat):Int))=false:=by rw[beq_eq_false_iff_ne];omega
        have s1:(p==a)=false:=by rw[beq_eq_false_iff_ne];omega
        by_cases e3:b=p
        ·subst e3;by_cases e4:a=q
         ·subst e4
          have a1:Hid (Ed names rs=6):=by
           have h6:Da k [] rs=6:=by
            rw[HE.out,f0.out,if_pos (by rw[List.any_eq_true];exact⟨_,g8.out,by rw[HJ.out];simp⟩)]
           show _=_;rw[a6.out,h6]
          go_wp2_with fail
          go_quiet (fail)
          go_wp2
          go_ret2
          exact E2.bad a1.out (by decide) (a4.out.drewN _)
         ·have v7:(((q:Nat):Int)==((a:Nat):Int))=false:=by rw[beq_eq_false_iff_ne];omega
          have t1:(q==a)=false:=by rw[beq_eq_false_iff_ne];omega
          have b9:Hid (((rs.take (m+1)).map Bm).any (fun s=>Cj s a b)=false):=by
           show _=_;rw[d8.out,List.map_append,List.any_append,b0.out,Bool.false_or];show(Cj _ a b||false)=false;rw[HJ.out,Bool.or_false];simp<;>omega
          go_wp2_with fail
          go_quiet (fail)
          go_wp2_with fail
          go_roundw
          case rel=>first|exact⟨m+1,by omega,by go_num,b9.out,d0.out,a4.out.drewN _⟩|((repeat apply Exists.intro);exact⟨⟨m+1,by omega,by go_num,b9.out,d0.out,a4.out.drewN _⟩,rfl⟩)
          case measure=>simp[intOf];omega
        ·have u9:(((p:Nat):Int)==((b:Nat):Int))=false:=by rw[beq_eq_false_iff_ne];omega
         have q9:(p==b)=false:=by rw[beq_eq_false_iff_ne];omega
         have b9:Hid (((rs.take (m+1)).map Bm).any (fun s=>Cj s a b)=false):=by
          show _=_;rw[d8.out,List.map_append,List.any_append,b0.out,Bool.false_or];show(Cj _ a b||false)=false;rw[HJ.out,Bool.or_false];simp<;>omega
         go_wp2_with fail
         go_quiet (fail)
         go_wp2_with fail
         go_roundw
         case rel=>first|exact⟨m+1,by omega,by go_num,b9.out,d0.out,a4.out.drewN _⟩|((repeat apply Exists.intro);exact⟨⟨m+1,by omega,by go_num,b9.out,d0.out,a4.out.drewN _⟩,rfl⟩)
         case measure=>simp[intOf];omega
      ·obtain rfl:m=j:=by omega
       have g6:Hid (Da k [] rs=Da k ((rs.take (m+1)).map Bm) (rs.drop (m+1))):=by
        show _=_;rw[HE.out,f0.out,if_neg (by rw[b0.out];simp),p0.out,List.map_append];rfl
       have p4:Hid (∀s∈rs.take (m+1),0<=s.1/\0<=s.2.1):=fun s hs=>by
        rw[p0.out]at hs;rcases List.mem_append.1 hs with hs|hs
        ·exact d7.out s hs
        ·obtain rfl:s=((a:Int),(b:Int),rl):=by simpa using hs
         simp
       go_wp2_with fail
       go_roundw
       case rel=>first|exact⟨m+1,by omega,by go_num,g6.out,p4.out,a4.out⟩|((repeat apply Exists.intro);exact⟨⟨m+1,by omega,by go_num,g6.out,p4.out,a4.out⟩,rfl⟩)
       case measure=>simp[intOf];omega
    ·obtain rfl:j=nr:=by omega
     have d9:Hid (Da k [] rs=0):=by show _=_;rw[HE.out,List.drop_eq_nil_of_le (by rw[d1.out];exact rr)];rfl
     have m2:Hid (Ed names rs=0):=by show _=_;rw[a6.out,d9.out]
     have g3:Hid (Cv k (rs.map Bm)):=by
      have h2:=S0 d9.out ⟨(fun r hr=>by cases hr),List.Pairwise.nil⟩;have h3:Cv k (rs.map Bm):=by simpa using h2
      exact h3
     have u8:k+1<=4096:=by omega
     have p3:=hI (Hi.below HN.out a8.out rr);have m5:=hI (Eb.below HR.out a8.out rr);clear HE d7 a6;go_wp2_with(at_builtin;refine Rm rfl (.tmp 143) (.tmp 144) rfl wr.heap.size _ 0 [] rfl (World.ownsRow_made wr #[] 0 rr (by simp[maxLen]) rfl) An k cn names rfl (p3.out.below ((Below.refl _ wr).alloc rr _) rr) (by omega) (by simp) ?ha)
     case ha=>
      intro v1 w1 b8 o0;have i3:Below wr.heap.size wr w1:=E3 (B:=wr.heap.size) bel (World.ownsRow_made (e:=9) (size:=1) wr #[] 0 rr (by simp[maxLen]) rfl) o0 rr (by simp);have t8:k+1<=4096:=by omega
      obtain⟨A1,c1,m9⟩:=Bh b8
      (try rw[Nat.zero_add]at m9)
      subst m9;have d4:=hI (a8.out.trans (i3.mono a8.out.size));have o1:=hI (Eb.below m5.out i3 rr);clear b8 o0 i3 p3 m5 a8;go_wp2_with(at_builtin;refine Pc rfl (.tmp 146) (.tmp 147) rfl w1.heap.size _ 0 [] rfl (World.ownsRow_made w1 #[] 0 rr (by simp[maxLen]) rfl) Ar j cr rs rfl (Eb.below o1.out ((Below.refl _ w1).alloc rr _) rr) (by omega) (by simp) ?hb)
      case hb=>
       intro v2 w2 a9 p7;have o2:Below w1.heap.size w1 w2:=E3 (B:=w1.heap.size) bel (World.ownsRow_made (e:=64) (size:=3) w1 #[] 0 rr (by simp[maxLen]) rfl) p7 rr (by simp);have a3:=hI (d4.out.trans (o2.mono d4.out.size));obtain⟨A2,c2,o6⟩:=Bh a9
       (try rw[Nat.zero_add]at o6)
       subst o6;clear a9 p7 o2 o1 d4;obtain⟨rN,i8⟩:∃rN,rN=rs.map Bm:=⟨_,rfl⟩;have i6:=hI i8;rw[←i8]at g3;clear i8
       have i5:Hid (D8 w2.heap.size w2.heap.size k (.slice A1 k c1) (.slice A2 j c2) (.slice none 0 0) 0 (fun _=>0) (D0 (rN.take 0)) (w2.alloc (.cells #[.bool true, .slice A1 k c1, .slice A2 j c2, .slice none 0 0] 175))):=
        ⟨Am rfl,World.ownsRow_nil _ _ _ _,rr,(fun i hi=>by omega),(fun i j hi=>by omega),by simp⟩
       have o7:Hid (Below w.heap.size w (w2.alloc (.cells #[.bool true, .slice A1 k c1, .slice A2 j c2, .slice none 0 0] 175))):=a3.out.alloc a3.out.size _;have f1:w.heap.size<=w2.heap.size:=a3.out.size;obtain⟨M,hM⟩:∃M,M=w2.heap.size:=⟨_,rfl⟩;rw[←hM]at i5 f1;go_wp2_with fail;rw[←hM];generalize w2.alloc (.cells #[.bool true, .slice A1 k c1, .slice A2 j c2, .slice none 0 0] 175)=w3 at*;clear hM a3
       go_loopw [13,14,15] (fun s13 _ _ wr=>∃(N:Nat) (v3:Value) (rb:Nat->Nat),N<=k/\s13= .int .i64 (N:Int)/\Hid (D8 M M k (.slice A1 k c1) (.slice A2 j c2) v3 N rb (D0 (rN.take 0)) wr)/\Hid (Below w.heap.size w wr)) (fun s13 _ _ _=>k-(intOf s13).toNat)
       case atStart=>exact⟨0,_,_,Nat.zero_le _,rfl,i5.out,o7.out⟩
       case round=>as_aux_lemma=>
        obtain⟨N,v3,rb,hN,rfl,HD,HB⟩:=hrel;clear i5 o7;by_cases hNk:N<k
        ·have q4:(N:Int)<(k:Int):=by omega
         have j4:=fun w=>run_make_row' (P:=Tryz.prog) 42 2 (.int .i64 0) 8 Tryz.underlying42 S6 rfl .i64 .i64 k (by omega) (by omega) w
         have u6:k<=maxLen:=by unfold maxLen;omega
         go_wp2_with fail;clear j4;rw[Mt];have hz:Below wr.heap.size wr (wr.alloc (.cells (Ek k fun _=>0) 2)):=(Below.refl _ wr).alloc rr _;have j8:Hid ((wr.alloc (.cells (Ek k fun _=>0) 2)).heap[wr.heap.size]? =some (.cells (Ek k fun _=>0) 2 (0,0))):=Am rfl;have f2:=hI (HD.out.below hz);have a3:=hI (HB.out.trans (hz.mono HB.out.size));obtain⟨lo1,lo2,lo3⟩:=HD.out.lows;have m4:=HD.out.sz;have m3:w.heap.size<=wr.heap.size:=HB.out.size;have o3:=hI lo2;have d2:=hI lo3;obtain⟨g,hg⟩:∃g,g=wr.heap.size:=⟨_,rfl⟩;rw[←hg]at j8 lo1 o3 d2 m4 m3 ⊢;generalize wr.alloc (.cells (Ek k fun _=>0) 2)=w4 at*;clear hg hz lo2 lo3 HD HB
         go_loopw [15] (fun s15 wr=>∃m:Nat,m<=k/\s15= .int .i64 (m:Int)/\Hid (wr.heap[g]? =some (.cells (Ek k fun v=>if v<m then Bn (D0 (rN.take 0) N v)else 0) 2 (0,0)))/\Hid (D8 M M k (.slice A1 k c1) (.slice A2 j c2) v3 N rb (D0 (rN.take 0)) wr)/\Hid (Below w.heap.size w wr)) (fun s15 _=>k-(intOf s15).toNat)
         case atStart=>exact⟨0,Nat.zero_le _,rfl,by show _=_;simpa using j8.out,f2.out,a3.out⟩
         case round=>as_aux_lemma=>
          obtain⟨m,hm,rfl,HG,HD,HB⟩:=hrel;clear j8 f2 a3;by_cases j4:m<k
          ·have t2:(m:Int)<(k:Int):=by omega
           have cg:=Hk HG.out j4;have fg:wr.frozen? ⟨g,m,none⟩=false:=by simp[World.frozen?,HG.out]
           by_cases hmN:m=N
           ·subst hmN;have q1:((m:Int) !=(m:Int))=false:=by simp
            have j0:(m !=m)=false:=by simp
            have g5:Hid (wr.heap[g]? =some (.cells (Ek k fun v=>if v<m+1 then Bn (D0 (rN.take 0) m v)else 0) 2 (0,0))):=by
             show _=_
             rw[HG.out,show(fun v=>if v<m+1 then Bn (D0 (rN.take 0) m v)else 0)=fun v=>if v<m then Bn (D0 (rN.take 0) m v)else 0 from funext fun v=>by
              by_cases e:v<m
              ·rw[if_pos e,if_pos (by omega)]
              ·by_cases e2:v=m
               ·subst e2;rw[if_pos (by omega),if_neg e,Ac3];rfl
               ·rw[if_neg (by omega),if_neg e]]
            go_wp2_with fail
            go_roundw
            case rel=>first|exact⟨m+1,by omega,by go_num,g5.out,HD.out,HB.out⟩|((repeat apply Exists.intro);exact⟨⟨m+1,by omega,by go_num,g5.out,HD.out,HB.out⟩,rfl⟩)
            case measure=>simp[intOf];omega
           ·have q1:((m:Int) !=(N:Int))=true:=by simp;omega
            have j0:(m !=N)=true:=by simp;omega
            have g5:Hid ((wr.setCell ⟨g,m,none⟩ (.int .i64 (-1))).heap[g]? =some (.cells (Ek k fun v=>if v<m+1 then Bn (D0 (rN.take 0) N v)else 0) 2 (0,0))):=by
             show _=_
             rw[Be HG.out,Mf (g:=fun v=>if v<m+1 then Bn (D0 (rN.take 0) N v)else 0) (by
              rw[if_pos (by omega),List.take_zero];unfold D0;rw[if_neg (fun e=>hmN e.symm)];rfl) fun v _ hv=>by
              by_cases e:v<m
              ·rw[if_pos e,if_pos (by omega)]
              ·rw[if_neg (by omega),if_neg e]]
            have m7:=hI (HD.out.beside lo1 o3.out d2.out m (.int .i64 (-1)));have k9:=hI (HB.out.setCell (p:=⟨g,m,none⟩) m3 (.int .i64 (-1)));go_wp2_with fail
            go_roundw
            case rel=>first|exact⟨m+1,by omega,by go_num,g5.out,m7.out,k9.out⟩|((repeat apply Exists.intro);exact⟨⟨m+1,by omega,by go_num,g5.out,m7.out,k9.out⟩,rfl⟩)
            case measure=>simp[intOf];omega
          ·obtain rfl:m=k:=by omega
           have k0:Hid (wr.heap[g]? =some (.cells (Ek m fun v=>Bn (D0 (rN.take 0) N v)) 2 (0,0))):=by
            show _=_;rw[HG.out];congr 2;unfold Ek;congr 1
            exact List.map_congr_left fun v hv=>by
             show Value.int .i64 (if v<m then Bn (D0 (rN.take 0) N v)else 0)=Value.int .i64 (Bn (D0 (rN.take 0) N v));rw[if_pos (List.mem_range.1 hv)]
           obtain⟨A3,c3,g4⟩:=Bh HD.out.own;subst g4;have cb:=HD.out.c3;have hz:Below wr.heap.size wr (wr.alloc (.cells #[.slice (some ⟨g,0,none⟩) m m] 42)):=(Below.refl _ wr).alloc rr _;have a7:=hI (HD.out.below hz);have m0:=hI ((hz.block g (lt_of_block k0.out)).trans k0.out);have k5:=hI (HB.out.trans (hz.mono HB.out.size));have k1:=a7.out.sz;have s8:w.heap.size<=M:=f1;clear hz HG k0 HD HB;go_wp2_with(at_builtin;refine Abr rfl (.tmp 173) (.tmp 175) rfl M (.slice A3 N c3) N ((List.range N).map fun i=> .slice (some ⟨rb i,0,none⟩) m m) rfl a7.out.own ⟨wr.heap.size,0,none⟩ 1 (.slice (some ⟨g,0,none⟩) m m) rfl (cell_one_new _ _ _) rfl (by omega) k1 ?hc)
           case hc=>
            intro v' w6 d6 hg _;obtain⟨A9,c9,t3⟩:=Bh d6;subst t3;have o8:w6.heap[M]? =(wr.alloc (.cells #[.slice (some ⟨g,0,none⟩) m m] 42)).heap[M]? :=hg.block M (lt_of_block a7.out.blk) (fun e=>Xf a7.out.own a7.out.blk (by decide) e.symm);have k7:=o8.trans a7.out.blk;have c6:w6.cell? ⟨M,3,none⟩=some (.slice A3 N c3):=Ad k7 rfl;have f6:w6.frozen? ⟨M,3,none⟩=false:=by simp[World.frozen?,k7]
            have m6:=hI (a7.out.push m0.out m4 (fun i hi e=>by have:=d2.out i hi;omega) d6 hg);have a4:Hid (Below w.heap.size w (w6.setCell ⟨M,3,none⟩ (.slice A9 (N+1) c9))):=(k5.out.grown hg k5.out.size (fun q e=>by have:=(a7.out.own.lt q e).1;omega)).setCell (p:=⟨M,3,none⟩) s8 (.slice A9 (N+1) c9);clear d6 hg o8 k7 a7 m0 k5 cb;go_wp2_with fail
            go_roundw
            case rel=>first|exact⟨N+1,_,_,by omega,by go_num,m6.out,a4.out⟩|((repeat apply Exists.intro);exact⟨⟨N+1,_,_,by omega,by go_num,m6.out,a4.out⟩,rfl⟩)
            case measure=>simp[intOf];omega
        ·obtain rfl:N=k:=by omega
         have p6:rN.length=j:=by rw[i6.out,List.length_map];exact d1.out
         have q8:=hI p6;clear p6;go_wp2_with fail
         go_loopw [16] (fun s16 wr=>∃q:Nat,q<=j/\s16= .int .i64 (q:Int)/\Hid (D8 M M N (.slice A1 N c1) (.slice A2 j c2) v3 N rb (D0 (rN.take q)) wr)/\Hid (Below w.heap.size w wr)) (fun s16 _=>j-(intOf s16).toNat)
         case atStart=>exact⟨0,Nat.zero_le _,rfl,HD.out,HB.out⟩
         case round=>as_aux_lemma=>
          obtain⟨q,hq,rfl,HD,HB⟩:=hrel;by_cases hqj:q<j
          ·have t0:(q:Int)<(j:Int):=by omega
           obtain⟨x,hx⟩:∃x,rs[q]? =some x:=⟨rs[q]'(by rw[d1.out];exact hqj),List.getElem?_eq_getElem _⟩;have j5:rN[q]? =some (Bm x):=by rw[i6.out,List.getElem?_map,hx];rfl
           have j1:=g3.out.lt _ (List.mem_of_getElem? j5);have o4:=Vq d9.out x (List.mem_of_getElem? hx);obtain⟨gb,go,hA,k8,g0,g1,g2⟩:=D7.at_ (Eb.below HR.out HB.out rr) hx;obtain⟨ra,rb',rl⟩:=x;simp only at g0 g1 g2 o4;obtain⟨a,rfl⟩:∃a:Nat,ra=a:=⟨ra.toNat,by omega⟩;obtain⟨b,rfl⟩:∃b:Nat,rb'=b:=⟨rb'.toNat,by omega⟩;obtain⟨l,rfl⟩:∃l:Nat,rl=l:=⟨rl.toNat,by omega⟩;simp only[Bm,Int.toNat_natCast]at j1;have s0:Hid (rN[q]? =some (a,b,l)):=j5
           have k6:gb<w.heap.size:=by
            obtain⟨gb',go',a5,s2, -⟩:=D7.at_ HR.out hx;rw[hA]at a5;injection a5 with a5
            injection a5 with a5 _ _
            omega
           have j3:Hid (∀W,Below w.heap.size w W->W.cell? ⟨gb,go+q*3,none⟩=some (.int .i64 (a:Int))/\W.cell? ⟨gb,go+q*3+1,none⟩=some (.int .i64 (b:Int))/\W.cell? ⟨gb,go+q*3+2,none⟩=some (.int .i64 (l:Int))):=fun W hb=>by
            obtain⟨gb',go',a5, -,y0,y1,y2⟩:=D7.at_ (Eb.below HR.out hb rr) hx;rw[hA]at a5;simp only[Option.some.injEq,Addr.mk.injEq,and_true]at a5;obtain⟨rfl,rfl⟩:=a5;exact⟨y0,y1,y2⟩
           have g7:=j1.1;have i1:=j1.2.1;have r8:(a:Int)<(N:Int):=by omega
           have r6:(b:Int)<(N:Int):=by omega
           obtain⟨q3,cap3,g4, -, -,i7⟩:=HD.out.rowAt g7;subst g4 hA;clear hx j5 o4 g0 g1 g2 k8 k6
           have d5:Hid (∀D W,D8 M M N (.slice A1 N c1) (.slice A2 j c2) (.slice (some ⟨q3,0,none⟩) N cap3) N rb D W→∀i u,i<N->u<N->W.cell? ⟨M,3,none⟩=some (.slice (some ⟨q3,0,none⟩) N cap3)/\W.cell? ⟨q3,i,none⟩=some (.slice (some ⟨rb i,0,none⟩) N N)/\W.cell? ⟨rb i,u,none⟩=some (.int .i64 (Bn (D i u)))/\W.frozen? ⟨rb i,u,none⟩=false):=fun D W h i u hi hu=>by
            obtain⟨q3',cap3',e,r1, -, -⟩:=h.rowAt hi;injection e with e _ _
            injection e with e
            injection e with e _ _
            subst e;exact⟨h.c3,r1,h.cell hi hu,h.free hi u⟩
           have hS:=And.intro (d5.out _ _ HD.out a b g7 i1) (j3.out _ HB.out);go_wp2_with fail;refine Bg (fun W'=>(W'.cell? ⟨M,3,none⟩=some (.slice (some ⟨q3,0,none⟩) N cap3)/\W'.cell? ⟨q3,a,none⟩=some (.slice (some ⟨rb a,0,none⟩) N N)/\W'.cell? ⟨rb a,b,none⟩=some (.int .i64 (Bn (D0 (rN.take q) a b)))/\W'.frozen? ⟨rb a,b,none⟩=false)/\W'.cell? ⟨gb,go+q*3,none⟩=some (.int .i64 (a:Int))/\W'.cell? ⟨gb,go+q*3+1,none⟩=some (.int .i64 (b:Int))/\W'.cell? ⟨gb,go+q*3+2,none⟩=some (.int .i64 (l:Int))) (by kernel_rfl) hS (fun hHeld=> ?_)
           (refine' Ae 0 rfl ?_;(try simp only[Act.put,nY,nX]));(refine' Ae 1 rfl ?_;(try simp only[Act.put,nY,nX]));(refine' Ae 2 rfl ?_;(try simp only[Act.put,nY,nX]));(refine' Ae 3 rfl ?_;(try simp only[Act.put,nY,nX]));(refine' Ae 4 rfl ?_;(try simp only[Act.put,nY,nX]));(refine' Ae 5 rfl ?_;(try simp only[Act.put,nY,nX]));(refine' Ae 6 rfl ?_;(try simp only[Act.put,nY,nX]));(refine' Ae 7 rfl ?_;(try simp only[Act.put,nY,nX]));(refine' Ae 8 rfl ?_;(try simp only[Act.put,nY,nX]));(refine' Ae 9 rfl ?_;(try simp only[Act.put,nY,nX]));(refine' Ae 10 rfl ?_;(try simp only[Act.put,nY,nX]));(refine' Ae 11 rfl ?_;(try simp only[Act.put,nY,nX]));(refine' Ae 12 rfl ?_;(try simp only[Act.put,nY,nX]));(refine' Ae 13 rfl ?_;(try simp only[Act.put,nY,nX]));(refine' Ae 14 rfl ?_;(try simp only[Act.put,nY,nX]));(refine' Ae 15 rfl ?_;(try simp only[Act.put,nY,nX]));(refine' Ae 16 rfl ?_;(try simp only[Act.put,nY,nX]));(refine' Ae 17 rfl ?_;(try simp only[Act.put,nY,nX]));(refine' Ae 18 rfl ?_;(try simp only[Act.put,nY,nX]));(refine' Ae 19 rfl ?_;(try simp only[Act.put,nY,nX]));(refine' Ae 20 rfl ?_;(try simp only[Act.put,nY,nX]))
           (refine' Ae 21 rfl ?_;(try simp only[Act.put,nY,nX]))
           obtain⟨⟨_,_,ct,ff⟩,_⟩:=hS;clear hHeld
           (refine Anv 22 rfl (fun K' hK'=> ?_);simp only[nY];go_simp)
           have i0:Hid (D8 M M N (.slice A1 N c1) (.slice A2 j c2) (.slice (some ⟨q3,0,none⟩) N cap3) N rb (L2 (D0 (rN.take q)) a b (some l)) (wr.setCell ⟨rb a,b,none⟩ (.int .i64 (l:Int))).drew):=(HD.out.set (j:=b) g7 (some l)).below (Below.refl _ _).drew;have d4:Hid (Below w.heap.size w (wr.setCell ⟨rb a,b,none⟩ (.int .i64 (l:Int))).drew):=(HB.out.setCell (p:=⟨rb a,b,none⟩) (Nat.le_trans f1 (HD.out.row a g7).2) _).drew;refine hK' _ _ ⟨.inl (by kernel_rfl),fun _=>Bf (by kernel_rfl) ?_ _⟩
           clear hK' K' ct ff HD HB;generalize(wr.setCell ⟨rb a,b,none⟩ (.int .i64 (l:Int))).drew=W1 at*;have p1:=And.intro (d5.out _ _ i0.out b a i1 g7) (j3.out _ d4.out);go_wp2_with fail;refine Bg (fun W'=>(W'.cell? ⟨M,3,none⟩=some (.slice (some ⟨q3,0,none⟩) N cap3)/\W'.cell? ⟨q3,b,none⟩=some (.slice (some ⟨rb b,0,none⟩) N N)/\W'.cell? ⟨rb b,a,none⟩=some (.int .i64 (Bn (L2 (D0 (rN.take q)) a b (some l) b a)))/\W'.frozen? ⟨rb b,a,none⟩=false)/\W'.cell? ⟨gb,go+q*3,none⟩=some (.int .i64 (a:Int))/\W'.cell? ⟨gb,go+q*3+1,none⟩=some (.int .i64 (b:Int))/\W'.cell? ⟨gb,go+q*3+2,none⟩=some (.int .i64 (l:Int))) (by kernel_rfl) p1 (fun hHeld=> ?_)
           (refine' Ae 0 rfl ?_;(try simp only[Act.put,nY,nX]));(refine' Ae 1 rfl ?_;(try simp only[Act.put,nY,nX]));(refine' Ae 2 rfl ?_;(try simp only[Act.put,nY,nX]));(refine' Ae 3 rfl ?_;(try simp only[Act.put,nY,nX]));(refine' Ae 4 rfl ?_;(try simp only[Act.put,nY,nX]));(refine' Ae 5 rfl ?_;(try simp only[Act.put,nY,nX]));(refine' Ae 6 rfl ?_;(try simp only[Act.put,nY,nX]));(refine' Ae 7 rfl ?_;(try simp only[Act.put,nY,nX]));(refine' Ae 8 rfl ?_;(try simp only[Act.put,nY,nX]));(refine' Ae 9 rfl ?_;(try simp only[Act.put,nY,nX]));(refine' Ae 10 rfl ?_;(try simp only[Act.put,nY,nX]));(refine' Ae 11 rfl ?_;(try simp only[Act.put,nY,nX]));(refine' Ae 12 rfl ?_;(try simp only[Act.put,nY,nX]));(refine' Ae 13 rfl ?_;(try simp only[Act.put,nY,nX]));(refine' Ae 14 rfl ?_;(try simp only[Act.put,nY,nX]));(refine' Ae 15 rfl ?_;(try simp only[Act.put,nY,nX]));(refine' Ae 16 rfl ?_;(try simp only[Act.put,nY,nX]));(refine' Ae 17 rfl ?_;(try simp only[Act.put,nY,nX]));(refine' Ae 18 rfl ?_;(try simp only[Act.put,nY,nX]));(refine' Ae 19 rfl ?_;(try simp only[Act.put,nY,nX]));(refine' Ae 20 rfl ?_;(try simp only[Act.put,nY,nX]))
           (refine' Ae 21 rfl ?_;(try simp only[Act.put,nY,nX]))
           obtain⟨⟨_,_,ct,ff⟩,_⟩:=p1;clear hHeld
           (refine Anv 22 rfl (fun K' hK'=> ?_);simp only[nY];go_simp)
           have f2:Hid (D8 M M N (.slice A1 N c1) (.slice A2 j c2) (.slice (some ⟨q3,0,none⟩) N cap3) N rb (L2 (L2 (D0 (rN.take q)) a b (some l)) b a (some l)) (W1.setCell ⟨rb b,a,none⟩ (.int .i64 (l:Int))).drew):=(i0.out.set (j:=a) i1 (some l)).below (Below.refl _ _).drew;have a3:Hid (Below w.heap.size w (W1.setCell ⟨rb b,a,none⟩ (.int .i64 (l:Int))).drew):=(d4.out.setCell (p:=⟨rb b,a,none⟩) (Nat.le_trans f1 (i0.out.row b i1).2) _).drew;refine hK' _ _ ⟨.inl (by kernel_rfl),fun _=>Bf (by kernel_rfl) ?_ _⟩
           clear hK' K' ct ff i0 d4;generalize(W1.setCell ⟨rb b,a,none⟩ (.int .i64 (l:Int))).drew=W2 at*;have m8:Hid (D8 M M N (.slice A1 N c1) (.slice A2 j c2) (.slice (some ⟨q3,0,none⟩) N cap3) N rb (D0 (rN.take (q+1))) W2):=f2.out.eq fun x y _ _=>Aeb g3.out s0.out x y
           clear d5 j3 f2;go_wp2_with fail
           go_roundw
           case rel=>first|exact⟨q+1,by omega,by go_num,m8.out,a3.out⟩|((repeat apply Exists.intro);exact⟨⟨q+1,by omega,by go_num,m8.out,a3.out⟩,rfl⟩)
           case measure=>simp[intOf];omega
          ·obtain rfl:q=j:=by omega
           have o5:Hid (D8 M M N (.slice A1 N c1) (.slice A2 q c2) v3 N rb (Ea (D0 rN) 0) wr):=by
            show D8 _ _ _ _ _ _ _ _ _ _
            have:=HD.out
            rwa[List.take_of_length_le (by rw[q8.out];exact rr)]at this
           clear HD;go_wp2_with fail
           go_loopw [17,18,19,20] (fun s17 _ _ _ wr=>∃kk:Nat,kk<=N/\s17= .int .i64 (kk:Int)/\Hid (D8 M M N (.slice A1 N c1) (.slice A2 q c2) v3 N rb (Ea (D0 rN) kk) wr)/\Hid (Below w.heap.size w wr)) (fun s17 _ _ _ _=>N-(intOf s17).toNat)
           case atStart=>exact⟨0,Nat.zero_le _,rfl,o5.out,HB.out⟩
           case round=>as_aux_lemma=>
            obtain⟨kk,u1,rfl,HD,HB⟩:=hrel;clear o5;by_cases hkN:kk<N
            ·have r7:(kk:Int)<(N:Int):=by omega
             obtain⟨Dk,f7⟩:∃Dk,Dk=Ea (D0 rN) kk:=⟨_,rfl⟩;have m1:Hid (Dk kk kk=some 0):=by show _=_;rw[f7];exact Acu (Ac3 rN) kk kk
             have p5:Hid (∀i j d,Dk i j=some d->d<=4398046511104):=by rw[f7];exact Amd g3.out (by omega)
             have r3:Hid (Ea (D0 rN) (kk+1)=Ev kk Dk):=by show _=_;rw[f7];rfl
             have k2:Hid (D8 M M N (.slice A1 N c1) (.slice A2 q c2) v3 N rb (Gw kk Dk 0 0) wr):=HD.out.eq fun i j _ _=>by rw[Agc,f7]
             clear f7 HD;obtain⟨q3,cap3,g4, -,u5,i7⟩:=k2.out.rowAt hkN;subst g4
             have d5:Hid (∀D W,D8 M M N (.slice A1 N c1) (.slice A2 q c2) (.slice (some ⟨q3,0,none⟩) N cap3) N rb D W→∀i u,i<N->u<N->W.cell? ⟨M,3,none⟩=some (.slice (some ⟨q3,0,none⟩) N cap3)/\W.cell? ⟨q3,i,none⟩=some (.slice (some ⟨rb i,0,none⟩) N N)/\W.cell? ⟨rb i,u,none⟩=some (.int .i64 (Bn (D i u)))/\W.frozen? ⟨rb i,u,none⟩=false):=fun D W h i u hi hu=>by
              obtain⟨q3',cap3',e,r1, -, -⟩:=h.rowAt hi;injection e with e _ _
              injection e with e
              injection e with e _ _
              subst e;exact⟨h.c3,r1,h.cell hi hu,h.free hi u⟩
             go_wp2_with fail
             go_loopw [18,19,20] (fun s18 _ _ wr=>∃i:Nat,i<=N/\s18= .int .i64 (i:Int)/\Hid (D8 M M N (.slice A1 N c1) (.slice A2 q c2) (.slice (some ⟨q3,0,none⟩) N cap3) N rb (Gw kk Dk i 0) wr)/\Hid (Below w.heap.size w wr)) (fun s18 _ _ _=>N-(intOf s18).toNat)
             case atStart=>exact⟨0,Nat.zero_le _,rfl,k2.out,HB.out⟩
             case round=>as_aux_lemma=>
              obtain⟨i,hi,rfl,HD,HB⟩:=hrel;clear k2;by_cases hiN:i<N
              ·have r5:(i:Int)<(N:Int):=by omega
               go_wp2_with fail
               go_loopw [19,20] (fun s19 _ wr=>∃u:Nat,u<=N/\s19= .int .i64 (u:Int)/\Hid (D8 M M N (.slice A1 N c1) (.slice A2 q c2) (.slice (some ⟨q3,0,none⟩) N cap3) N rb (Gw kk Dk i u) wr)/\Hid (Below w.heap.size w wr)) (fun s19 _ _=>N-(intOf s19).toNat)
               case atStart=>exact⟨0,Nat.zero_le _,rfl,HD.out,HB.out⟩
               case round=>as_aux_lemma=>
                obtain⟨u,hu,rfl,HD,HB⟩:=hrel;by_cases huN:u<N
                ·have q7:(u:Int)<(N:Int):=by omega
                 obtain⟨c3,ri,ck, -⟩:=d5.out _ _ HD.out i kk hiN hkN;obtain⟨-,rk,cj, -⟩:=d5.out _ _ HD.out kk u hkN huN;obtain⟨-, -,ch,fh⟩:=d5.out _ _ HD.out i u hiN huN;rw[Aj1 m1.out]at ck;rw[Agd m1.out]at cj;rw[Yl]at ch;obtain⟨ox,k4⟩:∃ox,ox=Dk i kk:=⟨_,rfl⟩;obtain⟨oy,j6⟩:∃oy,oy=Dk kk u:=⟨_,rfl⟩;obtain⟨oz,i9⟩:∃oz,oz=Dk i u:=⟨_,rfl⟩;rw[←k4]at ck;rw[←j6]at cj;rw[←i9]at ch;have f9:=hI k4.symm;have f5:=hI j6.symm;have g9:=hI i9.symm;clear k4 j6 i9
                 cases ox with
                 |none=>
                  simp only[Bn]at ck;have a2:Hid (D8 M M N (.slice A1 N c1) (.slice A2 q c2) (.slice (some ⟨q3,0,none⟩) N cap3) N rb (Gw kk Dk i (u+1)) wr):=HD.out.eq fun x y _ _=>Tg (Mq (.inl f9.out)) x y
                  have a0:=hI (HB.out);go_wp2_with fail
                  go_roundw
                  case rel=>first|exact⟨u+1,by omega,by go_num,a2.out,a0.out⟩|((repeat apply Exists.intro);exact⟨⟨u+1,by omega,by go_num,a2.out,a0.out⟩,rfl⟩)
                  case measure=>simp[intOf];omega
                 |some x=>
                  simp only[Bn]at ck;have u4:¬(x:Int)<0:=by omega
                  have v4:=p5.out _ _ _ f9.out
                  cases oy with
                  |none=>
                   simp only[Bn]at cj;have a2:Hid (D8 M M N (.slice A1 N c1) (.slice A2 q c2) (.slice (some ⟨q3,0,none⟩) N cap3) N rb (Gw kk Dk i (u+1)) wr):=HD.out.eq fun x y _ _=>Tg (Mq (.inr f5.out)) x y
                   have a0:=hI (HB.out);go_wp2_with fail
                   go_roundw
                   case rel=>first|exact⟨u+1,by omega,by go_num,a2.out,a0.out⟩|((repeat apply Exists.intro);exact⟨⟨u+1,by omega,by go_num,a2.out,a0.out⟩,rfl⟩)
                   case measure=>simp[intOf];omega
                  |some y=>
                   simp only[Bn]at cj;have v6:¬(y:Int)<0:=by omega
                   have i2:=p5.out _ _ _ f5.out
                   cases oz with
                   |none=>
                    simp only[Bn]at ch;go_wp2_with fail
                    go_quiet (fail)
                    have a2:Hid (D8 M M N (.slice A1 N c1) (.slice A2 q c2) (.slice (some ⟨q3,0,none⟩) N cap3) N rb (Gw kk Dk i (u+1)) ((wr.drewN nq).setCell ⟨rb i,u,none⟩ (.int .i64 ((x:Int)+(y:Int))))):=by
                     have h1:=((HD.out.below ((Below.refl _ wr).drewN nq)).set (j:=u) hiN (some (x+y))).eq fun a b _ _=>Zq (Yn f9.out f5.out g9.out) a b
                     have e:Bn (some (x+y))=(x:Int)+(y:Int):=by simp[Bn]
                     rw[e]at h1;exact h1
                    have a0:Hid (Below w.heap.size w ((wr.drewN nq).setCell ⟨rb i,u,none⟩ (.int .i64 ((x:Int)+(y:Int))))):=(HB.out.drewN nq).setCell (p:=⟨rb i,u,none⟩) (Nat.le_trans f1 (HD.out.row i hiN).2) _;go_wp2_with fail
                    go_roundw
                    case rel=>first|exact⟨u+1,by omega,by go_num,a2.out,a0.out⟩|((repeat apply Exists.intro);exact⟨⟨u+1,by omega,by go_num,a2.out,a0.out⟩,rfl⟩)
                    case measure=>simp[intOf];omega
                   |some z=>
                    simp only[Bn]at ch;have u7:¬(z:Int)<0:=by omega
                    by_cases hlz:x+y<z
                    ·have j7:(x:Int)+(y:Int)<(z:Int):=by omega
                     go_wp2_with fail
                     go_quiet (fail)
                     have a2:Hid (D8 M M N (.slice A1 N c1) (.slice A2 q c2) (.slice (some ⟨q3,0,none⟩) N cap3) N rb (Gw kk Dk i (u+1)) ((wr.drewN nq).setCell ⟨rb i,u,none⟩ (.int .i64 ((x:Int)+(y:Int))))):=by
                      have h1:=((HD.out.below ((Below.refl _ wr).drewN nq)).set (j:=u) hiN (some (x+y))).eq fun a b _ _=>Zq (Vb f9.out f5.out g9.out hlz) a b
                      have e:Bn (some (x+y))=(x:Int)+(y:Int):=by simp[Bn]
                      rw[e]at h1;exact h1
                     have a0:Hid (Below w.heap.size w ((wr.drewN nq).setCell ⟨rb i,u,none⟩ (.int .i64 ((x:Int)+(y:Int))))):=(HB.out.drewN nq).setCell (p:=⟨rb i,u,none⟩) (Nat.le_trans f1 (HD.out.row i hiN).2) _;go_wp2_with fail
                     go_roundw
                     case rel=>first|exact⟨u+1,by omega,by go_num,a2.out,a0.out⟩|((repeat apply Exists.intro);exact⟨⟨u+1,by omega,by go_num,a2.out,a0.out⟩,rfl⟩)
                     case measure=>simp[intOf];omega
                    ·have j7:¬(x:Int)+(y:Int)<(z:Int):=by omega
                     go_wp2_with fail
                     go_quiet (fail)
                     have a2:Hid (D8 M M N (.slice A1 N c1) (.slice A2 q c2) (.slice (some ⟨q3,0,none⟩) N cap3) N rb (Gw kk Dk i (u+1)) (wr.drewN nq)):=(HD.out.below ((Below.refl _ wr).drewN nq)).eq fun x y _ _=>Tg ((Vc f9.out f5.out g9.out hlz).trans g9.out.symm) x y
                     have a0:=hI (HB.out.drewN nq);go_wp2_with fail
                     go_roundw
                     case rel=>first|exact⟨u+1,by omega,by go_num,a2.out,a0.out⟩|((repeat apply Exists.intro);exact⟨⟨u+1,by omega,by go_num,a2.out,a0.out⟩,rfl⟩)
                     case measure=>simp[intOf];omega
                ·obtain rfl:u=N:=by omega
                 have a2:Hid (D8 M M u (.slice A1 u c1) (.slice A2 q c2) (.slice (some ⟨q3,0,none⟩) u cap3) u rb (Gw kk Dk (i+1) 0) wr):=HD.out.eq fun a b _ hb=>(Ajz hb).symm
                 go_wp2_with fail
                 go_roundw
                 case rel=>first|exact⟨i+1,by omega,by go_num,a2.out,HB.out⟩|((repeat apply Exists.intro);exact⟨⟨i+1,by omega,by go_num,a2.out,HB.out⟩,rfl⟩)
                 case measure=>simp[intOf];omega
              ·obtain rfl:i=N:=by omega
               have a2:Hid (D8 M M i (.slice A1 i c1) (.slice A2 q c2) (.slice (some ⟨q3,0,none⟩) i cap3) i rb (Ea (D0 rN) (kk+1)) wr):=HD.out.eq fun a b ha _=>by rw[Aj0 ha,r3.out]
               go_wp2_with fail
               go_roundw
               case rel=>first|exact⟨kk+1,by omega,by go_num,a2.out,HB.out⟩|((repeat apply Exists.intro);exact⟨⟨kk+1,by omega,by go_num,a2.out,HB.out⟩,rfl⟩)
               case measure=>simp[intOf];omega
            ·obtain rfl:kk=N:=by omega
             have j9:Hid (El wr M kk rN):=HD.out.map g3.out (by omega);go_wp2
             go_ret2
             refine⟨.pointer (some ⟨M,0,none⟩),by rw[m2.out];rfl, .inr ⟨M,rfl, ?_⟩,HB.out⟩;rw[if_pos m2.out,d3.out,←i6.out];exact j9.out
end Go.Proofs.YtaglfmlgbcmakaaGreatDoor
