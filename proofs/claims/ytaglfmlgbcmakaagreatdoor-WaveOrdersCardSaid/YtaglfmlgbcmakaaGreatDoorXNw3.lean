/-
  points.New: the map, as it is laid first.
-/
import Derived.Test.YtaglfmlgbcmakaaGreatDoorH05
set_option linter.all false
set_option maxRecDepth 100000
set_option maxHeartbeats 4000000
namespace Go.Proofs.YtaglfmlgbcmakaaGreatDoor
open Go.RowKit Go.Shelf Go.Maps Go.WideMaps
theorem Aa2:(Tryz.prog.info? 110).map (fun i=>(i.zero,i.size,i.bytes))=some (some (.slice none 0 0),1,24):=by kernel_rfl
structure Mk (B b mb q n:Nat)(An:Option Addr)(cn:Nat)(Ar:Option Addr)(cr:Nat)(rs:List D2)(W:World):Prop where
 lo:B<=b/\B<=mb/\B<=q
 blk:W.heap[b]? =some (.cells #[.slice An n cn, .map (some mb), .slice Ar rs.length cr, .slice (some ⟨q,0,none⟩) n n] 99 (0,0))
 rd:W.ownsRow B 64 3 (.slice Ar rs.length cr) rs.length (rs.flatMap Js)
 mp:W.ownsMap Tryz.prog 9 (plainElem (H:=Unit) Tryz.prog 3) mb 0 (.map [])
 nr:W.heap[q]? =some (.cells (Ji n fun _=> .slice none 0 0) 110 (0,0))
def Afz (B n:Nat)(N:Option Addr×Nat×List ByteArray)(R:Option Addr×Nat×List D2)(i:Nat)(v:Value)(W:World):Prop:=match i with
 |0=>v= .slice N.1 n N.2.1
 |1=>∃A c,v= .slice A n c
 |2=>∃mb,v= .map (some mb)/\B<=mb/\W.ownsMap Tryz.prog 9 (plainElem (H:=Unit) Tryz.prog 3) mb 0 (.map [])
 |3=>v= .slice R.1 R.2.2.length R.2.1
 |4=>∃A c,v= .slice A R.2.2.length c/\W.ownsRow B 64 3 (.slice A R.2.2.length c) R.2.2.length (R.2.2.flatMap Js)
 |5=>v= .int .i64 (n:Int)
 |6=>∃q,v= .slice (some ⟨q,0,none⟩) n n/\B<=q/\W.heap[q]? =some (.cells (Ji n fun _=> .slice none 0 0) 110 (0,0))
 |7=>∃An cn mb Ar cr q,v= .agg #[.slice An n cn, .map (some mb), .slice Ar R.2.2.length cr, .slice (some ⟨q,0,none⟩) n n]/\B<=mb/\W.ownsMap Tryz.prog 9 (plainElem (H:=Unit) Tryz.prog 3) mb 0 (.map [])/\W.ownsRow B 64 3 (.slice Ar R.2.2.length cr) R.2.2.length (R.2.2.flatMap Js)∧
   B<=q/\W.heap[q]? =some (.cells (Ji n fun _=> .slice none 0 0) 110 (0,0))
 |8=>∃b An cn mb Ar cr q,v= .pointer (some ⟨b,0,none⟩)/\Mk B b mb q n An cn Ar cr R.2.2 W
 |9=>∃b An cn mb Ar cr q,v= .pointer (some ⟨b,0,none⟩)/\Mk B b mb q n An cn Ar cr R.2.2 W
 |_=>True
theorem Ka {W W':World}{bm m:Nat}{D:DataW Unit}(h:W.ownsMap Tryz.prog 9 (plainElem (H:=Unit) Tryz.prog 3) bm m D)(hb:Below W.heap.size W W'):W'.ownsMap Tryz.prog 9 (plainElem (H:=Unit) Tryz.prog 3) bm m D:=by
 have hl:=h.lt;obtain⟨es,clock,h1,h2⟩:=h;exact⟨es,clock,(hb.block bm hl).trans h1,h2⟩
theorem Z3 {w w':World}{B:Nat}{e:TypeId}{sz n:Nat}{v:Value}{xs:List Value}(h:w.ownsRow B e sz v n xs)(hb:Below w.heap.size w w'):w'.ownsRow B e sz v n xs:=Bf h fun k e=>hb.block k (h.lt k e).2
theorem Mk.below {B b mb q n:Nat}{An:Option Addr}{cn:Nat}{Ar:Option Addr}{cr:Nat}{rs:List D2}{W W':World}(h:Mk B b mb q n An cn Ar cr rs W)(hb:Below W.heap.size W W'):Mk B b mb q n An cn Ar cr rs W':=
 ⟨h.lo,(hb.block b (lt_of_block h.blk)).trans h.blk,Z3 h.rd hb,Ka h.mp hb,(hb.block q (lt_of_block h.nr)).trans h.nr⟩
theorem Yw {B n:Nat}{N:Option Addr×Nat×List ByteArray}{R:Option Addr×Nat×List D2}{i:Nat}{v:Value}{w w':World}(h:Afz B n N R i v w)(hb:Below w.heap.size w w'):Afz B n N R i v w':=by
 unfold Afz at*;split at h
 ·exact h
 ·exact h
 ·obtain⟨mb,e,h1,h2⟩:=h;exact⟨mb,e,h1,Ka h2 hb⟩
 ·exact h
 ·obtain⟨A,c,e,h⟩:=h;exact⟨A,c,e,Z3 h hb⟩
 ·exact h
 ·obtain⟨q,e,h1,h2⟩:=h;exact⟨q,e,h1,(hb.block q (lt_of_block h2)).trans h2⟩
 ·obtain⟨An,cn,mb,Ar,cr,q,e,h1,h2,h3,h4,h5⟩:=h;exact⟨An,cn,mb,Ar,cr,q,e,h1,Ka h2 hb,Z3 h3 hb,h4,(hb.block q (lt_of_block h5)).trans h5⟩
 ·obtain⟨b,An,cn,mb,Ar,cr,q,e,h⟩:=h;exact⟨b,An,cn,mb,Ar,cr,q,e,h.below hb⟩
 ·obtain⟨b,An,cn,mb,Ar,cr,q,e,h⟩:=h;exact⟨b,An,cn,mb,Ar,cr,q,e,h.below hb⟩
 ·trivial
theorem Lh {ops:Array Oper}{s:Nat}(h:(ops.all fun o=>o.dst !=some s)=true):∀j,D5 ops j≠some s:=by
 intro j hj;unfold D5 at hj
 cases ho:ops[j]? with
 |none=>rw[ho]at hj;cases hj
 |some o=>
  rw[ho]at hj;have h1:=(Array.all_eq_true.1 h) j (Array.getElem?_eq_some_iff.1 ho).1;rw[(Array.getElem?_eq_some_iff.1 ho).2]at h1;have h2:o.dst=some s:=hj;simp[h2]at h1
theorem Adj {names:List ByteArray}{k:Nat}{s:ByteArray}(h:names[k]? =some s):E1 (names.take k) (names.drop k)=if Ec s=false then 15 else if(names.take k).any (fun x=>decide (x=s))then 6 else E1 (names.take (k+1)) (names.drop (k+1)):=by
 have hk:=(List.getElem?_eq_some_iff.1 h).1
 have e1:names.drop k=s::names.drop (k+1):=by
  rw[List.drop_eq_getElem_cons hk,(List.getElem?_eq_some_iff.1 h).2]
 have e2:names.take (k+1)=names.take k++[s]:=by rw[List.take_add_one,h];rfl
 rw[e1,e2];rfl
theorem Z4 (s:ByteArray)(hs:s.size<=24):keyOf Tryz.prog 9 (.string s)=some (Yt s):=by
 have h:=keyOf_string_mk (P:=Tryz.prog) (k:=9) (s:=s) Tryz.underlying9 (by unfold maxLen;omega);rw[h];rfl
def E2 (w:World)(names:List ByteArray)(rs:List D2)(e:Ending)(w':World):Prop:=
 ((F7 names rs≠0/\e= .returned (.tuple #[.pointer none, .int .i64 (F7 names rs)]))\/(F7 names rs=0∧∃b,e= .returned (.tuple #[.pointer (some ⟨b,0,none⟩), .int .i64 0])/\Cq w' b names.length (rs.map B1)))/\Below w.heap.size w w'
theorem E2.bad {w w':World}{names:List ByteArray}{rs:List D2}{er:Int}(h:F7 names rs=er)(h0:er≠0)(hb:Below w.heap.size w w'):E2 w names rs (.returned (.tuple #[.pointer none, .int .i64 er])) w':=by
 subst h;exact⟨.inl ⟨h0,rfl⟩,hb⟩
theorem Ag1 (An:Option Addr)(nn cn:Nat)(names:List ByteArray)(Ar:Option Addr)(nr cr:Nat)(rs:List D2)(w:World)(hn:Gk w An nn cn names)(hr:Dl w Ar nr cr rs):
  Calls Tryz.prog 15 #[.slice An nn cn, .slice Ar nr cr] w (E2 w names rs):=by
 have b5q:nn<=cn/\cn<=9223372036854775807:=by have h1:=hn.2.1;have h2:=hn.2.2.1;unfold maxLen at h2;omega
 have b6q:nr<=cr/\cr<=9223372036854775807:=by have h1:=hr.1.2.1;have h2:=hr.1.2.2.1;unfold maxLen at h2;omega
 have HN:=hI hn;have HR:=hI hr;have i5:Hid (names.length=nn):=hn.len;have f1:Hid (rs.length=nr):=hr.2;clear hn hr;go_enter Tryz.func15,Tryz.ntmps15;by_cases h1:nn>128
 ·have u2:(nn:Int)>128:=by omega
  have HV:Hid (F7 names rs=12):=by show _=_;unfold F7;rw[if_pos (.inl (by rw[i5.out];exact h1))]
  go_wp2
  go_ret2
  exact E2.bad HV.out (by decide) (Below.refl _ _)
 by_cases h2:nr>512
 ·have u2:¬(128:Int)<(nn:Int):=by omega
  have x7:(nr:Int)>512:=by omega
  have HV:Hid (F7 names rs=12):=by show _=_;unfold F7;rw[if_pos (.inr (by rw[f1.out];exact h2))]
  go_wp2
  go_ret2
  exact E2.bad HV.out (by decide) (Below.refl _ _)
 have u2:¬(128:Int)<(nn:Int):=by omega
 have x7:¬(512:Int)<(nr:Int):=by omega
 have HV:Hid (F7 names rs=if E1 [] names≠0 then E1 [] names else Ez names.length [] rs):=by show _=_;unfold F7;rw[if_neg (by rw[i5.out,f1.out];omega)]
 go_wp2_with fail;refine Yc (by kernel_rfl) (by kernel_rfl) (Afz w.heap.size nn (An,cn,names) (Ar,cr,rs)) _ w (fun j v w w' h hb=>Yw h hb) ?hstep ?hrest
 case hstep=>
  intro i o ho a w' hs hb;have p5:i<10:=(Array.getElem?_eq_some_iff.1 ho).1;have hi:i=0\/i=1\/i=2\/i=3\/i=4\/i=5\/i=6\/i=7\/i=8\/i=9:=by omega
  clear p5;have m6:=hb.size;rcases hi with rfl|rfl|rfl|rfl|rfl|rfl|rfl|rfl|rfl|rfl
  ·simp only[List.getElem?_toArray,List.getElem?_cons_zero,List.getElem?_cons_succ,Option.some.injEq]at ho;have hq:=hs.2.1 0 (Lh (by kernel_rfl));have e1:a.eval (.tmp 0)= .slice An nn cn:=by simp[Act.eval,hq]
   subst ho;unfold Oper.wp;go_simp;exact⟨_,rfl,rfl,Below.refl _ _⟩
  ·simp only[List.getElem?_toArray,List.getElem?_cons_zero,List.getElem?_cons_succ,Option.some.injEq]at ho;obtain⟨v0,x3,p8⟩:=hs.1 0 (by rw[←ho];exact⟨_,Array.mem_of_getElem? (i:=0) rfl,rfl,rfl⟩);have y7:=p8 25 (by rfl) (by simp);obtain rfl:v0= .slice An nn cn:=x3;have e1:a.eval (.tmp 25)= .slice An nn cn:=by simp[Act.eval,y7]
   subst ho;unfold Oper.wp;go_simp;refine(Yu An nn cn names w' (HN.out.below hb rr) (by omega)).mono ?_;rintro e w2 ⟨v,rfl,m2,f4⟩;obtain⟨A,c,rfl⟩:=Bh m2;exact⟨_,rfl,⟨_,_,rfl⟩,f4⟩
  ·simp only[List.getElem?_toArray,List.getElem?_cons_zero,List.getElem?_cons_succ,Option.some.injEq]at ho;subst ho;unfold Oper.wp;have b9q:= @run_makeMap Tryz.prog;go_simp;exact⟨_,rfl,⟨_,rfl,m6,World.ownsMap_made w' _ _ _⟩,bel⟩
  ·simp only[List.getElem?_toArray,List.getElem?_cons_zero,List.getElem?_cons_succ,Option.some.injEq]at ho;have hq:=hs.2.1 1 (Lh (by kernel_rfl));have e1:a.eval (.tmp 1)= .slice Ar nr cr:=by simp[Act.eval,hq]
   subst ho;unfold Oper.wp;go_simp;exact⟨_,rfl,by show Value.slice Ar nr cr= .slice Ar rs.length cr;rw[f1.out],Below.refl _ _⟩
  ·simp only[List.getElem?_toArray,List.getElem?_cons_zero,List.getElem?_cons_succ,Option.some.injEq]at ho;obtain⟨v3,x4,q3⟩:=hs.1 3 (by rw[←ho];exact⟨_,Array.mem_of_getElem? (i:=0) rfl,rfl,rfl⟩);have u7:=q3 28 (by rfl) (by simp);obtain rfl:v3= .slice Ar rs.length cr:=x4;have e1:a.eval (.tmp 28)= .slice Ar rs.length cr:=by simp[Act.eval,u7]
   have t5:=HR.out;rw[←f1.out]at t5;subst ho;unfold Oper.wp;go_simp;refine(Ny Ar rs.length cr rs w' (t5.below hb rr) (by rw[f1.out];omega)).mono ?_;rintro e w2 ⟨v,rfl,m2,f4⟩;obtain⟨A,c,rfl⟩:=Bh m2;exact⟨_,rfl,⟨A,c,rfl,X6 m2 m6⟩,f4⟩
  ·simp only[List.getElem?_toArray,List.getElem?_cons_zero,List.getElem?_cons_succ,Option.some.injEq]at ho;have hq:=hs.2.1 6 (Lh (by kernel_rfl));have e1:a.eval (.tmp 6)= .int .i64 (nn:Int):=by simp[Act.eval,hq]
   subst ho;unfold Oper.wp;go_simp;exact⟨_,rfl,rfl,Below.refl _ _⟩
  ·simp only[List.getElem?_toArray,List.getElem?_cons_zero,List.getElem?_cons_succ,Option.some.injEq]at ho;obtain⟨v5,o4,r6⟩:=hs.1 5 (by rw[←ho];exact⟨_,Array.mem_of_getElem? (i:=0) rfl,rfl,rfl⟩);have u9:=r6 30 (by rfl) (by simp);obtain rfl:v5= .int .i64 (nn:Int):=o4;have e1:a.eval (.tmp 30)= .int .i64 (nn:Int):=by simp[Act.eval,u9]
   have i4:=fun w=>run_make_row' (P:=Tryz.prog) 97 110 (.slice none 0 0) 24 Tryz.underlying97 Aa2 rfl .i64 .i64 nn (by omega) (by omega) w
   have q0:nn<=maxLen:=by unfold maxLen;omega
   subst ho;unfold Oper.wp;simp only[i4];go_simp;exact⟨_,rfl,⟨_,rfl,m6,by rw[Aaz];exact Aj rfl⟩,bel⟩
  ·simp only[List.getElem?_toArray,List.getElem?_cons_zero,List.getElem?_cons_succ,Option.some.injEq]at ho;obtain⟨v1,y1,o8⟩:=hs.1 1 (by rw[←ho];exact⟨_,Array.mem_of_getElem? (i:=0) rfl,rfl,rfl⟩);have a1q:=o8 26 (by rfl) (by simp);obtain⟨v2,a2q,p0⟩:=hs.1 2 (by rw[←ho];exact⟨_,Array.mem_of_getElem? (i:=1) rfl,rfl,rfl⟩);have x5:=p0 27 (by rfl) (by simp);obtain⟨v4,y5,p3⟩:=hs.1 4 (by rw[←ho];exact⟨_,Array.mem_of_getElem? (i:=2) rfl,rfl,rfl⟩);have a3q:=p3 29 (by rfl) (by simp);obtain⟨v6,a5q,r0⟩:=hs.1 6 (by rw[←ho];exact⟨_,Array.mem_of_getElem? (i:=3) rfl,rfl,rfl⟩);have y8:=r0 31 (by rfl) (by simp);obtain⟨A1,c1,rfl⟩:=y1;obtain⟨mb,rfl,o7,q6⟩:=a2q;obtain⟨A4,c4,rfl,q9⟩:=y5;obtain⟨q,rfl,q4,m7⟩:=a5q;have e1:a.eval (.tmp 26)= .slice A1 nn c1:=by simp[Act.eval,a1q]
   have e2:a.eval (.tmp 27)= .map (some mb):=by simp[Act.eval,x5]
   have e3:a.eval (.tmp 29)= .slice A4 rs.length c4:=by simp[Act.eval,a3q]
   have e4:a.eval (.tmp 31)= .slice (some ⟨q,0,none⟩) nn nn:=by simp[Act.eval,y8]
   subst ho;unfold Oper.wp;go_simp;exact⟨_,rfl,⟨_,_,_,_,_,_,rfl,o7,q6,q9,q4,m7⟩,Below.refl _ _⟩
  ·simp only[List.getElem?_toArray,List.getElem?_cons_zero,List.getElem?_cons_succ,Option.some.injEq]at ho;obtain⟨v7,a7q,r4⟩:=hs.1 7 (by rw[←ho];exact⟨_,Array.mem_of_getElem? (i:=0) rfl,rfl,rfl⟩);have v9:=r4 32 (by rfl) (by simp);obtain⟨A1,c1,mb,A4,c4,q,rfl,o7,q6,q9,q4,m7⟩:=a7q;have e1:a.eval (.tmp 32)= .agg #[.slice A1 nn c1, .map (some mb), .slice A4 rs.length c4, .slice (some ⟨q,0,none⟩) nn nn]:=by simp[Act.eval,v9]
   subst ho;unfold Oper.wp;go_simp;have hz:Below w'.heap.size w' (w'.alloc (.cells #[.slice A1 nn c1, .map (some mb), .slice A4 rs.length c4, .slice (some ⟨q,0,none⟩) nn nn] 99)):=(Below.refl _ w').alloc rr _;exact⟨_,rfl,⟨w'.heap.size,A1,c1,mb,A4,c4,q,rfl,⟨m6,o7,q4⟩,Aj rfl,Z3 q9 hz,Ka q6 hz,(hz.block q (lt_of_block m7)).trans m7⟩,hz⟩
  ·simp only[List.getElem?_toArray,List.getElem?_cons_zero,List.getElem?_cons_succ,Option.some.injEq]at ho;obtain⟨v8,x0,r7⟩:=hs.1 8 (by rw[←ho];exact⟨_,Array.mem_of_getElem? (i:=0) rfl,rfl,rfl⟩);have x2:=r7 33 (by rfl) (by simp);obtain⟨b,A1,c1,mb,A4,c4,q,rfl,i4⟩:=x0;have e1:a.eval (.tmp 33)= .pointer (some ⟨b,0,none⟩):=by simp[Act.eval,x2]
   subst ho;unfold Oper.wp;go_simp;exact⟨_,rfl,⟨b,A1,c1,mb,A4,c4,q,rfl,i4⟩,Below.refl _ _⟩
 case hrest=>
  intro vs W1 m0 t9;obtain⟨b,A1,c1,mb,A4,c4,q,e9,i4⟩:=m0 9 (by decide);simp only[Ex,D5,List.size_toArray,List.length_cons,List.length_nil,List.getElem?_toArray,List.getElem?_cons_zero,List.getElem?_cons_succ,Option.bind_some,Option.map_some,e9];have a1:Hid (Mk w.heap.size b mb q nn A1 c1 A4 c4 rs W1):=i4;have t7:=hI t9;clear i4 t9 m0 e9;generalize vs 0=z0,vs 1=z1,vs 2=z2,vs 3=z3,vs 4=z4,vs 5=z5,vs 6=z6,vs 7=z7,vs 8=z8;clear vs;go_simp;go_wp2_with fail;have u3:Hid (Lg (.map []) []):=Aay;have t3:=hI a1.out.mp
  go_loopw [36] (fun i wr=>∃(k:Nat) (D:DataW Unit),k<=nn/\i= .int .i64 (k:Int)/\Hid (wr.ownsMap Tryz.prog 9 (plainElem (H:=Unit) Tryz.prog 3) mb k D)/\Hid (Lg D (names.take k))/\Hid (E1 [] names=E1 (names.take k) (names.drop k))/\Hid (Ak (fun j=>j=mb) W1 wr)) (fun i _=>nn-(intOf i).toNat)
  case atStart=>exact⟨0, .map [],Nat.zero_le _,rfl,t3.out,u3.out,rfl,Ak.refl _ _⟩
  case round=>
   obtain⟨k,D,hk,rfl,HD,HS,HE,HK⟩:=hrel;clear t3 u3;have m1:Below w.heap.size w wr:=t7.out.trans (HK.out.to_below (fun j e=>by have:=a1.out.lo;omega) t7.out.size);have a8:=hI m1;clear m1;by_cases hlt:k<nn
   ·have d3q:(k:Int)<(nn:Int):=by omega
    obtain⟨s,hs⟩:∃s,names[k]? =some s:=⟨names[k]'(by rw[i5.out];exact hlt),List.getElem?_eq_getElem _⟩;obtain⟨ga,oa,hA,u6,i3⟩:=(HN.out.below a8.out rr).2.2.2.2 (by omega);subst hA;have d0q:=i3 k (.string s) (by rw[List.getElem?_map,hs];rfl);have b2:=hI (Adj hs);have x9:Hid (names.take (k+1)=names.take k++[s]):=by show _=_;rw[List.take_add_one,hs];rfl
    clear i3 hs;by_cases h0:s.toList=[]
    ·have hv:Hid (Ec s=false):=by show _=_;simp[Ec,h0]
     have a4:E1 [] names=15:=by rw[HE.out,b2.out,if_pos hv.out]
     have i0:Hid (F7 names rs=15):=by show _=_;rw[HV.out,a4];rfl
     clear a4;go_wp2
     go_ret2
     exact E2.bad i0.out (by decide) a8.out
    by_cases h24:s.size<=24
    case neg=>
     have r1:(s.size:Int)>24:=by omega
     have s7:s.toList.isEmpty=false:=by simpa using h0
     have hv:Hid (Ec s=false):=by show _=_;simp[Ec,h24]
     have a4:E1 [] names=15:=by rw[HE.out,b2.out,if_pos hv.out]
     have i0:Hid (F7 names rs=15):=by show _=_;rw[HV.out,a4];rfl
     clear a4;go_wp2
     go_ret2
     exact E2.bad i0.out (by decide) a8.out
    have r1:¬(24:Int)<(s.size:Int):=by omega
    have s7:s.toList.isEmpty=false:=by simpa using h0
    obtain⟨r,hr⟩:∃r:ByteArray,r=⟨(Lib.trimS s.data.toList letters).toArray⟩:=⟨_,rfl⟩;have s5:=hI (Ac4 s wr (by omega));rw[←hr]at s5
    have q0:Ec s=r.toList.isEmpty:=by
     rw[hr,Lib.toList_data ⟨(Lib.trimS s.data.toList letters).toArray⟩];simp[Ec,s7,h24]
    have u1:=hI q0;clear q0 hr
    have q2:b≠mb:=fun e=>by
     obtain⟨es,clock,h1,_⟩:=a1.out.mp;have h2:=a1.out.blk;rw[e,h1]at h2;cases h2
    go_wp2_with fail;refine s5.out.mono ?_;rintro e w2 ⟨rfl,f4⟩;have u0:=hI (a8.out.trans (f4.mono a8.out.size));have s2:=hI (Ka HD.out f4);have s8:Hid (Ak (fun j=>j=mb) W1 w2):=HK.out.trans (Bb f4);clear f4 HK HD a8;by_cases o5:r.toList=[]
    case neg=>
     have g0:r.toList.isEmpty=false:=by simpa using o5
     have a4:E1 [] names=15:=by rw[HE.out,b2.out,if_pos (by rw[u1.out];exact g0)]
     have i0:Hid (F7 names rs=15):=by show _=_;rw[HV.out,a4];rfl
     clear a4;go_wp2
     go_ret2
     exact E2.bad i0.out (by decide) u0.out
    have g0:r.toList.isEmpty=true:=by simpa using o5
    have cb:=Ad (j:=1) ((s8.out.block b (lt_of_block a1.out.blk) q2).trans a1.out.blk) rfl;obtain⟨v,pz,f3, -⟩:=s2.out.look_ok (string_keyed Tryz.underlying9) Tryz.underlying96 (Tryz.zeroValue3 w2) (plainElem_int Tryz.underlying3 (by decide)) (Z4 s h24);rw[HS.out.2 s]at f3
    have r9:Hid (E1 [] names=if(names.take k).any (fun x=>decide (x=s))then 6 else E1 (names.take (k+1)) (names.drop (k+1))):=by
     show _=_;rw[HE.out,b2.out,if_neg (by rw[u1.out,g0];decide)]
    obtain⟨tk,k4⟩:∃tk,tk=(names.take k).any (fun x=>decide (x=s)):=⟨_,rfl⟩;rw[←k4]at f3 r9;clear k4
    cases tk with
    |true=>
     have i0:Hid (F7 names rs=6):=by show _=_;rw[HV.out,r9.out];rfl
     go_wp2
     go_ret2
     exact E2.bad i0.out (by decide) u0.out
    |false=>
     obtain⟨w3,b4q,s4,i6⟩:=s2.out.update (string_keyed Tryz.underlying9) Tryz.underlying96 (show k<maxLen by unfold maxLen;omega) (Z4 s h24) (plainElem_int (a:=(k:Int)) Tryz.underlying3 (WalkArith.wf_i64 (by omega)));have b0q:=hI s4;have y3:Hid (Ak (fun j=>j=mb) W1 w3):=s8.out.trans ⟨i6.os,i6.tape,i6.output,i6.size,fun j hj hn=>i6.block j hj (fun e=>hn (by injection e))⟩
     have a4q:Hid (Lg (D.put (Yt s) (.lit (.int .i64 (k:Int)))) (names.take (k+1))):=by show Lg _ _;rw[x9.out];exact Ada HS.out
     clear s4 i6;go_wp2_with fail;refine⟨⟨k+1,_,by omega,by go_num,b0q.out,a4q.out,r9.out,y3.out⟩, ?_⟩;simp[intOf];omega
   ·obtain rfl:k=nn:=by omega
    have s3:Hid (E1 [] names=0):=by
     show _=_;rw[HE.out,List.drop_of_length_le (by rw[i5.out];exact rr)];rfl
    have i1:Hid (F7 names rs=Ez k [] rs):=by show _=_;rw[HV.out,s3.out,if_neg (by simp),i5.out]
    clear HV HE s3 HS HD
    have y2:q≠mb:=fun e=>by
     obtain⟨es,clock,h1,_⟩:=a1.out.mp;have h2:=a1.out.nr;rw[e,h1]at h2;cases h2
    have q2:b≠mb:=fun e=>by
     obtain⟨es,clock,h1,_⟩:=a1.out.mp;have h2:=a1.out.blk;rw[e,h1]at h2;cases h2
    have j2:b≠q:=fun e=>by
     have h1:=a1.out.nr;have h2:=a1.out.blk;rw[e,h1]at h2;injection h2 with h2
     injection h2 with _ h2 _
     revert h2
     decide
    obtain⟨d4q,b7q,d5q⟩:=a1.out.lo
    have o1:Hid (G4 wr.heap.size q k (fun _=> .slice none 0 0) (fun _=>[]) wr):=
     ⟨Nat.lt_of_lt_of_le (lt_of_block a1.out.nr) HK.out.size,(HK.out.block q (lt_of_block a1.out.nr) y2).trans a1.out.nr,fun v _=>World.ownsRow_nil _ _ _ _,fun u v _ _ _ i e=>(by cases e),rr⟩
    have f9:Hid (wr.heap[b]? =some (.cells #[.slice A1 k c1, .map (some mb), .slice A4 rs.length c4, .slice (some ⟨q,0,none⟩) k k] 99 (0,0))):=(HK.out.block b (lt_of_block a1.out.blk) q2).trans a1.out.blk
    have i7:Hid (wr.ownsRow w.heap.size 64 3 (.slice A4 rs.length c4) rs.length (rs.flatMap Js)):=Bf a1.out.rd fun i e=>HK.out.block i (a1.out.rd.lt i e).2 (fun e'=>by
     obtain⟨es,clock,h1,_⟩:=a1.out.mp;rcases a1.out.rd.2 with⟨h2,_⟩|⟨g,cap,cur,h2,_,h3,_⟩
     ·rw[h2]at e;cases e
     ·rw[h2]at e;obtain rfl:g=i:=Option.some.inj e;rw[e',h1]at h3;cases h3)
    have u4:Hid (wr.heap[q]? =some (.cells (Ji k fun _=> .slice none 0 0) 110 (0,0))):=o1.out.blk;obtain⟨WN,t6⟩:∃WN,WN=wr:=⟨_,rfl⟩;rw[←t6]at o1 f9 i7 a8 u4;have g7:=lt_of_block f9.out;go_wp2_with fail;clear a1 HK;subst t6
    go_loopw [72] (fun i wr=>∃(j:Nat) (val:Nat->Value),j<=nr/\i= .int .i64 (j:Int)/\Hid (G4 WN.heap.size q k val (Cv ((rs.take j).map B1)) wr)/\Hid (Ez k [] rs=Ez k ((rs.take j).map B1) (rs.drop j))/\Hid (Cw k ((rs.take j).map B1))/\Hid (∀r∈rs.take j,Dk (B1 r)=r)/\Hid (Ak (fun i=>i=q) WN wr)) (fun i _=>nr-(intOf i).toNat)
    case atStart=>exact⟨0,_,Nat.zero_le _,rfl,o1.out.eq fun v _=>rfl,rfl,⟨fun r hr=>by simp at hr,by simp⟩,fun r hr=>by simp at hr,Ak.refl _ _⟩
    case round=>
     obtain⟨j,val,hj,rfl,f5,HE,j4,j5,HK⟩:=hrel;clear o1;have m1:Below w.heap.size w wr:=a8.out.trans (HK.out.to_below (fun i e=>by omega) a8.out.size);have HB:=hI m1;clear m1;by_cases hlt:j<nr
     ·have d1q:(j:Int)<(nr:Int):=by omega
      obtain⟨r,o3⟩:∃r,rs[j]? =some r:=⟨rs[j]'(by rw[f1.out];exact hlt),List.getElem?_eq_getElem _⟩;obtain⟨ga,oa,hA,u6,i3⟩:=(HR.out.below HB.out rr).at_ Tk (by decide) o3;subst hA;have b2:=hI (Add (n:=k) (done:=(rs.take j).map B1) o3);have r2:Hid (rs.take (j+1)=rs.take j++[r]):=by show _=_;rw[List.take_add_one,o3];rfl
      obtain⟨ra,rb,rl⟩:=r;have d0:=i3 0 _ rfl;have d1:=i3 1 _ rfl;have d2:=i3 2 _ rfl;simp only[Nat.add_zero,←Nat.add_assoc]at d0 d1 d2;clear i3 o3;have k5:Hid (Below w.heap.size w (wr.alloc (.cells #[.int .i64 ra, .int .i64 rb, .int .i64 rl] 64))):=HB.out.alloc HB.out.size _;by_cases g1:min ra rb<0
      ·have b0:Hid (F7 names rs=3):=by show _=_;rw[i1.out,HE.out,b2.out,if_pos (.inl g1)]
       go_wp2
       go_ret2
       exact E2.bad b0.out (by decide) k5.out
      by_cases g2:(k:Int)<=max ra rb
      ·have b0:Hid (F7 names rs=3):=by show _=_;rw[i1.out,HE.out,b2.out,if_pos (.inr g2)]
       go_wp2
       go_ret2
       exact E2.bad b0.out (by decide) k5.out
      by_cases g3:ra=rb
      ·have b0:Hid (F7 names rs=9):=by show _=_;rw[i1.out,HE.out,b2.out,if_neg (by simp only;omega),if_pos g3]
       have g3':(ra==rb)=true:=by simpa using g3
       clear g3;go_wp2
       go_ret2
       exact E2.bad b0.out (by decide) k5.out
      have g3':(ra==rb)=false:=by simpa using g3
      by_cases g4:rl<1
      ·have b0:Hid (F7 names rs=2):=by show _=_;rw[i1.out,HE.out,b2.out,if_neg (by simp only;omega),if_neg g3,if_pos (.inl g4)]
       go_wp2
       go_ret2
       exact E2.bad b0.out (by decide) k5.out
      by_cases g5:rl>1073741824
      ·have b0:Hid (F7 names rs=2):=by show _=_;rw[i1.out,HE.out,b2.out,if_neg (by simp only;omega),if_neg g3,if_pos (.inr g5)]
       go_wp2
       go_ret2
       exact E2.bad b0.out (by decide) k5.out
      obtain⟨a,rfl⟩:∃a:Nat,ra=a:=⟨ra.toNat,by omega⟩;obtain⟨c,rfl⟩:∃c:Nat,rb=c:=⟨rb.toNat,by omega⟩;obtain⟨l,rfl⟩:∃l:Nat,rl=l:=⟨rl.toNat,by omega⟩;have b3:a<k:=by omega
      have d9:c<k:=by omega
      have r3:a≠c:=by omega
      have z9:(a:Int)<(k:Int):=by omega
      have y6:(c:Int)<(k:Int):=by omega
      have g5':¬(1073741824:Int)<(l:Int):=by omega
      have b8:Hid (Ez k [] rs=if((rs.take j).map B1).any (fun s=>C7 s a c)then 6 else Ez k ((rs.take j).map B1++[(a,c,l)]) (rs.drop (j+1))):=by
       show _=_;rw[HE.out,b2.out,if_neg (by simp only;omega),if_neg g3,if_neg (by simp only;omega)];rfl
      clear b2 HE g3;go_wp2_with fail;have kx:(wr.alloc (.cells #[.int .i64 (a:Int), .int .i64 (c:Int), .int .i64 (l:Int)] 64)).heap[wr.heap.size]? =some (.cells #[.int .i64 (a:Int), .int .i64 (c:Int), .int .i64 (l:Int)] 64 (0,0)):=Aj rfl;have kb:Below wr.heap.size wr (wr.alloc (.cells #[.int .i64 (a:Int), .int .i64 (c:Int), .int .i64 (l:Int)] 64)):=(Below.refl _ wr).alloc rr _;obtain⟨X,hX⟩:∃X,X=wr.heap.size:=⟨_,rfl⟩;rw[←hX]at kx ⊢;clear hX;have f6:=hI (f5.out.below kb);have m4:Hid (Ak (fun i=>i=q) WN (wr.alloc (.cells #[.int .i64 (a:Int), .int .i64 (c:Int), .int .i64 (l:Int)] 64))):=HK.out.trans (Bb kb);have i2:=hI kx;generalize wr.alloc (.cells #[.int .i64 (a:Int), .int .i64 (c:Int), .int .i64 (l:Int)] 64)=V at*;clear kx kb f5 HK d0 d1 d2;obtain⟨Av,cv,r8⟩:=Bh (f6.out.own a b3)
      have m9:Hid (E0 V Av (Cv ((rs.take j).map B1) a).length cv (Cv ((rs.take j).map B1) a)):=by
       have h:=f6.out.own a b3;rw[r8]at h;exact⟨Az.of_own h (by decide),rfl⟩
      obtain⟨done,b5⟩:∃done,done=(rs.take j).map B1:=⟨_,rfl⟩;rw[←b5]at f6 m9 b8 j4;have m5:=hI b5;clear b5;obtain⟨na,p6⟩:∃na,na=(Cv done a).length:=⟨_,rfl⟩;rw[←p6]at m9;have cb:=Ad (j:=3) ((m4.out.block b g7 j2).trans f9.out) rfl;have cx0:=Ad (j:=0) i2.out rfl;have cq:=Kq f6.out.blk b3;have cq:V.cell? ⟨q,a,none⟩=some (.slice Av na cv):=by rw[cq,r8,p6,m5.out]
      clear p6;refine Bm (fun W'=>W'.cell? ⟨b,3,none⟩=some (.slice (some ⟨q,0,none⟩) k k)/\W'.cell? ⟨X,0,none⟩=some (.int .i64 (a:Int))/\W'.cell? ⟨q,a,none⟩=some (.slice Av na cv)) (by kernel_rfl) ⟨cb,cx0,cq⟩ (fun hHeld=> ?_)
      (refine' Ae 0 rfl ?_;(try simp only[Act.put,nY,nX]));(refine' Ae 1 rfl ?_;(try simp only[Act.put,nY,nX]));(refine' Ae 2 rfl ?_;(try simp only[Act.put,nY,nX]));(refine' Ae 3 rfl ?_;(try simp only[Act.put,nY,nX]));(refine' Ae 4 rfl ?_;(try simp only[Act.put,nY,nX]));(refine' Ae 5 rfl ?_;(try simp only[Act.put,nY,nX]));(refine' Ae 6 rfl ?_;(try simp only[Act.put,nY,nX]));(refine' Ae 7 rfl ?_;(try simp only[Act.put,nY,nX]));(refine' Ae 8 rfl ?_;(try simp only[Act.put,nY,nX]))
      (refine Aim 9 rfl (fun K' hK'=> ?_);simp only[nY];go_simp)
      have p4:Below V.heap.size V V.drew:=(Below.refl _ _).drew;have k3:=Ac6 (rs:=done) r3;refine(Acs Av na cv (Cv done a) 54 #[.pointer (some ⟨X,0,none⟩)] (fun s=>decide ((s.1:Int)=(c:Int))) V.drew (Du.below m9.out p4 rr) (enters_of Tryz.func54 (by kernel_rfl) rfl) (fun W hW s _=>Ahi s ((a:Int),(c:Int),(l:Int)) X W ((hW.block X (lt_of_block i2.out)).trans i2.out))).mono ?_
      rw[show(fun s:Nat×Nat=>decide ((s.1:Int)=(c:Int)))=fun s=>decide (s.1=c)from funext fun s=>by by_cases e:s.1=c<;>simp[e]<;>omega,k3]
      clear k3;obtain⟨tt,p2⟩:∃tt,tt=done.any fun s=>C7 s a c:=⟨_,rfl⟩
      rw[←p2]at b8 ⊢;have s1:=hI p2;rintro e U ⟨rfl,k2⟩;have d6:=p4.trans k2;have b4:=hI (f6.out.below d6);have k1:Hid (Ak (fun i=>i=q) WN U):=m4.out.trans (Bb d6);have d4:=hI ((d6.block X (lt_of_block i2.out)).trans i2.out);refine hK' _ _ ⟨.inr ⟨(k2.cell (p:=⟨b,3,none⟩) (by have:=m4.out.size;show b<_;exact Nat.lt_of_lt_of_le g7 this)).trans hHeld.1,(k2.cell (p:=⟨X,0,none⟩) (lt_of_block i2.out)).trans hHeld.2.1,(k2.cell (p:=⟨q,a,none⟩) (lt_of_block f6.out.blk)).trans hHeld.2.2⟩,fun _=> ?_⟩
      clear hK' K' k2 d6 p4 hHeld p2 m9 f6 m4 i2 cb cx0 cq r8
      (try simp only[Act.put,nY,nX])
      (refine Aim 10 rfl (fun K' hK'=> ?_);simp only[nY];go_simp)
      refine hK' _ _ ⟨.inl (by kernel_rfl),fun _=>Bg (by kernel_rfl) ?_ _⟩
      clear hK' K'
      cases tt with
      |true=>
       have b0:Hid (F7 names rs=6):=by show _=_;rw[i1.out,b8.out];rfl
       have x8:Hid (Below w.heap.size w U):=a8.out.trans (k1.out.to_below (fun i e=>by omega) a8.out.size);go_wp2
       go_ret2
       exact E2.bad b0.out (by decide) x8.out
      |false=>
       have r5:∀v,(Cv done v).length<=512:=fun v=>by
        have h1:(Cv done v).length<=done.length:=List.length_filterMap_le _ _;have h2:done.length<=j:=by rw[m5.out,List.length_map,List.length_take];omega
        omega
       obtain⟨AvA,cvA,o0⟩:=Bh (b4.out.own a b3);have cbA:=Ad (j:=3) ((k1.out.block b g7 j2).trans f9.out) rfl;have cx0A:=Ad (j:=0) d4.out rfl;have cx1A:=Ad (j:=1) d4.out rfl;have cx2A:=Ad (j:=2) d4.out rfl;have cqA:=Kq b4.out.blk b3;rw[o0]at cqA
       have f0:Hid (∀W':World,(∀i,i<U.heap.size->(val a).ownBlock≠some i->W'.heap[i]? =U.heap[i]?)->W'.cell? ⟨b,3,none⟩=some (.slice (some ⟨q,0,none⟩) k k)/\W'.cell? ⟨X,0,none⟩=some (.int .i64 (a:Int))/\W'.cell? ⟨X,1,none⟩=some (.int .i64 (c:Int))/\W'.cell? ⟨X,2,none⟩=some (.int .i64 (l:Int))/\W'.cell? ⟨q,a,none⟩=some (.slice AvA ((Cv done) a).length cvA)):=by
        intro W' h;have j8:∀i,(val a).ownBlock=some i->WN.heap.size<=i:=fun i e=>((b4.out.own a b3).lt i e).1
        have t4:=b4.out.qB;have b3q:=k1.out.size;have eb:=h b (by omega) (fun e=>by have:=j8 b e;omega);have eq:=h q (by omega) (fun e=>by have:=j8 q e;omega)
        have ex:=h X (lt_of_block d4.out) (fun e=>by
         rcases(b4.out.own a b3).2 with⟨h2,_⟩|⟨g,cap,cur,h2,_,h3,_⟩
         ·rw[h2]at e;cases e
         ·rw[h2]at e;obtain rfl:g=X:=Option.some.inj e;have h4:=d4.out;rw[h3]at h4;injection h4 with h4
          injection h4 with _ h4 _
          revert h4
          decide)
        exact⟨(B8 eb 3).trans cbA,(B8 ex 0).trans cx0A,(B8 ex 1).trans cx1A,(B8 ex 2).trans cx2A,(B8 eq a).trans cqA⟩
       go_wp2_with fail;refine Bm (fun W'=>W'.cell? ⟨b,3,none⟩=some (.slice (some ⟨q,0,none⟩) k k)/\W'.cell? ⟨X,0,none⟩=some (.int .i64 (a:Int))/\W'.cell? ⟨X,1,none⟩=some (.int .i64 (c:Int))/\W'.cell? ⟨X,2,none⟩=some (.int .i64 (l:Int))/\W'.cell? ⟨q,a,none⟩=some (.slice AvA ((Cv done) a).length cvA)) (by kernel_rfl) ⟨cbA,cx0A,cx1A,cx2A,cqA⟩ (fun hHeld=> ?_)
       clear cbA cx0A cx1A cx2A cqA
       (refine' Ae 0 rfl ?_;(try simp only[Act.put,nY,nX]));(refine' Ae 1 rfl ?_;(try simp only[Act.put,nY,nX]));(refine' Ae 2 rfl ?_;(try simp only[Act.put,nY,nX]));(refine' Ae 3 rfl ?_;(try simp only[Act.put,nY,nX]));(refine' Ae 4 rfl ?_;(try simp only[Act.put,nY,nX]));(refine' Ae 5 rfl ?_;(try simp only[Act.put,nY,nX]));(refine' Ae 6 rfl ?_;(try simp only[Act.put,nY,nX]));(refine' Ae 7 rfl ?_;(try simp only[Act.put,nY,nX]));(refine' Ae 8 rfl ?_;(try simp only[Act.put,nY,nX]));(refine' Ae 9 rfl ?_;(try simp only[Act.put,nY,nX]));(refine' Ae 10 rfl ?_;(try simp only[Act.put,nY,nX]));(refine' Ae 11 rfl ?_;(try simp only[Act.put,nY,nX]));(refine' Ae 12 rfl ?_;(try simp only[Act.put,nY,nX]));(refine' Ae 13 rfl ?_;(try simp only[Act.put,nY,nX]));(refine' Ae 14 rfl ?_;(try simp only[Act.put,nY,nX]));(refine' Ae 15 rfl ?_;(try simp only[Act.put,nY,nX]));(refine' Ae 16 rfl ?_;(try simp only[Act.put,nY,nX]));(refine' Ae 17 rfl ?_;(try simp only[Act.put,nY,nX]));(refine' Ae 18 rfl ?_;(try simp only[Act.put,nY,nX]))
       clear hHeld
       (refine Aim 19 rfl (fun K' hK'=> ?_);simp only[nY];go_simp)
       have f7:Below U.heap.size U U.drew:=(Below.refl _ _).drew;have a9q:∀u:Nat,u<2→∀v,[Value.int .i64 (c:Int),Value.int .i64 (l:Int)][u]? =some v->(U.drew.alloc (.cells #[.int .i64 (c:Int), .int .i64 (l:Int)] 112)).cell? ⟨U.drew.heap.size,u,none⟩=some v:=fun u _ v hv=>B7 (by simpa using hv)
       have a3:Below U.heap.size U (U.drew.alloc (.cells #[.int .i64 (c:Int), .int .i64 (l:Int)] 112)):=f7.alloc f7.size _;have b1:=hI (b4.out.below a3);refine hK' _ _ ⟨.inr (f0.out _ fun i h _=>a3.block i h),fun _=> ?_⟩
       clear hK' K'
       (try simp only[Act.put,nY,nX])
       have j9:((Cv done) a).length<=512:=r5 a;obtain⟨nlA,d3⟩:∃x,x=((Cv done) a).length:=⟨_,rfl⟩;have o7A:=b1.out.own a b3;rw[o0,←d3]at o7A;rw[←d3]at j9 f0 ⊢;have i9:=b1.out.sz;refine Aim 20 rfl (fun K' hK'=> ?_);rw[if_pos (by rfl)]
       refine Bz (.tmp 131) (.tmp 137) 110 rfl WN.heap.size 112 (.agg #[.int .i64 0, .int .i64 0]) 2 16 Tryz.underlying110 Wn rfl (by decide) (.slice AvA nlA cvA) nlA (((Cv done) a).flatMap Jv) (by rfl) o7A ⟨U.drew.heap.size,0,none⟩ 1 1 [.int .i64 (c:Int), .int .i64 (l:Int)] (by rfl) rfl
        (fun u v hv=>by
         match u,hv with
         |0,hv=>simpa[Addr.add]using hv
         |1,hv=>simpa[Addr.add]using hv
         |u+2,hv=>simp at hv) (by intro u hu;simp at hu;rcases hu with rfl|rfl<;>rfl) (by unfold maxLen;omega) (by omega) i9 ?_
       intro v' X2 a7 a6 _ f8;have k9:val a= .slice AvA nlA cvA:=by rw[o0,d3]
       rw[←k9]at a6 f8;have o6:=f0.out X2 fun i h1 h2=>(a6.block i (Nat.lt_of_lt_of_le h1 a3.size) (fun e=>h2 e.symm)).trans (a3.block i h1)
       have b9:=b1.out.push b3 (p:=(c,l)) (by rw[←d3];exact a7) a6 f8;refine hK' _ _ ⟨.inr o6,fun _=> ?_⟩
       clear hK' K';have j7:X2.heap[q]? =some (.cells (Ji k val) 110 (0,0)):=(a6.block q (lt_of_block b1.out.blk) (fun e=>by have h1:=(b4.out.own a b3).lt q e.symm;have h2:=b4.out.qB;omega)).trans b1.out.blk;have ffA:X2.frozen? ⟨q,a,none⟩=false:=by simp[World.frozen?,j7]
       have cfA:=o6.2.2.2.2;have k6:=o6;have d5:Hid (Ak (fun i=>i=q) WN (X2.setCell ⟨q,a,none⟩ v')):=(((k1.out.below a3 rr).mono (S':=fun i=>i=q\/WN.heap.size<=i) fun i e=> .inl e).grown a6 (fun i e=> .inr ((b4.out.own a b3).lt i e).1) |>.setCell (p:=⟨q,a,none⟩) (.inl rfl) v').old fun i hi e=>e.resolve_right (by omega)
       have a2:Hid ((X2.setCell ⟨q,a,none⟩ v').heap[X]? =some (.cells #[.int .i64 (a:Int), .int .i64 (c:Int), .int .i64 (l:Int)] 64 (0,0))):=by
        refine(Below.heap_setCell _ _ _ _ (by
         intro e;have h1:=d4.out;have h2:=b4.out.blk;rw[show X=q from e,h2]at h1;injection h1 with h1
         injection h1 with _ h1 _
         revert h1
         decide)).trans ((a6.block X (Nat.lt_of_lt_of_le (lt_of_block d4.out) a3.size) (fun e=> ?_)).trans ((a3.block X (lt_of_block d4.out)).trans d4.out))
        rcases(b4.out.own a b3).2 with⟨h2,_⟩|⟨g,cap,cur,h2,_,h3,_⟩
        ·rw[h2]at e;cases e
        ·rw[h2]at e;obtain rfl:X=g:=Option.some.inj e;have h4:=d4.out;rw[h3]at h4;injection h4 with h4
         injection h4 with _ h4 _
         revert h4
         decide
       have a0:=hI b9;obtain⟨A9A,c9A,rfl⟩:=Bh a7;clear a7 a6 f8 o6 j7 b9 a3 f7 a9q f0 o7A d3 o0 k9
       (try simp only[Act.put,nY,nX])
       (refine Aim 21 rfl (fun K' hK'=> ?_);simp only[nY];go_simp)
       refine hK' _ _ ⟨.inr k6,fun _=> ?_⟩
       clear hK' K'
       (try simp only[Act.put,nY,nX])
       (refine Aim 22 rfl (fun K' hK'=> ?_);simp only[nY];go_simp)
       refine hK' _ _ ⟨.inl (by kernel_rfl),fun _=>Bg (by kernel_rfl) ?_ _⟩
       clear hK' K' ffA cfA k6;generalize X2.setCell ⟨q,a,none⟩ (.slice A9A (nlA+1) c9A)=Y at*;obtain⟨val2,f2⟩:∃val2:Nat->Value,val2=fun u=>if u=a then .slice A9A (nlA+1) c9A else val u:=⟨_,rfl⟩
       obtain⟨ls2,d7⟩:∃ls2:Nat->List (Nat×Nat),ls2=fun u=>if u=a then Cv done a++[(c,l)]else Cv done u:=⟨_,rfl⟩
       rw[←f2,←d7]at a0;have u5:(ls2 c).length<=512:=by rw[d7];simp only[if_neg (Ne.symm r3)];exact r5 c
       have t2:=hI d7;clear f2 d7 r5 b4 k1 d4 b1 j9 i9;obtain⟨AvB,cvB,o2⟩:=Bh (a0.out.own c d9);have cbB:=Ad (j:=3) ((d5.out.block b g7 j2).trans f9.out) rfl;have cx0B:=Ad (j:=0) a2.out rfl;have cx1B:=Ad (j:=1) a2.out rfl;have cx2B:=Ad (j:=2) a2.out rfl;have cqB:=Kq a0.out.blk d9;rw[o2]at cqB
       have d8:Hid (∀W':World,(∀i,i<Y.heap.size->(val2 c).ownBlock≠some i->W'.heap[i]? =Y.heap[i]?)->W'.cell? ⟨b,3,none⟩=some (.slice (some ⟨q,0,none⟩) k k)/\W'.cell? ⟨X,0,none⟩=some (.int .i64 (a:Int))/\W'.cell? ⟨X,1,none⟩=some (.int .i64 (c:Int))/\W'.cell? ⟨X,2,none⟩=some (.int .i64 (l:Int))/\W'.cell? ⟨q,c,none⟩=some (.slice AvB ((ls2) c).length cvB)):=by
        intro W' h;have j8:∀i,(val2 c).ownBlock=some i->WN.heap.size<=i:=fun i e=>((a0.out.own c d9).lt i e).1
        have t4:=a0.out.qB;have b3q:=d5.out.size;have eb:=h b (by omega) (fun e=>by have:=j8 b e;omega);have eq:=h q (by omega) (fun e=>by have:=j8 q e;omega)
        have ex:=h X (lt_of_block a2.out) (fun e=>by
         rcases(a0.out.own c d9).2 with⟨h2,_⟩|⟨g,cap,cur,h2,_,h3,_⟩
         ·rw[h2]at e;cases e
         ·rw[h2]at e;obtain rfl:g=X:=Option.some.inj e;have h4:=a2.out;rw[h3]at h4;injection h4 with h4
          injection h4 with _ h4 _
          revert h4
          decide)
        exact⟨(B8 eb 3).trans cbB,(B8 ex 0).trans cx0B,(B8 ex 1).trans cx1B,(B8 ex 2).trans cx2B,(B8 eq c).trans cqB⟩
       go_wp2_with fail;refine Bm (fun W'=>W'.cell? ⟨b,3,none⟩=some (.slice (some ⟨q,0,none⟩) k k)/\W'.cell? ⟨X,0,none⟩=some (.int .i64 (a:Int))/\W'.cell? ⟨X,1,none⟩=some (.int .i64 (c:Int))/\W'.cell? ⟨X,2,none⟩=some (.int .i64 (l:Int))/\W'.cell? ⟨q,c,none⟩=some (.slice AvB ((ls2) c).length cvB)) (by kernel_rfl) ⟨cbB,cx0B,cx1B,cx2B,cqB⟩ (fun hHeld=> ?_)
       clear cbB cx0B cx1B cx2B cqB
       (refine' Ae 0 rfl ?_;(try simp only[Act.put,nY,nX]));(refine' Ae 1 rfl ?_;(try simp only[Act.put,nY,nX]));(refine' Ae 2 rfl ?_;(try simp only[Act.put,nY,nX]));(refine' Ae 3 rfl ?_;(try simp only[Act.put,nY,nX]));(refine' Ae 4 rfl ?_;(try simp only[Act.put,nY,nX]));(refine' Ae 5 rfl ?_;(try simp only[Act.put,nY,nX]));(refine' Ae 6 rfl ?_;(try simp only[Act.put,nY,nX]));(refine' Ae 7 rfl ?_;(try simp only[Act.put,nY,nX]));(refine' Ae 8 rfl ?_;(try simp only[Act.put,nY,nX]));(refine' Ae 9 rfl ?_;(try simp only[Act.put,nY,nX]));(refine' Ae 10 rfl ?_;(try simp only[Act.put,nY,nX]));(refine' Ae 11 rfl ?_;(try simp only[Act.put,nY,nX]));(refine' Ae 12 rfl ?_;(try simp only[Act.put,nY,nX]));(refine' Ae 13 rfl ?_;(try simp only[Act.put,nY,nX]));(refine' Ae 14 rfl ?_;(try simp only[Act.put,nY,nX]));(refine' Ae 15 rfl ?_;(try simp only[Act.put,nY,nX]));(refine' Ae 16 rfl ?_;(try simp only[Act.put,nY,nX]));(refine' Ae 17 rfl ?_;(try simp only[Act.put,nY,nX]));(refine' Ae 18 rfl ?_;(try simp only[Act.put,nY,nX]))
       clear hHeld
       (refine Aim 19 rfl (fun K' hK'=> ?_);simp only[nY];go_simp)
       have g6:Below Y.heap.size Y Y.drew:=(Below.refl _ _).drew;have b1q:∀u:Nat,u<2→∀v,[Value.int .i64 (a:Int),Value.int .i64 (l:Int)][u]? =some v->(Y.drew.alloc (.cells #[.int .i64 (a:Int), .int .i64 (l:Int)] 112)).cell? ⟨Y.drew.heap.size,u,none⟩=some v:=fun u _ v hv=>B7 (by simpa using hv)
       have a5:Below Y.heap.size Y (Y.drew.alloc (.cells #[.int .i64 (a:Int), .int .i64 (l:Int)] 112)):=g6.alloc g6.size _;have a9:=hI (a0.out.below a5);refine hK' _ _ ⟨.inr (d8.out _ fun i h _=>a5.block i h),fun _=> ?_⟩
       clear hK' K'
       (try simp only[Act.put,nY,nX])
       have k0:((ls2) c).length<=512:=u5;obtain⟨nlB,b6⟩:∃x,x=((ls2) c).length:=⟨_,rfl⟩;have o7B:=a9.out.own c d9;rw[o2,←b6]at o7B;rw[←b6]at k0 d8 ⊢;have k8:=a9.out.sz;refine Aim 20 rfl (fun K' hK'=> ?_);rw[if_pos (by rfl)]
       refine Bz (.tmp 153) (.tmp 159) 110 rfl WN.heap.size 112 (.agg #[.int .i64 0, .int .i64 0]) 2 16 Tryz.underlying110 Wn rfl (by decide) (.slice AvB nlB cvB) nlB (((ls2) c).flatMap Jv) (by rfl) o7B ⟨Y.drew.heap.size,0,none⟩ 1 1 [.int .i64 (a:Int), .int .i64 (l:Int)] (by rfl) rfl
        (fun u v hv=>by
         match u,hv with
         |0,hv=>simpa[Addr.add]using hv
         |1,hv=>simpa[Addr.add]using hv
         |u+2,hv=>simp at hv) (by intro u hu;simp at hu;rcases hu with rfl|rfl<;>rfl) (by unfold maxLen;omega) (by omega) k8 ?_
       intro v' X2 a7 a6 _ f8;have j1:val2 c= .slice AvB nlB cvB:=by rw[o2,b6]
       rw[←j1]at a6 f8;have m8:=d8.out X2 fun i h1 h2=>(a6.block i (Nat.lt_of_lt_of_le h1 a5.size) (fun e=>h2 e.symm)).trans (a5.block i h1)
       have b7:=a9.out.push d9 (p:=(a,l)) (by rw[←b6];exact a7) a6 f8;refine hK' _ _ ⟨.inr m8,fun _=> ?_⟩
       clear hK' K';have k7:X2.heap[q]? =some (.cells (Ji k val2) 110 (0,0)):=(a6.block q (lt_of_block a9.out.blk) (fun e=>by have h1:=(a0.out.own c d9).lt q e.symm;have h2:=a0.out.qB;omega)).trans a9.out.blk;have ffB:X2.frozen? ⟨q,c,none⟩=false:=by simp[World.frozen?,k7]
       have cfB:=m8.2.2.2.2;have j6:=m8;have i8:Hid (Ak (fun i=>i=q) WN (X2.setCell ⟨q,c,none⟩ v')):=(((d5.out.below a5 rr).mono (S':=fun i=>i=q\/WN.heap.size<=i) fun i e=> .inl e).grown a6 (fun i e=> .inr ((a0.out.own c d9).lt i e).1) |>.setCell (p:=⟨q,c,none⟩) (.inl rfl) v').old fun i hi e=>e.resolve_right (by omega)
       have p7:Hid ((X2.setCell ⟨q,c,none⟩ v').heap[X]? =some (.cells #[.int .i64 (a:Int), .int .i64 (c:Int), .int .i64 (l:Int)] 64 (0,0))):=by
        refine(Below.heap_setCell _ _ _ _ (by
         intro e;have h1:=a2.out;have h2:=a0.out.blk;rw[show X=q from e,h2]at h1;injection h1 with h1
         injection h1 with _ h1 _
         revert h1
         decide)).trans ((a6.block X (Nat.lt_of_lt_of_le (lt_of_block a2.out) a5.size) (fun e=> ?_)).trans ((a5.block X (lt_of_block a2.out)).trans a2.out))
        rcases(a0.out.own c d9).2 with⟨h2,_⟩|⟨g,cap,cur,h2,_,h3,_⟩
        ·rw[h2]at e;cases e
        ·rw[h2]at e;obtain rfl:X=g:=Option.some.inj e;have h4:=a2.out;rw[h3]at h4;injection h4 with h4
         injection h4 with _ h4 _
         revert h4
         decide
       have j3:=hI b7;obtain⟨A9B,c9B,rfl⟩:=Bh a7;clear a7 a6 f8 m8 k7 b7 a5 g6 b1q d8 o7B b6 o2 j1
       (try simp only[Act.put,nY,nX])
       (refine Aim 21 rfl (fun K' hK'=> ?_);simp only[nY];go_simp)
       refine hK' _ _ ⟨.inr j6,fun _=> ?_⟩
       clear hK' K'
       (try simp only[Act.put,nY,nX])
       (refine Aim 22 rfl (fun K' hK'=> ?_);simp only[nY];go_simp)
       refine hK' _ _ ⟨.inl (by kernel_rfl),fun _=>Bg (by kernel_rfl) ?_ _⟩
       clear hK' K' ffB cfB j6;generalize X2.setCell ⟨q,c,none⟩ (.slice A9B (nlB+1) c9B)=Z at*;have m3:(rs.take (j+1)).map B1=done++[(a,c,l)]:=by rw[r2.out,List.map_append,←m5.out];rfl
       have y0:Hid (G4 WN.heap.size q k (fun u=>if u=c then .slice A9B (nlB+1) c9B else val2 u) (Cv ((rs.take (j+1)).map B1)) Z):=by
        show G4 _ _ _ _ _ _;rw[m3];exact j3.out.eq fun v _=>by rw[Adc done r3 v,t2.out]
       have u8:Hid (Ez k [] rs=Ez k ((rs.take (j+1)).map B1) (rs.drop (j+1))):=by
        show _=_;rw[m3];have h9:=b8.out;simpa using h9
       have q8:Hid (Cw k ((rs.take (j+1)).map B1)):=by
        show Cw _ _;rw[m3]
        have h9:=Wm (n:=k) (rs:=[((a:Int),(c:Int),(l:Int))]) (done:=done) (by
         unfold Ez;rw[if_neg (by simp only;omega),if_neg (by simp only;omega),if_neg (by simp only;omega),if_neg (by simp only[Int.toNat_natCast];rw[←s1.out];decide)];rfl) j4.out
        exact h9
       have p1:Hid (∀r∈rs.take (j+1),Dk (B1 r)=r):=fun r hr=>by
        rw[r2.out]at hr;rcases List.mem_append.1 hr with hr|hr
        ·exact j5.out r hr
        ·obtain rfl:r=((a:Int),(c:Int),(l:Int)):=by simpa using hr
         rfl
       have b2q:Hid (Ak (fun i=>i=q) WN Z):=i8.out;clear j3 i8 p7 a0 d5 a2 t2 m3 b8 j4 j5 r2 m5 s1 a9 k0 k8 u5;go_wp2
       go_roundw
       case rel=>exact⟨j+1,_,by omega,by go_num,y0.out,u8.out,q8.out,p1.out,b2q.out⟩
       case measure=>simp[intOf];omega
     ·obtain rfl:j=nr:=by omega
      have k4:rs.take j=rs:=List.take_of_length_le (by rw[f1.out];exact rr)
      have b0:Hid (F7 names rs=0):=by
       show _=_;rw[i1.out,HE.out,List.drop_of_length_le (by rw[f1.out];exact rr)];rfl
      rw[k4]at f5 j4 j5;clear HE k4;have cb:=Ad (j:=3) ((HK.out.block b g7 j2).trans f9.out) rfl
      have o5:(rs.map B1).map Dk=rs:=by
       rw[List.map_map]
       conv=>rhs;rw[←List.map_id rs]
       exact List.map_congr_left fun r hr=>j5.out r hr
      have o9:Hid (Dl wr A4 (rs.map B1).length c4 ((rs.map B1).map Dk)):=by
       show Dl _ _ _ _ _;rw[o5,List.length_map];refine⟨Az.of_own (Bf i7.out fun i e=>HK.out.block i (i7.out.lt i e).2 (fun e'=> ?_)) (by decide),rfl⟩;rcases i7.out.2 with⟨h2,_⟩|⟨g,cap,cur,h2,_,h3,_⟩
       ·rw[h2]at e;cases e
       ·rw[h2]at e;obtain rfl:g=i:=Option.some.inj e;subst e';have h4:=u4.out;rw[h3]at h4;injection h4 with h4
        injection h4 with _ h4 _
        revert h4
        decide
      have s0:Hid (wr.heap[b]? =some (.cells #[.slice A1 k c1, .map (some mb), .slice A4 (rs.map B1).length c4, .slice (some ⟨q,0,none⟩) k k] 99 (0,0))):=by
       show _=_;rw[List.length_map];exact(HK.out.block b g7 j2).trans f9.out
      have j0:(rs.map B1).length<=512:=by rw[List.length_map,f1.out];omega
      have g9:=hI (Mt.start f5.out);have q1:Hid (Below w.heap.size w wr):=a8.out.trans (HK.out.to_below (fun i e=>by omega) a8.out.size);have s9:=lt_of_block f5.out.blk;have t4:=f5.out.qB;obtain⟨WS,q7⟩:∃WS,WS=wr:=⟨_,rfl⟩;have a6q:Hid (WS.heap[q]? =some (.cells (Ji k val) 110 (0,0))):=by rw[q7];exact f5.out.blk
      rw[←q7]at g9 q1 s9 o9 s0;have a8q:Hid (∀ad,A4=some ad->ad.block<WN.heap.size):=fun ad had=>by subst had;exact(i7.out.lt ad.block rfl).2
      clear f5 i7 HK j5;go_wp2_with fail;clear cb;subst q7
      go_loopw [168] (fun i wr=>∃(v:Nat) (es:Nat->List (Nat×Nat)),v<=k/\i= .int .i64 (v:Int)/\Hid (Mt WN.heap.size k v val (Cv (rs.map B1)) es WS wr)) (fun i _=>k-(intOf i).toNat)
      case atStart=>exact⟨0,_,Nat.zero_le _,rfl,g9.out⟩
      case round=>
       obtain⟨v,es,hv,rfl,g8⟩:=hrel;clear g9;have q5:=(g8.out.kp.block q s9 (by omega)).trans a6q.out;by_cases hvk:v<k
       ·have a0q:(v:Int)<(k:Int):=by omega
        have cq:=Kq q5 hvk;have s6:(Cv (rs.map B1) v).length<=4000:=Nat.le_trans (List.length_filterMap_le _ _) (by omega);clear q5;go_wp2_with fail;refine(Aa1 (val v) WN.heap.size (Cv (rs.map B1) v) wr (g8.out.lo v hvk rr) s6).mono ?_;rintro e w2 ⟨rfl,⟨A5,c5,d2q,o4,t1,t8⟩,t0⟩;have x6:=hI (g8.out.step hvk o4 t1 t8 t0);clear o4 t1 t8 t0 cq s6;go_wp2
        go_roundw
        case rel=>exact⟨v+1,_,by omega,by go_num,x6.out⟩
        case measure=>simp[intOf];omega
       ·obtain rfl:v=k:=by omega
        have y4:Hid (Cq wr b v (rs.map B1)):=by
         have b8q:b<WN.heap.size:=g7;have x1:b<WS.heap.size:=lt_of_block s0.out;refine g8.out.map ((g8.out.kp.block b x1 (by omega)).trans s0.out) ⟨?_,o9.out.2⟩ q5 j4.out (by omega) j0;exact Rr o9.out.1 g8.out.kp fun hn ad had e=>by have:=a8q.out ad had;omega
        have y9:Hid (Below w.heap.size w wr):=q1.out.trans (g8.out.kp.to_below (fun i e=>by have:=a8.out.size;omega) q1.out.size);have p9:=i5;go_wp2
        go_ret2
        exact⟨.inr ⟨b0.out,b,rfl,by rw[p9.out];exact y4.out⟩,y9.out⟩
end Go.Proofs.YtaglfmlgbcmakaaGreatDoor
