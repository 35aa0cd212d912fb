/-
  points.New: the map, as it is laid first.
-/
import Derived.Test.YtaglfmlgbcmakaaGreatDoorH05
set_option linter.all false
set_option maxRecDepth 100000
set_option maxHeartbeats 4000000
namespace Go.Proofs.YtaglfmlgbcmakaaGreatDoor
open Go.RowKit Go.Shelf Go.Maps Go.WideMaps
theorem Wz:(Tryz.prog.info? 110).map (fun i=>(i.zero,i.size,i.bytes))=some (some (.slice none 0 0),1,24):=by kernel_rfl
structure Mk (B b mb q n:Nat)(An:Option Addr)(cn:Nat)(Ar:Option Addr)(cr:Nat)(rs:List Db)(W:World):Prop where
 lo:B<=b/\B<=mb/\B<=q
 blk:W.heap[b]? =some (.cells #[.slice An n cn, .map (some mb), .slice Ar rs.length cr, .slice (some ⟨q,0,none⟩) n n] 99 (0,0))
 rd:W.ownsRow B 64 3 (.slice Ar rs.length cr) rs.length (rs.flatMap Hj)
 mp:W.ownsMap Tryz.prog 9 (plainElem (H:=Unit) Tryz.prog 3) mb 0 (.map [])
 nr:W.heap[q]? =some (.cells (Hc n fun _=> .slice none 0 0) 110 (0,0))
def Ab2 (B n:Nat)(N:Option Addr×Nat×List ByteArray)(R:Option Addr×Nat×List Db)(i:Nat)(v:Value)(W:World):Prop:=match i with
 |0=>v= .slice N.1 n N.2.1
 |1=>∃A c,v= .slice A n c
 |2=>∃mb,v= .map (some mb)/\B<=mb/\W.ownsMap Tryz.prog 9 (plainElem (H:=Unit) Tryz.prog 3) mb 0 (.map [])
 |3=>v= .slice R.1 R.2.2.length R.2.1
 |4=>∃A c,v= .slice A R.2.2.length c/\W.ownsRow B 64 3 (.slice A R.2.2.length c) R.2.2.length (R.2.2.flatMap Hj)
 |5=>v= .int .i64 (n:Int)
 |6=>∃q,v= .slice (some ⟨q,0,none⟩) n n/\B<=q/\W.heap[q]? =some (.cells (Hc n fun _=> .slice none 0 0) 110 (0,0))
 |7=>∃An cn mb Ar cr q,v= .agg #[.slice An n cn, .map (some mb), .slice Ar R.2.2.length cr, .slice (some ⟨q,0,none⟩) n n]/\B<=mb/\W.ownsMap Tryz.prog 9 (plainElem (H:=Unit) Tryz.prog 3) mb 0 (.map [])/\W.ownsRow B 64 3 (.slice Ar R.2.2.length cr) R.2.2.length (R.2.2.flatMap Hj)∧
   B<=q/\W.heap[q]? =some (.cells (Hc n fun _=> .slice none 0 0) 110 (0,0))
 |8=>∃b An cn mb Ar cr q,v= .pointer (some ⟨b,0,none⟩)/\Mk B b mb q n An cn Ar cr R.2.2 W
 |9=>∃b An cn mb Ar cr q,v= .pointer (some ⟨b,0,none⟩)/\Mk B b mb q n An cn Ar cr R.2.2 W
 |_=>True
theorem Hu {W W':World}{bm m:Nat}{D:DataW Unit}(h:W.ownsMap Tryz.prog 9 (plainElem (H:=Unit) Tryz.prog 3) bm m D)(hb:Below W.heap.size W W'):W'.ownsMap Tryz.prog 9 (plainElem (H:=Unit) Tryz.prog 3) bm m D:=by
 have hl:=h.lt;obtain⟨es,clock,h1,h2⟩:=h;exact⟨es,clock,(hb.block bm hl).trans h1,h2⟩
theorem Vp {w w':World}{B:Nat}{e:TypeId}{sz n:Nat}{v:Value}{xs:List Value}(h:w.ownsRow B e sz v n xs)(hb:Below w.heap.size w w'):w'.ownsRow B e sz v n xs:=Be h fun k e=>hb.block k (h.lt k e).2
theorem Mk.below {B b mb q n:Nat}{An:Option Addr}{cn:Nat}{Ar:Option Addr}{cr:Nat}{rs:List Db}{W W':World}(h:Mk B b mb q n An cn Ar cr rs W)(hb:Below W.heap.size W W'):Mk B b mb q n An cn Ar cr rs W':=
 ⟨h.lo,(hb.block b (lt_of_block h.blk)).trans h.blk,Vp h.rd hb,Hu h.mp hb,(hb.block q (lt_of_block h.nr)).trans h.nr⟩
theorem Ug {B n:Nat}{N:Option Addr×Nat×List ByteArray}{R:Option Addr×Nat×List Db}{i:Nat}{v:Value}{w w':World}(h:Ab2 B n N R i v w)(hb:Below w.heap.size w w'):Ab2 B n N R i v w':=by
 unfold Ab2 at*;split at h
 ·exact h
 ·exact h
 ·obtain⟨mb,e,h1,h2⟩:=h;exact⟨mb,e,h1,Hu h2 hb⟩
 ·exact h
 ·obtain⟨A,c,e,h⟩:=h;exact⟨A,c,e,Vp h hb⟩
 ·exact h
 ·obtain⟨q,e,h1,h2⟩:=h;exact⟨q,e,h1,(hb.block q (lt_of_block h2)).trans h2⟩
 ·obtain⟨An,cn,mb,Ar,cr,q,e,h1,h2,h3,h4,h5⟩:=h;exact⟨An,cn,mb,Ar,cr,q,e,h1,Hu h2 hb,Vp h3 hb,h4,(hb.block q (lt_of_block h5)).trans h5⟩
 ·obtain⟨b,An,cn,mb,Ar,cr,q,e,h⟩:=h;exact⟨b,An,cn,mb,Ar,cr,q,e,h.below hb⟩
 ·obtain⟨b,An,cn,mb,Ar,cr,q,e,h⟩:=h;exact⟨b,An,cn,mb,Ar,cr,q,e,h.below hb⟩
 ·trivial
theorem J2 {ops:Array Oper}{s:Nat}(h:(ops.all fun o=>o.dst !=some s)=true):∀j,Du ops j≠some s:=by
 intro j hj;unfold Du at hj
 cases ho:ops[j]? with
 |none=>rw[ho]at hj;cases hj
 |some o=>
  rw[ho]at hj;have h1:=(Array.all_eq_true.1 h) j (Array.getElem?_eq_some_iff.1 ho).1;rw[(Array.getElem?_eq_some_iff.1 ho).2]at h1;have h2:o.dst=some s:=hj;simp[h2]at h1
theorem Zp {names:List ByteArray}{k:Nat}{s:ByteArray}(h:names[k]? =some s):D8 (names.take k) (names.drop k)=if Dy s=false then 15 else if(names.take k).any (fun x=>decide (x=s))then 6 else D8 (names.take (k+1)) (names.drop (k+1)):=by
 have hk:=(List.getElem?_eq_some_iff.1 h).1
 have e1:names.drop k=s::names.drop (k+1):=by
  rw[List.drop_eq_getElem_cons hk,(List.getElem?_eq_some_iff.1 h).2]
 have e2:names.take (k+1)=names.take k++[s]:=by rw[List.take_add_one,h];rfl
 rw[e1,e2];rfl
theorem Vq (s:ByteArray)(hs:s.size<=24):keyOf Tryz.prog 9 (.string s)=some (Ud s):=by
 have h:=keyOf_string_mk (P:=Tryz.prog) (k:=9) (s:=s) Tryz.underlying9 (by unfold maxLen;omega);rw[h];rfl
def El (w:World)(names:List ByteArray)(rs:List Db)(e:Ending)(w':World):Prop:=
 ((Fc names rs≠0/\e= .returned (.tuple #[.pointer none, .int .i64 (Fc names rs)]))\/(Fc names rs=0∧∃b,e= .returned (.tuple #[.pointer (some ⟨b,0,none⟩), .int .i64 0])/\Cl w' b names.length (rs.map B5)))/\Below w.heap.size w w'
theorem El.bad {w w':World}{names:List ByteArray}{rs:List Db}{er:Int}(h:Fc names rs=er)(h0:er≠0)(hb:Below w.heap.size w w'):El w names rs (.returned (.tuple #[.pointer none, .int .i64 er])) w':=by
 subst h;exact⟨.inl ⟨h0,rfl⟩,hb⟩
theorem Ac6 (An:Option Addr)(nn cn:Nat)(names:List ByteArray)(Ar:Option Addr)(nr cr:Nat)(rs:List Db)(w:World)(hn:E0 w An nn cn names)(hr:Cv w Ar nr cr rs):
  Calls Tryz.prog 15 #[.slice An nn cn, .slice Ar nr cr] w (El w names rs):=by
 have d3q:nn<=cn/\cn<=9223372036854775807:=by have h1:=hn.2.1;have h2:=hn.2.2.1;unfold maxLen at h2;omega
 have b6q:nr<=cr/\cr<=9223372036854775807:=by have h1:=hr.1.2.1;have h2:=hr.1.2.2.1;unfold maxLen at h2;omega
 have HN:=hI hn;have HR:=hI hr;have i4:Hid (names.length=nn):=hn.len;have f1:Hid (rs.length=nr):=hr.2;clear hn hr;go_enter Tryz.func15,Tryz.ntmps15;by_cases h1:nn>128
 ·have s4:(nn:Int)>128:=by omega
  have HV:Hid (Fc names rs=12):=by show _=_;unfold Fc;rw[if_pos (.inl (by rw[i4.out];exact h1))]
  go_wp2
  go_ret2
  exact El.bad HV.out (by decide) (Below.refl _ _)
 by_cases h2:nr>512
 ·have s4:¬(128:Int)<(nn:Int):=by omega
  have b4q:(nr:Int)>512:=by omega
  have HV:Hid (Fc names rs=12):=by show _=_;unfold Fc;rw[if_pos (.inr (by rw[f1.out];exact h2))]
  go_wp2
  go_ret2
  exact El.bad HV.out (by decide) (Below.refl _ _)
 have s4:¬(128:Int)<(nn:Int):=by omega
 have b4q:¬(512:Int)<(nr:Int):=by omega
 have HV:Hid (Fc names rs=if D8 [] names≠0 then D8 [] names else Dt names.length [] rs):=by show _=_;unfold Fc;rw[if_neg (by rw[i4.out,f1.out];omega)]
 go_wp2_with fail;refine Tt (by kernel_rfl) (by kernel_rfl) (Ab2 w.heap.size nn (An,cn,names) (Ar,cr,rs)) _ w (fun j v w w' h hb=>Ug h hb) ?hstep ?hrest
 case hstep=>
  intro i o ho a w' hs hb;have r1:i<10:=(Array.getElem?_eq_some_iff.1 ho).1;have hi:i=0\/i=1\/i=2\/i=3\/i=4\/i=5\/i=6\/i=7\/i=8\/i=9:=by omega
  clear r1;have m6:=hb.size;rcases hi with rfl|rfl|rfl|rfl|rfl|rfl|rfl|rfl|rfl|rfl
  ·simp only[List.getElem?_toArray,List.getElem?_cons_zero,List.getElem?_cons_succ,Option.some.injEq]at ho;have hq:=hs.2.1 0 (J2 (by kernel_rfl));have e1:a.eval (.tmp 0)= .slice An nn cn:=by simp[Act.eval,hq]
   subst ho;unfold Oper.wp;go_simp;exact⟨_,rfl,rfl,Below.refl _ _⟩
  ·simp only[List.getElem?_toArray,List.getElem?_cons_zero,List.getElem?_cons_succ,Option.some.injEq]at ho;obtain⟨v0,y1,p9⟩:=hs.1 0 (by rw[←ho];exact⟨_,Array.mem_of_getElem? (i:=0) rfl,rfl,rfl⟩);have y6:=p9 25 (by rfl) (by simp);obtain rfl:v0= .slice An nn cn:=y1;have e1:a.eval (.tmp 25)= .slice An nn cn:=by simp[Act.eval,y6]
   subst ho;unfold Oper.wp;go_simp;refine(Ue An nn cn names w' (HN.out.below hb rr) (by omega)).mono ?_;rintro e w2 ⟨v,rfl,o6,f4⟩;obtain⟨A,c,rfl⟩:=Bg o6;exact⟨_,rfl,⟨_,_,rfl⟩,f4⟩
  ·simp only[List.getElem?_toArray,List.getElem?_cons_zero,List.getElem?_cons_succ,Option.some.injEq]at ho;subst ho;unfold Oper.wp;have b7q:= @run_makeMap Tryz.prog;go_simp;exact⟨_,rfl,⟨_,rfl,m6,World.ownsMap_made w' _ _ _⟩,bel⟩
  ·simp only[List.getElem?_toArray,List.getElem?_cons_zero,List.getElem?_cons_succ,Option.some.injEq]at ho;have hq:=hs.2.1 1 (J2 (by kernel_rfl));have e1:a.eval (.tmp 1)= .slice Ar nr cr:=by simp[Act.eval,hq]
   subst ho;unfold Oper.wp;go_simp;exact⟨_,rfl,by show Value.slice Ar nr cr= .slice Ar rs.length cr;rw[f1.out],Below.refl _ _⟩
  ·simp only[List.getElem?_toArray,List.getElem?_cons_zero,List.getElem?_cons_succ,Option.some.injEq]at ho;obtain⟨v3,u9,p2⟩:=hs.1 3 (by rw[←ho];exact⟨_,Array.mem_of_getElem? (i:=0) rfl,rfl,rfl⟩);have y3:=p2 28 (by rfl) (by simp);obtain rfl:v3= .slice Ar rs.length cr:=u9;have e1:a.eval (.tmp 28)= .slice Ar rs.length cr:=by simp[Act.eval,y3]
   have s6:=HR.out;rw[←f1.out]at s6;subst ho;unfold Oper.wp;go_simp;refine(Mj Ar rs.length cr rs w' (s6.below hb rr) (by rw[f1.out];omega)).mono ?_;rintro e w2 ⟨v,rfl,o6,f4⟩;obtain⟨A,c,rfl⟩:=Bg o6;exact⟨_,rfl,⟨A,c,rfl,Tn o6 m6⟩,f4⟩
  ·simp only[List.getElem?_toArray,List.getElem?_cons_zero,List.getElem?_cons_succ,Option.some.injEq]at ho;have hq:=hs.2.1 6 (J2 (by kernel_rfl));have e1:a.eval (.tmp 6)= .int .i64 (nn:Int):=by simp[Act.eval,hq]
   subst ho;unfold Oper.wp;go_simp;exact⟨_,rfl,rfl,Below.refl _ _⟩
  ·simp only[List.getElem?_toArray,List.getElem?_cons_zero,List.getElem?_cons_succ,Option.some.injEq]at ho;obtain⟨v5,m2,p3⟩:=hs.1 5 (by rw[←ho];exact⟨_,Array.mem_of_getElem? (i:=0) rfl,rfl,rfl⟩);have b0q:=p3 30 (by rfl) (by simp);obtain rfl:v5= .int .i64 (nn:Int):=m2;have e1:a.eval (.tmp 30)= .int .i64 (nn:Int):=by simp[Act.eval,b0q]
   have i5:=fun w=>run_make_row' (P:=Tryz.prog) 97 110 (.slice none 0 0) 24 Tryz.underlying97 Wz rfl .i64 .i64 nn (by omega) (by omega) w
   have q0:nn<=maxLen:=by unfold maxLen;omega
   subst ho;unfold Oper.wp;simp only[i5];go_simp;exact⟨_,rfl,⟨_,rfl,m6,by rw[Ww];exact Ah rfl⟩,bel⟩
  ·simp only[List.getElem?_toArray,List.getElem?_cons_zero,List.getElem?_cons_succ,Option.some.injEq]at ho;obtain⟨v1,x9,p8⟩:=hs.1 1 (by rw[←ho];exact⟨_,Array.mem_of_getElem? (i:=0) rfl,rfl,rfl⟩);have u6:=p8 26 (by rfl) (by simp);obtain⟨v2,b2q,q8⟩:=hs.1 2 (by rw[←ho];exact⟨_,Array.mem_of_getElem? (i:=1) rfl,rfl,rfl⟩);have a5q:=q8 27 (by rfl) (by simp);obtain⟨v4,a8q,q9⟩:=hs.1 4 (by rw[←ho];exact⟨_,Array.mem_of_getElem? (i:=2) rfl,rfl,rfl⟩);have a1q:=q9 29 (by rfl) (by simp);obtain⟨v6,x2,q5⟩:=hs.1 6 (by rw[←ho];exact⟨_,Array.mem_of_getElem? (i:=3) rfl,rfl,rfl⟩);have x1:=q5 31 (by rfl) (by simp);obtain⟨A1,c1,rfl⟩:=x9;obtain⟨mb,rfl,r5,r7⟩:=b2q;obtain⟨A4,c4,rfl,r3⟩:=a8q;obtain⟨q,rfl,r0,m3⟩:=x2;have e1:a.eval (.tmp 26)= .slice A1 nn c1:=by simp[Act.eval,u6]
   have e2:a.eval (.tmp 27)= .map (some mb):=by simp[Act.eval,a5q]
   have e3:a.eval (.tmp 29)= .slice A4 rs.length c4:=by simp[Act.eval,a1q]
   have e4:a.eval (.tmp 31)= .slice (some ⟨q,0,none⟩) nn nn:=by simp[Act.eval,x1]
   subst ho;unfold Oper.wp;go_simp;exact⟨_,rfl,⟨_,_,_,_,_,_,rfl,r5,r7,r3,r0,m3⟩,Below.refl _ _⟩
  ·simp only[List.getElem?_toArray,List.getElem?_cons_zero,List.getElem?_cons_succ,Option.some.injEq]at ho;obtain⟨v7,z9,r4⟩:=hs.1 7 (by rw[←ho];exact⟨_,Array.mem_of_getElem? (i:=0) rfl,rfl,rfl⟩);have b1q:=r4 32 (by rfl) (by simp);obtain⟨A1,c1,mb,A4,c4,q,rfl,r5,r7,r3,r0,m3⟩:=z9;have e1:a.eval (.tmp 32)= .agg #[.slice A1 nn c1, .map (some mb), .slice A4 rs.length c4, .slice (some ⟨q,0,none⟩) nn nn]:=by simp[Act.eval,b1q]
   subst ho;unfold Oper.wp;go_simp;have hz:Below w'.heap.size w' (w'.alloc (.cells #[.slice A1 nn c1, .map (some mb), .slice A4 rs.length c4, .slice (some ⟨q,0,none⟩) nn nn] 99)):=(Below.refl _ w').alloc rr _;exact⟨_,rfl,⟨w'.heap.size,A1,c1,mb,A4,c4,q,rfl,⟨m6,r5,r0⟩,Ah rfl,Vp r3 hz,Hu r7 hz,(hz.block q (lt_of_block m3)).trans m3⟩,hz⟩
  ·simp only[List.getElem?_toArray,List.getElem?_cons_zero,List.getElem?_cons_succ,Option.some.injEq]at ho;obtain⟨v8,y9,p7⟩:=hs.1 8 (by rw[←ho];exact⟨_,Array.mem_of_getElem? (i:=0) rfl,rfl,rfl⟩);have b3q:=p7 33 (by rfl) (by simp);obtain⟨b,A1,c1,mb,A4,c4,q,rfl,i5⟩:=y9;have e1:a.eval (.tmp 33)= .pointer (some ⟨b,0,none⟩):=by simp[Act.eval,b3q]
   subst ho;unfold Oper.wp;go_simp;exact⟨_,rfl,⟨b,A1,c1,mb,A4,c4,q,rfl,i5⟩,Below.refl _ _⟩
 case hrest=>
  intro vs W1 j1 t3;obtain⟨b,A1,c1,mb,A4,c4,q,e9,i5⟩:=j1 9 (by decide);simp only[Ei,Du,List.size_toArray,List.length_cons,List.length_nil,List.getElem?_toArray,List.getElem?_cons_zero,List.getElem?_cons_succ,Option.bind_some,Option.map_some,e9];have a2:Hid (Mk w.heap.size b mb q nn A1 c1 A4 c4 rs W1):=i5;have u3:=hI t3;clear i5 t3 j1 e9;generalize vs 0=z0,vs 1=z1,vs 2=z2,vs 3=z3,vs 4=z4,vs 5=z5,vs 6=z6,vs 7=z7,vs 8=z8;clear vs;go_simp;go_wp2_with fail;have t0:Hid (Jz (.map []) []):=Wv;have t9:=hI a2.out.mp
  go_loopw [36] (fun i wr=>∃(k:Nat) (D:DataW Unit),k<=nn/\i= .int .i64 (k:Int)/\Hid (wr.ownsMap Tryz.prog 9 (plainElem (H:=Unit) Tryz.prog 3) mb k D)/\Hid (Jz D (names.take k))/\Hid (D8 [] names=D8 (names.take k) (names.drop k))/\Hid (Ag (fun j=>j=mb) W1 wr)) (fun i _=>nn-(intOf i).toNat)
  case atStart=>exact⟨0, .map [],Nat.zero_le _,rfl,t9.out,t0.out,rfl,Ag.refl _ _⟩
  case round=>
   obtain⟨k,D,hk,rfl,HD,HS,HE,HK⟩:=hrel;clear t9 t0;have j5:Below w.heap.size w wr:=u3.out.trans (HK.out.to_below (fun j e=>by have:=a2.out.lo;omega) u3.out.size);have a8:=hI j5;clear j5;by_cases hlt:k<nn
   ·have d5q:(k:Int)<(nn:Int):=by omega
    obtain⟨s,hs⟩:∃s,names[k]? =some s:=⟨names[k]'(by rw[i4.out];exact hlt),List.getElem?_eq_getElem _⟩;obtain⟨ga,oa,hA,x7,i0⟩:=(HN.out.below a8.out rr).2.2.2.2 (by omega);subst hA;have b9q:=i0 k (.string s) (by rw[List.getElem?_map,hs];rfl);have b3:=hI (Zp hs);have u7:Hid (names.take (k+1)=names.take k++[s]):=by show _=_;rw[List.take_add_one,hs];rfl
    clear i0 hs;by_cases h0:s.toList=[]
    ·have hv:Hid (Dy s=false):=by show _=_;simp[Dy,h0]
     have a5:D8 [] names=15:=by rw[HE.out,b3.out,if_pos hv.out]
     have g6:Hid (Fc names rs=15):=by show _=_;rw[HV.out,a5];rfl
     clear a5;go_wp2
     go_ret2
     exact El.bad g6.out (by decide) a8.out
    by_cases h24:s.size<=24
    case neg=>
     have p6:(s.size:Int)>24:=by omega
     have s9:s.toList.isEmpty=false:=by simpa using h0
     have hv:Hid (Dy s=false):=by show _=_;simp[Dy,h24]
     have a5:D8 [] names=15:=by rw[HE.out,b3.out,if_pos hv.out]
     have g6:Hid (Fc names rs=15):=by show _=_;rw[HV.out,a5];rfl
     clear a5;go_wp2
     go_ret2
     exact El.bad g6.out (by decide) a8.out
    have p6:¬(24:Int)<(s.size:Int):=by omega
    have s9:s.toList.isEmpty=false:=by simpa using h0
    obtain⟨r,hr⟩:∃r:ByteArray,r=⟨(Lib.trimS s.data.toList letters).toArray⟩:=⟨_,rfl⟩;have s7:=hI (Zc s wr (by omega));rw[←hr]at s7
    have q0:Dy s=r.toList.isEmpty:=by
     rw[hr,Lib.toList_data ⟨(Lib.trimS s.data.toList letters).toArray⟩];simp[Dy,s9,h24]
    have s2:=hI q0;clear q0 hr
    have p0:b≠mb:=fun e=>by
     obtain⟨es,clock,h1,_⟩:=a2.out.mp;have h2:=a2.out.blk;rw[e,h1]at h2;cases h2
    go_wp2_with fail;refine s7.out.mono ?_;rintro e w2 ⟨rfl,f4⟩;have u0:=hI (a8.out.trans (f4.mono a8.out.size));have s1:=hI (Hu HD.out f4);have t7:Hid (Ag (fun j=>j=mb) W1 w2):=HK.out.trans (Au f4);clear f4 HK HD a8;by_cases m7:r.toList=[]
    case neg=>
     have f9:r.toList.isEmpty=false:=by simpa using m7
     have a5:D8 [] names=15:=by rw[HE.out,b3.out,if_pos (by rw[s2.out];exact f9)]
     have g6:Hid (Fc names rs=15):=by show _=_;rw[HV.out,a5];rfl
     clear a5;go_wp2
     go_ret2
     exact El.bad g6.out (by decide) u0.out
    have f9:r.toList.isEmpty=true:=by simpa using m7
    have cb:=Aa (j:=1) ((t7.out.block b (lt_of_block a2.out.blk) p0).trans a2.out.blk) rfl;obtain⟨v,pz,f2, -⟩:=s1.out.look_ok (string_keyed Tryz.underlying9) Tryz.underlying96 (Tryz.zeroValue3 w2) (plainElem_int Tryz.underlying3 (by decide)) (Vq s h24);rw[HS.out.2 s]at f2
    have o7:Hid (D8 [] names=if(names.take k).any (fun x=>decide (x=s))then 6 else D8 (names.take (k+1)) (names.drop (k+1))):=by
     show _=_;rw[HE.out,b3.out,if_neg (by rw[s2.out,f9];decide)]
    obtain⟨tk,k0⟩:∃tk,tk=(names.take k).any (fun x=>decide (x=s)):=⟨_,rfl⟩;rw[←k0]at f2 o7;clear k0
    cases tk with
    |true=>
     have g6:Hid (Fc names rs=6):=by show _=_;rw[HV.out,o7.out];rfl
     go_wp2
     go_ret2
     exact El.bad g6.out (by decide) u0.out
    |false=>
     obtain⟨w3,a2q,u1,i7⟩:=s1.out.update (string_keyed Tryz.underlying9) Tryz.underlying96 (show k<maxLen by unfold maxLen;omega) (Vq s h24) (plainElem_int (a:=(k:Int)) Tryz.underlying3 (WalkArith.wf_i64 (by omega)));have x5:=hI u1;have u8:Hid (Ag (fun j=>j=mb) W1 w3):=t7.out.trans ⟨i7.os,i7.tape,i7.output,i7.size,fun j hj hn=>i7.block j hj (fun e=>hn (by injection e))⟩
     have y7:Hid (Jz (D.put (Ud s) (.lit (.int .i64 (k:Int)))) (names.take (k+1))):=by show Jz _ _;rw[u7.out];exact Zg HS.out
     clear u1 i7;go_wp2_with fail;refine⟨⟨k+1,_,by omega,by go_num,x5.out,y7.out,o7.out,u8.out⟩, ?_⟩;simp[intOf];omega
   ·obtain rfl:k=nn:=by omega
    have u4:Hid (D8 [] names=0):=by
     show _=_;rw[HE.out,List.drop_of_length_le (by rw[i4.out];exact rr)];rfl
    have g8:Hid (Fc names rs=Dt k [] rs):=by show _=_;rw[HV.out,u4.out,if_neg (by simp),i4.out]
    clear HV HE u4 HS HD
    have x6:q≠mb:=fun e=>by
     obtain⟨es,clock,h1,_⟩:=a2.out.mp;have h2:=a2.out.nr;rw[e,h1]at h2;cases h2
    have p0:b≠mb:=fun e=>by
     obtain⟨es,clock,h1,_⟩:=a2.out.mp;have h2:=a2.out.blk;rw[e,h1]at h2;cases h2
    have i8:b≠q:=fun e=>by
     have h1:=a2.out.nr;have h2:=a2.out.blk;rw[e,h1]at h2;injection h2 with h2
     injection h2 with _ h2 _
     revert h2
     decide
    obtain⟨d2q,d0q,b8q⟩:=a2.out.lo
    have m8:Hid (Gd wr.heap.size q k (fun _=> .slice none 0 0) (fun _=>[]) wr):=
     ⟨Nat.lt_of_lt_of_le (lt_of_block a2.out.nr) HK.out.size,(HK.out.block q (lt_of_block a2.out.nr) x6).trans a2.out.nr,fun v _=>World.ownsRow_nil _ _ _ _,fun u v _ _ _ i e=>(by cases e),rr⟩
    have i3:Hid (wr.heap[b]? =some (.cells #[.slice A1 k c1, .map (some mb), .slice A4 rs.length c4, .slice (some ⟨q,0,none⟩) k k] 99 (0,0))):=(HK.out.block b (lt_of_block a2.out.blk) p0).trans a2.out.blk
    have i6:Hid (wr.ownsRow w.heap.size 64 3 (.slice A4 rs.length c4) rs.length (rs.flatMap Hj)):=Be a2.out.rd fun i e=>HK.out.block i (a2.out.rd.lt i e).2 (fun e'=>by
     obtain⟨es,clock,h1,_⟩:=a2.out.mp;rcases a2.out.rd.2 with⟨h2,_⟩|⟨g,cap,cur,h2,_,h3,_⟩
     ·rw[h2]at e;cases e
     ·rw[h2]at e;obtain rfl:g=i:=Option.some.inj e;rw[e',h1]at h3;cases h3)
    have t1:Hid (wr.heap[q]? =some (.cells (Hc k fun _=> .slice none 0 0) 110 (0,0))):=m8.out.blk;obtain⟨WN,u2⟩:∃WN,WN=wr:=⟨_,rfl⟩;rw[←u2]at m8 i3 i6 a8 t1;have g9:=lt_of_block i3.out;go_wp2_with fail;clear a2 HK;subst u2
    go_loopw [72] (fun i wr=>∃(j:Nat) (val:Nat->Value),j<=nr/\i= .int .i64 (j:Int)/\Hid (Gd WN.heap.size q k val (Cp ((rs.take j).map B5)) wr)/\Hid (Dt k [] rs=Dt k ((rs.take j).map B5) (rs.drop j))/\Hid (Eg k ((rs.take j).map B5))/\Hid (∀r∈rs.take j,Dq (B5 r)=r)/\Hid (Ag (fun i=>i=q) WN wr)) (fun i _=>nr-(intOf i).toNat)
    case atStart=>exact⟨0,_,Nat.zero_le _,rfl,m8.out.eq fun v _=>rfl,rfl,⟨fun r hr=>by simp at hr,by simp⟩,fun r hr=>by simp at hr,Ag.refl _ _⟩
    case round=>
     obtain⟨j,val,hj,rfl,f3,HE,j0,j2,HK⟩:=hrel;clear m8;have j5:Below w.heap.size w wr:=a8.out.trans (HK.out.to_below (fun i e=>by omega) a8.out.size);have HB:=hI j5;clear j5;by_cases hlt:j<nr
     ·have d4q:(j:Int)<(nr:Int):=by omega
      obtain⟨r,o4⟩:∃r,rs[j]? =some r:=⟨rs[j]'(by rw[f1.out];exact hlt),List.getElem?_eq_getElem _⟩;obtain⟨ga,oa,hA,x7,i0⟩:=(HR.out.below HB.out rr).at_ Qd (by decide) o4;subst hA;have b3:=hI (Zj (n:=k) (done:=(rs.take j).map B5) o4);have r6:Hid (rs.take (j+1)=rs.take j++[r]):=by show _=_;rw[List.take_add_one,o4];rfl
      obtain⟨ra,rb,rl⟩:=r;have d0:=i0 0 _ rfl;have d1:=i0 1 _ rfl;have d2:=i0 2 _ rfl;simp only[Nat.add_zero,←Nat.add_assoc]at d0 d1 d2;clear i0 o4;have j8:Hid (Below w.heap.size w (wr.alloc (.cells #[.int .i64 ra, .int .i64 rb, .int .i64 rl] 64))):=HB.out.alloc HB.out.size _;by_cases g1:min ra rb<0
      ·have b1:Hid (Fc names rs=3):=by show _=_;rw[g8.out,HE.out,b3.out,if_pos (.inl g1)]
       go_wp2
       go_ret2
       exact El.bad b1.out (by decide) j8.out
      by_cases g2:(k:Int)<=max ra rb
      ·have b1:Hid (Fc names rs=3):=by show _=_;rw[g8.out,HE.out,b3.out,if_pos (.inr g2)]
       go_wp2
       go_ret2
       exact El.bad b1.out (by decide) j8.out
      by_cases g3:ra=rb
      ·have b1:Hid (Fc names rs=9):=by show _=_;rw[g8.out,HE.out,b3.out,if_neg (by simp only;omega),if_pos g3]
       have g3':(ra==rb)=true:=by simpa using g3
       clear g3;go_wp2
       go_ret2
       exact El.bad b1.out (by decide) j8.out
      have g3':(ra==rb)=false:=by simpa using g3
      by_cases g4:rl<1
      ·have b1:Hid (Fc names rs=2):=by show _=_;rw[g8.out,HE.out,b3.out,if_neg (by simp only;omega),if_neg g3,if_pos (.inl g4)]
       go_wp2
       go_ret2
       exact El.bad b1.out (by decide) j8.out
      by_cases g5:rl>1073741824
      ·have b1:Hid (Fc names rs=2):=by show _=_;rw[g8.out,HE.out,b3.out,if_neg (by simp only;omega),if_neg g3,if_pos (.inr g5)]
       go_wp2
       go_ret2
       exact El.bad b1.out (by decide) j8.out
      obtain⟨a,rfl⟩:∃a:Nat,ra=a:=⟨ra.toNat,by omega⟩;obtain⟨c,rfl⟩:∃c:Nat,rb=c:=⟨rb.toNat,by omega⟩;obtain⟨l,rfl⟩:∃l:Nat,rl=l:=⟨rl.toNat,by omega⟩;have b4:a<k:=by omega
      have d8:c<k:=by omega
      have o8:a≠c:=by omega
      have y2:(a:Int)<(k:Int):=by omega
      have x0:(c:Int)<(k:Int):=by omega
      have g5':¬(1073741824:Int)<(l:Int):=by omega
      have d4:Hid (Dt k [] rs=if((rs.take j).map B5).any (fun s=>Df s a c)then 6 else Dt k ((rs.take j).map B5++[(a,c,l)]) (rs.drop (j+1))):=by
       show _=_;rw[HE.out,b3.out,if_neg (by simp only;omega),if_neg g3,if_neg (by simp only;omega)];rfl
      clear b3 HE g3;go_wp2_with fail;have kx:(wr.alloc (.cells #[.int .i64 (a:Int), .int .i64 (c:Int), .int .i64 (l:Int)] 64)).heap[wr.heap.size]? =some (.cells #[.int .i64 (a:Int), .int .i64 (c:Int), .int .i64 (l:Int)] 64 (0,0)):=Ah rfl;have kb:Below wr.heap.size wr (wr.alloc (.cells #[.int .i64 (a:Int), .int .i64 (c:Int), .int .i64 (l:Int)] 64)):=(Below.refl _ wr).alloc rr _;obtain⟨X,hX⟩:∃X,X=wr.heap.size:=⟨_,rfl⟩;rw[←hX]at kx ⊢;clear hX;have i2:=hI (f3.out.below kb);have o2:Hid (Ag (fun i=>i=q) WN (wr.alloc (.cells #[.int .i64 (a:Int), .int .i64 (c:Int), .int .i64 (l:Int)] 64))):=HK.out.trans (Au kb);have f7:=hI kx;generalize wr.alloc (.cells #[.int .i64 (a:Int), .int .i64 (c:Int), .int .i64 (l:Int)] 64)=V at*;clear kx kb f3 HK d0 d1 d2;obtain⟨Av,cv,q4⟩:=Bg (i2.out.own a b4)
      have o1:Hid (Ek V Av (Cp ((rs.take j).map B5) a).length cv (Cp ((rs.take j).map B5) a)):=by
       have h:=i2.out.own a b4;rw[q4]at h;exact⟨Am.of_own h (by decide),rfl⟩
      obtain⟨done,b6⟩:∃done,done=(rs.take j).map B5:=⟨_,rfl⟩;rw[←b6]at i2 o1 d4 j0;have m5:=hI b6;clear b6;obtain⟨na,q2⟩:∃na,na=(Cp done a).length:=⟨_,rfl⟩;rw[←q2]at o1;have cb:=Aa (j:=3) ((o2.out.block b g9 i8).trans i3.out) rfl;have cx0:=Aa (j:=0) f7.out rfl;have cq:=Je i2.out.blk b4;have cq:V.cell? ⟨q,a,none⟩=some (.slice Av na cv):=by rw[cq,q4,q2,m5.out]
      clear q2;refine Br (fun W'=>W'.cell? ⟨b,3,none⟩=some (.slice (some ⟨q,0,none⟩) k k)/\W'.cell? ⟨X,0,none⟩=some (.int .i64 (a:Int))/\W'.cell? ⟨q,a,none⟩=some (.slice Av na cv)) (by kernel_rfl) ⟨cb,cx0,cq⟩ (fun hHeld=> ?_)
      (refine' Ab 0 rfl ?_;(try simp only[Act.put,nY,nX]));(refine' Ab 1 rfl ?_;(try simp only[Act.put,nY,nX]));(refine' Ab 2 rfl ?_;(try simp only[Act.put,nY,nX]));(refine' Ab 3 rfl ?_;(try simp only[Act.put,nY,nX]));(refine' Ab 4 rfl ?_;(try simp only[Act.put,nY,nX]));(refine' Ab 5 rfl ?_;(try simp only[Act.put,nY,nX]));(refine' Ab 6 rfl ?_;(try simp only[Act.put,nY,nX]));(refine' Ab 7 rfl ?_;(try simp only[Act.put,nY,nX]));(refine' Ab 8 rfl ?_;(try simp only[Act.put,nY,nX]))
      (refine Aeu 9 rfl (fun K' hK'=> ?_);simp only[nY];go_simp)
      have r8:Below V.heap.size V V.drew:=(Below.refl _ _).drew;have j4:=Ze (rs:=done) o8;refine(Yy Av na cv (Cp done a) 54 #[.pointer (some ⟨X,0,none⟩)] (fun s=>decide ((s.1:Int)=(c:Int))) V.drew (Dg.below o1.out r8 rr) (enters_of Tryz.func54 (by kernel_rfl) rfl) (fun W hW s _=>Ado s ((a:Int),(c:Int),(l:Int)) X W ((hW.block X (lt_of_block f7.out)).trans f7.out))).mono ?_
      rw[show(fun s:Nat×Nat=>decide ((s.1:Int)=(c:Int)))=fun s=>decide (s.1=c)from funext fun s=>by by_cases e:s.1=c<;>simp[e]<;>omega,j4]
      clear j4;obtain⟨tt,q6⟩:∃tt,tt=done.any fun s=>Df s a c:=⟨_,rfl⟩
      rw[←q6]at d4 ⊢;have t6:=hI q6;rintro e U ⟨rfl,m0⟩;have f0:=r8.trans m0;have b2:=hI (i2.out.below f0);have k5:Hid (Ag (fun i=>i=q) WN U):=o2.out.trans (Au f0);have b7:=hI ((f0.block X (lt_of_block f7.out)).trans f7.out);refine hK' _ _ ⟨.inr ⟨(m0.cell (p:=⟨b,3,none⟩) (by have:=o2.out.size;show b<_;exact Nat.lt_of_lt_of_le g9 this)).trans hHeld.1,(m0.cell (p:=⟨X,0,none⟩) (lt_of_block f7.out)).trans hHeld.2.1,(m0.cell (p:=⟨q,a,none⟩) (lt_of_block i2.out.blk)).trans hHeld.2.2⟩,fun _=> ?_⟩
      clear hK' K' m0 f0 r8 hHeld q6 o1 i2 o2 f7 cb cx0 cq q4
      (try simp only[Act.put,nY,nX])
      (refine Aeu 10 rfl (fun K' hK'=> ?_);simp only[nY];go_simp)
      refine hK' _ _ ⟨.inl (by kernel_rfl),fun _=>Bc (by kernel_rfl) ?_ _⟩
      clear hK' K'
      cases tt with
      |true=>
       have b1:Hid (Fc names rs=6):=by show _=_;rw[g8.out,d4.out];rfl
       have a0q:Hid (Below w.heap.size w U):=a8.out.trans (k5.out.to_below (fun i e=>by omega) a8.out.size);go_wp2
       go_ret2
       exact El.bad b1.out (by decide) a0q.out
      |false=>
       have r2:∀v,(Cp done v).length<=512:=fun v=>by
        have h1:(Cp done v).length<=done.length:=List.length_filterMap_le _ _;have h2:done.length<=j:=by rw[m5.out,List.length_map,List.length_take];omega
        omega
       obtain⟨AvA,cvA,m9⟩:=Bg (b2.out.own a b4);have cbA:=Aa (j:=3) ((k5.out.block b g9 i8).trans i3.out) rfl;have cx0A:=Aa (j:=0) b7.out rfl;have cx1A:=Aa (j:=1) b7.out rfl;have cx2A:=Aa (j:=2) b7.out rfl;have cqA:=Je b2.out.blk b4;rw[m9]at cqA
       have d9:Hid (∀W':World,(∀i,i<U.heap.size->(val a).ownBlock≠some i->W'.heap[i]? =U.heap[i]?)->W'.cell? ⟨b,3,none⟩=some (.slice (some ⟨q,0,none⟩) k k)/\W'.cell? ⟨X,0,none⟩=some (.int .i64 (a:Int))/\W'.cell? ⟨X,1,none⟩=some (.int .i64 (c:Int))/\W'.cell? ⟨X,2,none⟩=some (.int .i64 (l:Int))/\W'.cell? ⟨q,a,none⟩=some (.slice AvA ((Cp done) a).length cvA)):=by
        intro W' h;have k7:∀i,(val a).ownBlock=some i->WN.heap.size<=i:=fun i e=>((b2.out.own a b4).lt i e).1
        have s3:=b2.out.qB;have a6q:=k5.out.size;have eb:=h b (by omega) (fun e=>by have:=k7 b e;omega);have eq:=h q (by omega) (fun e=>by have:=k7 q e;omega)
        have ex:=h X (lt_of_block b7.out) (fun e=>by
         rcases(b2.out.own a b4).2 with⟨h2,_⟩|⟨g,cap,cur,h2,_,h3,_⟩
         ·rw[h2]at e;cases e
         ·rw[h2]at e;obtain rfl:g=X:=Option.some.inj e;have h4:=b7.out;rw[h3]at h4;injection h4 with h4
          injection h4 with _ h4 _
          revert h4
          decide)
        exact⟨(Bz eb 3).trans cbA,(Bz ex 0).trans cx0A,(Bz ex 1).trans cx1A,(Bz ex 2).trans cx2A,(Bz eq a).trans cqA⟩
       go_wp2_with fail;refine Br (fun W'=>W'.cell? ⟨b,3,none⟩=some (.slice (some ⟨q,0,none⟩) k k)/\W'.cell? ⟨X,0,none⟩=some (.int .i64 (a:Int))/\W'.cell? ⟨X,1,none⟩=some (.int .i64 (c:Int))/\W'.cell? ⟨X,2,none⟩=some (.int .i64 (l:Int))/\W'.cell? ⟨q,a,none⟩=some (.slice AvA ((Cp done) a).length cvA)) (by kernel_rfl) ⟨cbA,cx0A,cx1A,cx2A,cqA⟩ (fun hHeld=> ?_)
       clear cbA cx0A cx1A cx2A cqA
       (refine' Ab 0 rfl ?_;(try simp only[Act.put,nY,nX]));(refine' Ab 1 rfl ?_;(try simp only[Act.put,nY,nX]));(refine' Ab 2 rfl ?_;(try simp only[Act.put,nY,nX]));(refine' Ab 3 rfl ?_;(try simp only[Act.put,nY,nX]));(refine' Ab 4 rfl ?_;(try simp only[Act.put,nY,nX]));(refine' Ab 5 rfl ?_;(try simp only[Act.put,nY,nX]));(refine' Ab 6 rfl ?_;(try simp only[Act.put,nY,nX]));(refine' Ab 7 rfl ?_;(try simp only[Act.put,nY,nX]));(refine' Ab 8 rfl ?_;(try simp only[Act.put,nY,nX]));(refine' Ab 9 rfl ?_;(try simp only[Act.put,nY,nX]));(refine' Ab 10 rfl ?_;(try simp only[Act.put,nY,nX]));(refine' Ab 11 rfl ?_;(try simp only[Act.put,nY,nX]));(refine' Ab 12 rfl ?_;(try simp only[Act.put,nY,nX]));(refine' Ab 13 rfl ?_;(try simp only[Act.put,nY,nX]));(refine' Ab 14 rfl ?_;(try simp only[Act.put,nY,nX]));(refine' Ab 15 rfl ?_;(try simp only[Act.put,nY,nX]));(refine' Ab 16 rfl ?_;(try simp only[Act.put,nY,nX]));(refine' Ab 17 rfl ?_;(try simp only[Act.put,nY,nX]));(refine' Ab 18 rfl ?_;(try simp only[Act.put,nY,nX]))
       clear hHeld
       (refine Aeu 19 rfl (fun K' hK'=> ?_);simp only[nY];go_simp)
       have g7:Below U.heap.size U U.drew:=(Below.refl _ _).drew;have y5:∀u:Nat,u<2→∀v,[Value.int .i64 (c:Int),Value.int .i64 (l:Int)][u]? =some v->(U.drew.alloc (.cells #[.int .i64 (c:Int), .int .i64 (l:Int)] 112)).cell? ⟨U.drew.heap.size,u,none⟩=some v:=fun u _ v hv=>C0 (by simpa using hv)
       have a4:Below U.heap.size U (U.drew.alloc (.cells #[.int .i64 (c:Int), .int .i64 (l:Int)] 112)):=g7.alloc g7.size _;have b0:=hI (b2.out.below a4);refine hK' _ _ ⟨.inr (d9.out _ fun i h _=>a4.block i h),fun _=> ?_⟩
       clear hK' K'
       (try simp only[Act.put,nY,nX])
       have k8:((Cp done) a).length<=512:=r2 a;obtain⟨nlA,d3⟩:∃x,x=((Cp done) a).length:=⟨_,rfl⟩;have o7A:=b0.out.own a b4;rw[m9,←d3]at o7A;rw[←d3]at k8 d9 ⊢;have j9:=b0.out.sz;refine Aeu 20 rfl (fun K' hK'=> ?_);rw[if_pos (by rfl)]
       refine Bs (.tmp 131) (.tmp 137) 110 rfl WN.heap.size 112 (.agg #[.int .i64 0, .int .i64 0]) 2 16 Tryz.underlying110 Sj rfl (by decide) (.slice AvA nlA cvA) nlA (((Cp done) a).flatMap Hm) (by rfl) o7A ⟨U.drew.heap.size,0,none⟩ 1 1 [.int .i64 (c:Int), .int .i64 (l:Int)] (by rfl) rfl
        (fun u v hv=>by
         match u,hv with
         |0,hv=>simpa[Addr.add]using hv
         |1,hv=>simpa[Addr.add]using hv
         |u+2,hv=>simp at hv) (by intro u hu;simp at hu;rcases hu with rfl|rfl<;>rfl) (by unfold maxLen;omega) (by omega) j9 ?_
       intro v' X2 a7 a6 _ i1;have j6:val a= .slice AvA nlA cvA:=by rw[m9,d3]
       rw[←j6]at a6 i1;have o0:=d9.out X2 fun i h1 h2=>(a6.block i (Nat.lt_of_lt_of_le h1 a4.size) (fun e=>h2 e.symm)).trans (a4.block i h1)
       have b9:=b0.out.push b4 (p:=(c,l)) (by rw[←d3];exact a7) a6 i1;refine hK' _ _ ⟨.inr o0,fun _=> ?_⟩
       clear hK' K';have k9:X2.heap[q]? =some (.cells (Hc k val) 110 (0,0)):=(a6.block q (lt_of_block b0.out.blk) (fun e=>by have h1:=(b2.out.own a b4).lt q e.symm;have h2:=b2.out.qB;omega)).trans b0.out.blk;have ffA:X2.frozen? ⟨q,a,none⟩=false:=by simp[World.frozen?,k9]
       have cfA:=o0.2.2.2.2;have j7:=o0;have d5:Hid (Ag (fun i=>i=q) WN (X2.setCell ⟨q,a,none⟩ v')):=(((k5.out.below a4 rr).mono (S':=fun i=>i=q\/WN.heap.size<=i) fun i e=> .inl e).grown a6 (fun i e=> .inr ((b2.out.own a b4).lt i e).1) |>.setCell (p:=⟨q,a,none⟩) (.inl rfl) v').old fun i hi e=>e.resolve_right (by omega)
       have a1:Hid ((X2.setCell ⟨q,a,none⟩ v').heap[X]? =some (.cells #[.int .i64 (a:Int), .int .i64 (c:Int), .int .i64 (l:Int)] 64 (0,0))):=by
        refine(Below.heap_setCell _ _ _ _ (by
         intro e;have h1:=b7.out;have h2:=b2.out.blk;rw[show X=q from e,h2]at h1;injection h1 with h1
         injection h1 with _ h1 _
         revert h1
         decide)).trans ((a6.block X (Nat.lt_of_lt_of_le (lt_of_block b7.out) a4.size) (fun e=> ?_)).trans ((a4.block X (lt_of_block b7.out)).trans b7.out))
        rcases(b2.out.own a b4).2 with⟨h2,_⟩|⟨g,cap,cur,h2,_,h3,_⟩
        ·rw[h2]at e;cases e
        ·rw[h2]at e;obtain rfl:X=g:=Option.some.inj e;have h4:=b7.out;rw[h3]at h4;injection h4 with h4
         injection h4 with _ h4 _
         revert h4
         decide
       have a0:=hI b9;obtain⟨A9A,c9A,rfl⟩:=Bg a7;clear a7 a6 i1 o0 k9 b9 a4 g7 y5 d9 o7A d3 m9 j6
       (try simp only[Act.put,nY,nX])
       (refine Aeu 21 rfl (fun K' hK'=> ?_);simp only[nY];go_simp)
       refine hK' _ _ ⟨.inr j7,fun _=> ?_⟩
       clear hK' K'
       (try simp only[Act.put,nY,nX])
       (refine Aeu 22 rfl (fun K' hK'=> ?_);simp only[nY];go_simp)
       refine hK' _ _ ⟨.inl (by kernel_rfl),fun _=>Bc (by kernel_rfl) ?_ _⟩
       clear hK' K' ffA cfA j7;generalize X2.setCell ⟨q,a,none⟩ (.slice A9A (nlA+1) c9A)=Y at*;obtain⟨val2,f5⟩:∃val2:Nat->Value,val2=fun u=>if u=a then .slice A9A (nlA+1) c9A else val u:=⟨_,rfl⟩
       obtain⟨ls2,d6⟩:∃ls2:Nat->List (Nat×Nat),ls2=fun u=>if u=a then Cp done a++[(c,l)]else Cp done u:=⟨_,rfl⟩
       rw[←f5,←d6]at a0;have t2:(ls2 c).length<=512:=by rw[d6];simp only[if_neg (Ne.symm o8)];exact r2 c
       have u5:=hI d6;clear f5 d6 r2 b2 k5 b7 b0 k8 j9;obtain⟨AvB,cvB,o3⟩:=Bg (a0.out.own c d8);have cbB:=Aa (j:=3) ((d5.out.block b g9 i8).trans i3.out) rfl;have cx0B:=Aa (j:=0) a1.out rfl;have cx1B:=Aa (j:=1) a1.out rfl;have cx2B:=Aa (j:=2) a1.out rfl;have cqB:=Je a0.out.blk d8;rw[o3]at cqB
       have d7:Hid (∀W':World,(∀i,i<Y.heap.size->(val2 c).ownBlock≠some i->W'.heap[i]? =Y.heap[i]?)->W'.cell? ⟨b,3,none⟩=some (.slice (some ⟨q,0,none⟩) k k)/\W'.cell? ⟨X,0,none⟩=some (.int .i64 (a:Int))/\W'.cell? ⟨X,1,none⟩=some (.int .i64 (c:Int))/\W'.cell? ⟨X,2,none⟩=some (.int .i64 (l:Int))/\W'.cell? ⟨q,c,none⟩=some (.slice AvB ((ls2) c).length cvB)):=by
        intro W' h;have k7:∀i,(val2 c).ownBlock=some i->WN.heap.size<=i:=fun i e=>((a0.out.own c d8).lt i e).1
        have s3:=a0.out.qB;have a6q:=d5.out.size;have eb:=h b (by omega) (fun e=>by have:=k7 b e;omega);have eq:=h q (by omega) (fun e=>by have:=k7 q e;omega)
        have ex:=h X (lt_of_block a1.out) (fun e=>by
         rcases(a0.out.own c d8).2 with⟨h2,_⟩|⟨g,cap,cur,h2,_,h3,_⟩
         ·rw[h2]at e;cases e
         ·rw[h2]at e;obtain rfl:g=X:=Option.some.inj e;have h4:=a1.out;rw[h3]at h4;injection h4 with h4
          injection h4 with _ h4 _
          revert h4
          decide)
        exact⟨(Bz eb 3).trans cbB,(Bz ex 0).trans cx0B,(Bz ex 1).trans cx1B,(Bz ex 2).trans cx2B,(Bz eq c).trans cqB⟩
       go_wp2_with fail;refine Br (fun W'=>W'.cell? ⟨b,3,none⟩=some (.slice (some ⟨q,0,none⟩) k k)/\W'.cell? ⟨X,0,none⟩=some (.int .i64 (a:Int))/\W'.cell? ⟨X,1,none⟩=some (.int .i64 (c:Int))/\W'.cell? ⟨X,2,none⟩=some (.int .i64 (l:Int))/\W'.cell? ⟨q,c,none⟩=some (.slice AvB ((ls2) c).length cvB)) (by kernel_rfl) ⟨cbB,cx0B,cx1B,cx2B,cqB⟩ (fun hHeld=> ?_)
       clear cbB cx0B cx1B cx2B cqB
       (refine' Ab 0 rfl ?_;(try simp only[Act.put,nY,nX]));(refine' Ab 1 rfl ?_;(try simp only[Act.put,nY,nX]));(refine' Ab 2 rfl ?_;(try simp only[Act.put,nY,nX]));(refine' Ab 3 rfl ?_;(try simp only[Act.put,nY,nX]));(refine' Ab 4 rfl ?_;(try simp only[Act.put,nY,nX]));(refine' Ab 5 rfl ?_;(try simp only[Act.put,nY,nX]));(refine' Ab 6 rfl ?_;(try simp only[Act.put,nY,nX]));(refine' Ab 7 rfl ?_;(try simp only[Act.put,nY,nX]));(refine' Ab 8 rfl ?_;(try simp only[Act.put,nY,nX]));(refine' Ab 9 rfl ?_;(try simp only[Act.put,nY,nX]));(refine' Ab 10 rfl ?_;(try simp only[Act.put,nY,nX]));(refine' Ab 11 rfl ?_;(try simp only[Act.put,nY,nX]));(refine' Ab 12 rfl ?_;(try simp only[Act.put,nY,nX]));(refine' Ab 13 rfl ?_;(try simp only[Act.put,nY,nX]));(refine' Ab 14 rfl ?_;(try simp only[Act.put,nY,nX]));(refine' Ab 15 rfl ?_;(try simp only[Act.put,nY,nX]));(refine' Ab 16 rfl ?_;(try simp only[Act.put,nY,nX]));(refine' Ab 17 rfl ?_;(try simp only[Act.put,nY,nX]));(refine' Ab 18 rfl ?_;(try simp only[Act.put,nY,nX]))
       clear hHeld
       (refine Aeu 19 rfl (fun K' hK'=> ?_);simp only[nY];go_simp)
       have f8:Below Y.heap.size Y Y.drew:=(Below.refl _ _).drew;have x8:∀u:Nat,u<2→∀v,[Value.int .i64 (a:Int),Value.int .i64 (l:Int)][u]? =some v->(Y.drew.alloc (.cells #[.int .i64 (a:Int), .int .i64 (l:Int)] 112)).cell? ⟨Y.drew.heap.size,u,none⟩=some v:=fun u _ v hv=>C0 (by simpa using hv)
       have a3:Below Y.heap.size Y (Y.drew.alloc (.cells #[.int .i64 (a:Int), .int .i64 (l:Int)] 112)):=f8.alloc f8.size _;have a9:=hI (a0.out.below a3);refine hK' _ _ ⟨.inr (d7.out _ fun i h _=>a3.block i h),fun _=> ?_⟩
       clear hK' K'
       (try simp only[Act.put,nY,nX])
       have i9:((ls2) c).length<=512:=t2;obtain⟨nlB,b5⟩:∃x,x=((ls2) c).length:=⟨_,rfl⟩;have o7B:=a9.out.own c d8;rw[o3,←b5]at o7B;rw[←b5]at i9 d7 ⊢;have k4:=a9.out.sz;refine Aeu 20 rfl (fun K' hK'=> ?_);rw[if_pos (by rfl)]
       refine Bs (.tmp 153) (.tmp 159) 110 rfl WN.heap.size 112 (.agg #[.int .i64 0, .int .i64 0]) 2 16 Tryz.underlying110 Sj rfl (by decide) (.slice AvB nlB cvB) nlB (((ls2) c).flatMap Hm) (by rfl) o7B ⟨Y.drew.heap.size,0,none⟩ 1 1 [.int .i64 (a:Int), .int .i64 (l:Int)] (by rfl) rfl
        (fun u v hv=>by
         match u,hv with
         |0,hv=>simpa[Addr.add]using hv
         |1,hv=>simpa[Addr.add]using hv
         |u+2,hv=>simp at hv) (by intro u hu;simp at hu;rcases hu with rfl|rfl<;>rfl) (by unfold maxLen;omega) (by omega) k4 ?_
       intro v' X2 a7 a6 _ i1;have k2:val2 c= .slice AvB nlB cvB:=by rw[o3,b5]
       rw[←k2]at a6 i1;have o5:=d7.out X2 fun i h1 h2=>(a6.block i (Nat.lt_of_lt_of_le h1 a3.size) (fun e=>h2 e.symm)).trans (a3.block i h1)
       have b8:=a9.out.push d8 (p:=(a,l)) (by rw[←b5];exact a7) a6 i1;refine hK' _ _ ⟨.inr o5,fun _=> ?_⟩
       clear hK' K';have k3:X2.heap[q]? =some (.cells (Hc k val2) 110 (0,0)):=(a6.block q (lt_of_block a9.out.blk) (fun e=>by have h1:=(a0.out.own c d8).lt q e.symm;have h2:=a0.out.qB;omega)).trans a9.out.blk;have ffB:X2.frozen? ⟨q,c,none⟩=false:=by simp[World.frozen?,k3]
       have cfB:=o5.2.2.2.2;have k6:=o5;have m1:Hid (Ag (fun i=>i=q) WN (X2.setCell ⟨q,c,none⟩ v')):=(((d5.out.below a3 rr).mono (S':=fun i=>i=q\/WN.heap.size<=i) fun i e=> .inl e).grown a6 (fun i e=> .inr ((a0.out.own c d8).lt i e).1) |>.setCell (p:=⟨q,c,none⟩) (.inl rfl) v').old fun i hi e=>e.resolve_right (by omega)
       have o9:Hid ((X2.setCell ⟨q,c,none⟩ v').heap[X]? =some (.cells #[.int .i64 (a:Int), .int .i64 (c:Int), .int .i64 (l:Int)] 64 (0,0))):=by
        refine(Below.heap_setCell _ _ _ _ (by
         intro e;have h1:=a1.out;have h2:=a0.out.blk;rw[show X=q from e,h2]at h1;injection h1 with h1
         injection h1 with _ h1 _
         revert h1
         decide)).trans ((a6.block X (Nat.lt_of_lt_of_le (lt_of_block a1.out) a3.size) (fun e=> ?_)).trans ((a3.block X (lt_of_block a1.out)).trans a1.out))
        rcases(a0.out.own c d8).2 with⟨h2,_⟩|⟨g,cap,cur,h2,_,h3,_⟩
        ·rw[h2]at e;cases e
        ·rw[h2]at e;obtain rfl:X=g:=Option.some.inj e;have h4:=a1.out;rw[h3]at h4;injection h4 with h4
         injection h4 with _ h4 _
         revert h4
         decide
       have j3:=hI b8;obtain⟨A9B,c9B,rfl⟩:=Bg a7;clear a7 a6 i1 o5 k3 b8 a3 f8 x8 d7 o7B b5 o3 k2
       (try simp only[Act.put,nY,nX])
       (refine Aeu 21 rfl (fun K' hK'=> ?_);simp only[nY];go_simp)
       refine hK' _ _ ⟨.inr k6,fun _=> ?_⟩
       clear hK' K'
       (try simp only[Act.put,nY,nX])
       (refine Aeu 22 rfl (fun K' hK'=> ?_);simp only[nY];go_simp)
       refine hK' _ _ ⟨.inl (by kernel_rfl),fun _=>Bc (by kernel_rfl) ?_ _⟩
       clear hK' K' ffB cfB k6;generalize X2.setCell ⟨q,c,none⟩ (.slice A9B (nlB+1) c9B)=Z at*;have m4:(rs.take (j+1)).map B5=done++[(a,c,l)]:=by rw[r6.out,List.map_append,←m5.out];rfl
       have a9q:Hid (Gd WN.heap.size q k (fun u=>if u=c then .slice A9B (nlB+1) c9B else val2 u) (Cp ((rs.take (j+1)).map B5)) Z):=by
        show Gd _ _ _ _ _ _;rw[m4];exact j3.out.eq fun v _=>by rw[Zi done o8 v,u5.out]
       have a7q:Hid (Dt k [] rs=Dt k ((rs.take (j+1)).map B5) (rs.drop (j+1))):=by
        show _=_;rw[m4];have h9:=d4.out;simpa using h9
       have q3:Hid (Eg k ((rs.take (j+1)).map B5)):=by
        show Eg _ _;rw[m4]
        have h9:=Si (n:=k) (rs:=[((a:Int),(c:Int),(l:Int))]) (done:=done) (by
         unfold Dt;rw[if_neg (by simp only;omega),if_neg (by simp only;omega),if_neg (by simp only;omega),if_neg (by simp only[Int.toNat_natCast];rw[←t6.out];decide)];rfl) j0.out
        exact h9
       have q1:Hid (∀r∈rs.take (j+1),Dq (B5 r)=r):=fun r hr=>by
        rw[r6.out]at hr;rcases List.mem_append.1 hr with hr|hr
        ·exact j2.out r hr
        ·obtain rfl:r=((a:Int),(c:Int),(l:Int)):=by simpa using hr
         rfl
       have y4:Hid (Ag (fun i=>i=q) WN Z):=m1.out;clear j3 m1 o9 a0 d5 a1 u5 m4 d4 j0 j2 r6 m5 t6 a9 i9 k4 t2;go_wp2
       go_roundw
       case rel=>exact⟨j+1,_,by omega,by go_num,a9q.out,a7q.out,q3.out,q1.out,y4.out⟩
       case measure=>simp[intOf];omega
     ·obtain rfl:j=nr:=by omega
      have k0:rs.take j=rs:=List.take_of_length_le (by rw[f1.out];exact rr)
      have b1:Hid (Fc names rs=0):=by
       show _=_;rw[g8.out,HE.out,List.drop_of_length_le (by rw[f1.out];exact rr)];rfl
      rw[k0]at f3 j0 j2;clear HE k0;have cb:=Aa (j:=3) ((HK.out.block b g9 i8).trans i3.out) rfl
      have m7:(rs.map B5).map Dq=rs:=by
       rw[List.map_map]
       conv=>rhs;rw[←List.map_id rs]
       exact List.map_congr_left fun r hr=>j2.out r hr
      have p1:Hid (Cv wr A4 (rs.map B5).length c4 ((rs.map B5).map Dq)):=by
       show Cv _ _ _ _ _;rw[m7,List.length_map];refine⟨Am.of_own (Be i6.out fun i e=>HK.out.block i (i6.out.lt i e).2 (fun e'=> ?_)) (by decide),rfl⟩;rcases i6.out.2 with⟨h2,_⟩|⟨g,cap,cur,h2,_,h3,_⟩
       ·rw[h2]at e;cases e
       ·rw[h2]at e;obtain rfl:g=i:=Option.some.inj e;subst e';have h4:=t1.out;rw[h3]at h4;injection h4 with h4
        injection h4 with _ h4 _
        revert h4
        decide
      have r9:Hid (wr.heap[b]? =some (.cells #[.slice A1 k c1, .map (some mb), .slice A4 (rs.map B5).length c4, .slice (some ⟨q,0,none⟩) k k] 99 (0,0))):=by
       show _=_;rw[List.length_map];exact(HK.out.block b g9 i8).trans i3.out
      have k1:(rs.map B5).length<=512:=by rw[List.length_map,f1.out];omega
      have g0:=hI (Lf.start f3.out);have q7:Hid (Below w.heap.size w wr):=a8.out.trans (HK.out.to_below (fun i e=>by omega) a8.out.size);have t5:=lt_of_block f3.out.blk;have s3:=f3.out.qB;obtain⟨WS,p5⟩:∃WS,WS=wr:=⟨_,rfl⟩;have x4:Hid (WS.heap[q]? =some (.cells (Hc k val) 110 (0,0))):=by rw[p5];exact f3.out.blk
      rw[←p5]at g0 q7 t5 p1 r9;have x3:Hid (∀ad,A4=some ad->ad.block<WN.heap.size):=fun ad had=>by subst had;exact(i6.out.lt ad.block rfl).2
      clear f3 i6 HK j2;go_wp2_with fail;clear cb;subst p5
      go_loopw [168] (fun i wr=>∃(v:Nat) (es:Nat->List (Nat×Nat)),v<=k/\i= .int .i64 (v:Int)/\Hid (Lf WN.heap.size k v val (Cp (rs.map B5)) es WS wr)) (fun i _=>k-(intOf i).toNat)
      case atStart=>exact⟨0,_,Nat.zero_le _,rfl,g0.out⟩
      case round=>
       obtain⟨v,es,hv,rfl,f6⟩:=hrel;clear g0;have s0:=(f6.out.kp.block q t5 (by omega)).trans x4.out;by_cases hvk:v<k
       ·have a4q:(v:Int)<(k:Int):=by omega
        have cq:=Je s0 hvk;have t4:(Cp (rs.map B5) v).length<=4000:=Nat.le_trans (List.length_filterMap_le _ _) (by omega);clear s0;go_wp2_with fail;refine(Wy (val v) WN.heap.size (Cp (rs.map B5) v) wr (f6.out.lo v hvk rr) t4).mono ?_;rintro e w2 ⟨rfl,⟨A5,c5,b5q,m2,s5,t8⟩,s8⟩;have y0:=hI (f6.out.step hvk m2 s5 t8 s8);clear m2 s5 t8 s8 cq t4;go_wp2
        go_roundw
        case rel=>exact⟨v+1,_,by omega,by go_num,y0.out⟩
        case measure=>simp[intOf];omega
       ·obtain rfl:v=k:=by omega
        have v9:Hid (Cl wr b v (rs.map B5)):=by
         have d1q:b<WN.heap.size:=g9;have y8:b<WS.heap.size:=lt_of_block r9.out;refine f6.out.map ((f6.out.kp.block b y8 (by omega)).trans r9.out) ⟨?_,p1.out.2⟩ s0 j0.out (by omega) k1;exact N7 p1.out.1 f6.out.kp fun hn ad had e=>by have:=x3.out ad had;omega
        have a3q:Hid (Below w.heap.size w wr):=q7.out.trans (f6.out.kp.to_below (fun i e=>by have:=a8.out.size;omega) q7.out.size);have p4:=i4;go_wp2
        go_ret2
        exact⟨.inr ⟨b1.out,b,rfl,by rw[p4.out];exact v9.out⟩,a3q.out⟩
end Go.Proofs.YtaglfmlgbcmakaaGreatDoor
