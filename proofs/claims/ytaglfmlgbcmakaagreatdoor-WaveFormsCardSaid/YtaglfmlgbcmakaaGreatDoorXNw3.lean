/-
  points.New: the map, as it is laid first.
-/
import Derived.Test.YtaglfmlgbcmakaaGreatDoorH06
import Derived.Test.YtaglfmlgbcmakaaGreatDoorH05
set_option linter.all false
set_option maxRecDepth 100000
set_option maxHeartbeats 4000000
namespace Go.Proofs.YtaglfmlgbcmakaaGreatDoor
open Go.RowKit Go.Shelf Go.Maps Go.WideMaps
theorem Ad0:(Tryz.prog.info? 110).map (fun i=>(i.zero,i.size,i.bytes))=some (some (.slice none 0 0),1,24):=by kernel_rfl
structure Mk (B b mb q n:Nat)(An:Option Addr)(cn:Nat)(Ar:Option Addr)(cr:Nat)(rs:List Ep)(W:World):Prop where
 lo:B<=b/\B<=mb/\B<=q
 blk:W.heap[b]? =some (.cells #[.slice An n cn, .map (some mb), .slice Ar rs.length cr, .slice (some ⟨q,0,none⟩) n n] 99 (0,0))
 rd:W.ownsRow B 64 3 (.slice Ar rs.length cr) rs.length (rs.flatMap Ma)
 mp:W.ownsMap Tryz.prog 9 (plainElem (H:=Unit) Tryz.prog 3) mb 0 (.map [])
 nr:W.heap[q]? =some (.cells (Li n fun _=> .slice none 0 0) 110 (0,0))
def Akc (B n:Nat)(N:Option Addr×Nat×List ByteArray)(R:Option Addr×Nat×List Ep)(i:Nat)(v:Value)(W:World):Prop:=match i with
 |0=>v= .slice N.1 n N.2.1
 |1=>∃A c,v= .slice A n c
 |2=>∃mb,v= .map (some mb)/\B<=mb/\W.ownsMap Tryz.prog 9 (plainElem (H:=Unit) Tryz.prog 3) mb 0 (.map [])
 |3=>v= .slice R.1 R.2.2.length R.2.1
 |4=>∃A c,v= .slice A R.2.2.length c/\W.ownsRow B 64 3 (.slice A R.2.2.length c) R.2.2.length (R.2.2.flatMap Ma)
 |5=>v= .int .i64 (n:Int)
 |6=>∃q,v= .slice (some ⟨q,0,none⟩) n n/\B<=q/\W.heap[q]? =some (.cells (Li n fun _=> .slice none 0 0) 110 (0,0))
 |7=>∃An cn mb Ar cr q,v= .agg #[.slice An n cn, .map (some mb), .slice Ar R.2.2.length cr, .slice (some ⟨q,0,none⟩) n n]/\B<=mb/\W.ownsMap Tryz.prog 9 (plainElem (H:=Unit) Tryz.prog 3) mb 0 (.map [])/\W.ownsRow B 64 3 (.slice Ar R.2.2.length cr) R.2.2.length (R.2.2.flatMap Ma)∧
   B<=q/\W.heap[q]? =some (.cells (Li n fun _=> .slice none 0 0) 110 (0,0))
 |8=>∃b An cn mb Ar cr q,v= .pointer (some ⟨b,0,none⟩)/\Mk B b mb q n An cn Ar cr R.2.2 W
 |9=>∃b An cn mb Ar cr q,v= .pointer (some ⟨b,0,none⟩)/\Mk B b mb q n An cn Ar cr R.2.2 W
 |_=>True
theorem Md {W W':World}{bm m:Nat}{D:DataW Unit}(h:W.ownsMap Tryz.prog 9 (plainElem (H:=Unit) Tryz.prog 3) bm m D)(hb:Below W.heap.size W W'):W'.ownsMap Tryz.prog 9 (plainElem (H:=Unit) Tryz.prog 3) bm m D:=by
 have hl:=h.lt;obtain⟨es,clock,h1,h2⟩:=h;exact⟨es,clock,(hb.block bm hl).trans h1,h2⟩
theorem Acw {w w':World}{B:Nat}{e:TypeId}{sz n:Nat}{v:Value}{xs:List Value}(h:w.ownsRow B e sz v n xs)(hb:Below w.heap.size w w'):w'.ownsRow B e sz v n xs:=Bj h fun k e=>hb.block k (h.lt k e).2
theorem Mk.below {B b mb q n:Nat}{An:Option Addr}{cn:Nat}{Ar:Option Addr}{cr:Nat}{rs:List Ep}{W W':World}(h:Mk B b mb q n An cn Ar cr rs W)(hb:Below W.heap.size W W'):Mk B b mb q n An cn Ar cr rs W':=
 ⟨h.lo,(hb.block b (lt_of_block h.blk)).trans h.blk,Acw h.rd hb,Md h.mp hb,(hb.block q (lt_of_block h.nr)).trans h.nr⟩
theorem Abb {B n:Nat}{N:Option Addr×Nat×List ByteArray}{R:Option Addr×Nat×List Ep}{i:Nat}{v:Value}{w w':World}(h:Akc B n N R i v w)(hb:Below w.heap.size w w'):Akc B n N R i v w':=by
 unfold Akc at*;split at h
 ·exact h
 ·exact h
 ·obtain⟨mb,e,h1,h2⟩:=h;exact⟨mb,e,h1,Md h2 hb⟩
 ·exact h
 ·obtain⟨A,c,e,h⟩:=h;exact⟨A,c,e,Acw h hb⟩
 ·exact h
 ·obtain⟨q,e,h1,h2⟩:=h;exact⟨q,e,h1,(hb.block q (lt_of_block h2)).trans h2⟩
 ·obtain⟨An,cn,mb,Ar,cr,q,e,h1,h2,h3,h4,h5⟩:=h;exact⟨An,cn,mb,Ar,cr,q,e,h1,Md h2 hb,Acw h3 hb,h4,(hb.block q (lt_of_block h5)).trans h5⟩
 ·obtain⟨b,An,cn,mb,Ar,cr,q,e,h⟩:=h;exact⟨b,An,cn,mb,Ar,cr,q,e,h.below hb⟩
 ·obtain⟨b,An,cn,mb,Ar,cr,q,e,h⟩:=h;exact⟨b,An,cn,mb,Ar,cr,q,e,h.below hb⟩
 ·trivial
theorem Np {ops:Array Oper}{s:Nat}(h:(ops.all fun o=>o.dst !=some s)=true):∀j,Fh ops j≠some s:=by
 intro j hj;unfold Fh at hj
 cases ho:ops[j]? with
 |none=>rw[ho]at hj;cases hj
 |some o=>
  rw[ho]at hj;have h1:=(Array.all_eq_true.1 h) j (Array.getElem?_eq_some_iff.1 ho).1;rw[(Array.getElem?_eq_some_iff.1 ho).2]at h1;have h2:o.dst=some s:=hj;simp[h2]at h1
theorem Yz {names:List ByteArray}{k:Nat}{s:ByteArray}(h:names[k]? =some s):Dj (names.take k) (names.drop k)=if Dg s=false then 15 else if(names.take k).any (fun x=>decide (x=s))then 6 else Dj (names.take (k+1)) (names.drop (k+1)):=by
 have hk:=(List.getElem?_eq_some_iff.1 h).1
 have e1:names.drop k=s::names.drop (k+1):=by
  rw[List.drop_eq_getElem_cons hk,(List.getElem?_eq_some_iff.1 h).2]
 have e2:names.take (k+1)=names.take k++[s]:=by rw[List.take_add_one,h];rfl
 rw[e1,e2];rfl
theorem Acx (s:ByteArray)(hs:s.size<=24):keyOf Tryz.prog 9 (.string s)=some (Aa8 s):=by
 have h:=keyOf_string_mk (P:=Tryz.prog) (k:=9) (s:=s) Tryz.underlying9 (by unfold maxLen;omega);rw[h];rfl
def Gk (w:World)(names:List ByteArray)(rs:List Ep)(e:Ending)(w':World):Prop:=
 ((Ed names rs≠0/\e= .returned (.tuple #[.pointer none, .int .i64 (Ed names rs)]))\/(Ed names rs=0∧∃b,e= .returned (.tuple #[.pointer (some ⟨b,0,none⟩), .int .i64 0])/\Dr w' b names.length (rs.map Bm)))/\Below w.heap.size w w'
theorem Gk.bad {w w':World}{names:List ByteArray}{rs:List Ep}{er:Int}(h:Ed names rs=er)(h0:er≠0)(hb:Below w.heap.size w w'):Gk w names rs (.returned (.tuple #[.pointer none, .int .i64 er])) w':=by
 subst h;exact⟨.inl ⟨h0,rfl⟩,hb⟩
theorem Alk (An:Option Addr)(nn cn:Nat)(names:List ByteArray)(Ar:Option Addr)(nr cr:Nat)(rs:List Ep)(w:World)(hn:Hi w An nn cn names)(hr:D7 w Ar nr cr rs):
  Calls Tryz.prog 15 #[.slice An nn cn, .slice Ar nr cr] w (Gk w names rs):=by
 have d1q:nn<=cn/\cn<=9223372036854775807:=by have h1:=hn.2.1;have h2:=hn.2.2.1;unfold maxLen at h2;omega
 have d4q:nr<=cr/\cr<=9223372036854775807:=by have h1:=hr.1.2.1;have h2:=hr.1.2.2.1;unfold maxLen at h2;omega
 have HN:=hI hn;have HR:=hI hr;have i7:Hid (names.length=nn):=hn.len;have d8:Hid (rs.length=nr):=hr.2;clear hn hr;go_enter Tryz.func15,Tryz.ntmps15;by_cases h1:nn>128
 ·have u5:(nn:Int)>128:=by omega
  have HV:Hid (Ed names rs=12):=by show _=_;unfold Ed;rw[if_pos (.inl (by rw[i7.out];exact h1))]
  go_wp2
  go_ret2
  exact Gk.bad HV.out (by decide) (Below.refl _ _)
 by_cases h2:nr>512
 ·have u5:¬(128:Int)<(nn:Int):=by omega
  have a2q:(nr:Int)>512:=by omega
  have HV:Hid (Ed names rs=12):=by show _=_;unfold Ed;rw[if_pos (.inr (by rw[d8.out];exact h2))]
  go_wp2
  go_ret2
  exact Gk.bad HV.out (by decide) (Below.refl _ _)
 have u5:¬(128:Int)<(nn:Int):=by omega
 have a2q:¬(512:Int)<(nr:Int):=by omega
 have HV:Hid (Ed names rs=if Dj [] names≠0 then Dj [] names else Da names.length [] rs):=by show _=_;unfold Ed;rw[if_neg (by rw[i7.out,d8.out];omega)]
 go_wp2_with fail;refine Aas (by kernel_rfl) (by kernel_rfl) (Akc w.heap.size nn (An,cn,names) (Ar,cr,rs)) _ w (fun j v w w' h hb=>Abb h hb) ?hstep ?hrest
 case hstep=>
  intro i o ho a w' hs hb;have r5:i<10:=(Array.getElem?_eq_some_iff.1 ho).1;have hi:i=0\/i=1\/i=2\/i=3\/i=4\/i=5\/i=6\/i=7\/i=8\/i=9:=by omega
  clear r5;have m2:=hb.size;rcases hi with rfl|rfl|rfl|rfl|rfl|rfl|rfl|rfl|rfl|rfl
  ·simp only[List.getElem?_toArray,List.getElem?_cons_zero,List.getElem?_cons_succ,Option.some.injEq]at ho;have hq:=hs.2.1 0 (Np (by kernel_rfl));have e1:a.eval (.tmp 0)= .slice An nn cn:=by simp[Act.eval,hq]
   subst ho;unfold Oper.wp;go_simp;exact⟨_,rfl,rfl,Below.refl _ _⟩
  ·simp only[List.getElem?_toArray,List.getElem?_cons_zero,List.getElem?_cons_succ,Option.some.injEq]at ho;obtain⟨v0,b3q,p6⟩:=hs.1 0 (by rw[←ho];exact⟨_,Array.mem_of_getElem? (i:=0) rfl,rfl,rfl⟩);have y0:=p6 25 (by rfl) (by simp);obtain rfl:v0= .slice An nn cn:=b3q;have e1:a.eval (.tmp 25)= .slice An nn cn:=by simp[Act.eval,y0]
   subst ho;unfold Oper.wp;go_simp;refine(Aa9 An nn cn names w' (HN.out.below hb rr) (by omega)).mono ?_;rintro e w2 ⟨v,rfl,o0,f3⟩;obtain⟨A,c,rfl⟩:=Bh o0;exact⟨_,rfl,⟨_,_,rfl⟩,f3⟩
  ·simp only[List.getElem?_toArray,List.getElem?_cons_zero,List.getElem?_cons_succ,Option.some.injEq]at ho;subst ho;unfold Oper.wp;have d3q:= @run_makeMap Tryz.prog;go_simp;exact⟨_,rfl,⟨_,rfl,m2,World.ownsMap_made w' _ _ _⟩,bel⟩
  ·simp only[List.getElem?_toArray,List.getElem?_cons_zero,List.getElem?_cons_succ,Option.some.injEq]at ho;have hq:=hs.2.1 1 (Np (by kernel_rfl));have e1:a.eval (.tmp 1)= .slice Ar nr cr:=by simp[Act.eval,hq]
   subst ho;unfold Oper.wp;go_simp;exact⟨_,rfl,by show Value.slice Ar nr cr= .slice Ar rs.length cr;rw[d8.out],Below.refl _ _⟩
  ·simp only[List.getElem?_toArray,List.getElem?_cons_zero,List.getElem?_cons_succ,Option.some.injEq]at ho;obtain⟨v3,a1q,q7⟩:=hs.1 3 (by rw[←ho];exact⟨_,Array.mem_of_getElem? (i:=0) rfl,rfl,rfl⟩);have u6:=q7 28 (by rfl) (by simp);obtain rfl:v3= .slice Ar rs.length cr:=a1q;have e1:a.eval (.tmp 28)= .slice Ar rs.length cr:=by simp[Act.eval,u6]
   have s1:=HR.out;rw[←d8.out]at s1;subst ho;unfold Oper.wp;go_simp;refine(Yy Ar rs.length cr rs w' (s1.below hb rr) (by rw[d8.out];omega)).mono ?_;rintro e w2 ⟨v,rfl,o0,f3⟩;obtain⟨A,c,rfl⟩:=Bh o0;exact⟨_,rfl,⟨A,c,rfl,Aak o0 m2⟩,f3⟩
  ·simp only[List.getElem?_toArray,List.getElem?_cons_zero,List.getElem?_cons_succ,Option.some.injEq]at ho;have hq:=hs.2.1 6 (Np (by kernel_rfl));have e1:a.eval (.tmp 6)= .int .i64 (nn:Int):=by simp[Act.eval,hq]
   subst ho;unfold Oper.wp;go_simp;exact⟨_,rfl,rfl,Below.refl _ _⟩
  ·simp only[List.getElem?_toArray,List.getElem?_cons_zero,List.getElem?_cons_succ,Option.some.injEq]at ho;obtain⟨v5,m9,r1⟩:=hs.1 5 (by rw[←ho];exact⟨_,Array.mem_of_getElem? (i:=0) rfl,rfl,rfl⟩);have x8:=r1 30 (by rfl) (by simp);obtain rfl:v5= .int .i64 (nn:Int):=m9;have e1:a.eval (.tmp 30)= .int .i64 (nn:Int):=by simp[Act.eval,x8]
   have i6:=fun w=>run_make_row' (P:=Tryz.prog) 97 110 (.slice none 0 0) 24 Tryz.underlying97 Ad0 rfl .i64 .i64 nn (by omega) (by omega) w
   have q0:nn<=maxLen:=by unfold maxLen;omega
   subst ho;unfold Oper.wp;simp only[i6];go_simp;exact⟨_,rfl,⟨_,rfl,m2,by rw[Adx];exact Am rfl⟩,bel⟩
  ·simp only[List.getElem?_toArray,List.getElem?_cons_zero,List.getElem?_cons_succ,Option.some.injEq]at ho;obtain⟨v1,x6,p4⟩:=hs.1 1 (by rw[←ho];exact⟨_,Array.mem_of_getElem? (i:=0) rfl,rfl,rfl⟩);have a3q:=p4 26 (by rfl) (by simp);obtain⟨v2,y7,q4⟩:=hs.1 2 (by rw[←ho];exact⟨_,Array.mem_of_getElem? (i:=1) rfl,rfl,rfl⟩);have v9:=q4 27 (by rfl) (by simp);obtain⟨v4,x7,q3⟩:=hs.1 4 (by rw[←ho];exact⟨_,Array.mem_of_getElem? (i:=2) rfl,rfl,rfl⟩);have a0q:=q3 29 (by rfl) (by simp);obtain⟨v6,x2,p3⟩:=hs.1 6 (by rw[←ho];exact⟨_,Array.mem_of_getElem? (i:=3) rfl,rfl,rfl⟩);have u9:=p3 31 (by rfl) (by simp);obtain⟨A1,c1,rfl⟩:=x6;obtain⟨mb,rfl,r7,p5⟩:=y7;obtain⟨A4,c4,rfl,r6⟩:=x7;obtain⟨q,rfl,r0,m8⟩:=x2;have e1:a.eval (.tmp 26)= .slice A1 nn c1:=by simp[Act.eval,a3q]
   have e2:a.eval (.tmp 27)= .map (some mb):=by simp[Act.eval,v9]
   have e3:a.eval (.tmp 29)= .slice A4 rs.length c4:=by simp[Act.eval,a0q]
   have e4:a.eval (.tmp 31)= .slice (some ⟨q,0,none⟩) nn nn:=by simp[Act.eval,u9]
   subst ho;unfold Oper.wp;go_simp;exact⟨_,rfl,⟨_,_,_,_,_,_,rfl,r7,p5,r6,r0,m8⟩,Below.refl _ _⟩
  ·simp only[List.getElem?_toArray,List.getElem?_cons_zero,List.getElem?_cons_succ,Option.some.injEq]at ho;obtain⟨v7,a5q,s0⟩:=hs.1 7 (by rw[←ho];exact⟨_,Array.mem_of_getElem? (i:=0) rfl,rfl,rfl⟩);have a8q:=s0 32 (by rfl) (by simp);obtain⟨A1,c1,mb,A4,c4,q,rfl,r7,p5,r6,r0,m8⟩:=a5q;have e1:a.eval (.tmp 32)= .agg #[.slice A1 nn c1, .map (some mb), .slice A4 rs.length c4, .slice (some ⟨q,0,none⟩) nn nn]:=by simp[Act.eval,a8q]
   subst ho;unfold Oper.wp;go_simp;have hz:Below w'.heap.size w' (w'.alloc (.cells #[.slice A1 nn c1, .map (some mb), .slice A4 rs.length c4, .slice (some ⟨q,0,none⟩) nn nn] 99)):=(Below.refl _ w').alloc rr _;exact⟨_,rfl,⟨w'.heap.size,A1,c1,mb,A4,c4,q,rfl,⟨m2,r7,r0⟩,Am rfl,Acw r6 hz,Md p5 hz,(hz.block q (lt_of_block m8)).trans m8⟩,hz⟩
  ·simp only[List.getElem?_toArray,List.getElem?_cons_zero,List.getElem?_cons_succ,Option.some.injEq]at ho;obtain⟨v8,y9,q5⟩:=hs.1 8 (by rw[←ho];exact⟨_,Array.mem_of_getElem? (i:=0) rfl,rfl,rfl⟩);have y1:=q5 33 (by rfl) (by simp);obtain⟨b,A1,c1,mb,A4,c4,q,rfl,i6⟩:=y9;have e1:a.eval (.tmp 33)= .pointer (some ⟨b,0,none⟩):=by simp[Act.eval,y1]
   subst ho;unfold Oper.wp;go_simp;exact⟨_,rfl,⟨b,A1,c1,mb,A4,c4,q,rfl,i6⟩,Below.refl _ _⟩
 case hrest=>
  intro vs W1 j2 s2;obtain⟨b,A1,c1,mb,A4,c4,q,e9,i6⟩:=j2 9 (by decide);simp only[Gg,Fh,List.size_toArray,List.length_cons,List.length_nil,List.getElem?_toArray,List.getElem?_cons_zero,List.getElem?_cons_succ,Option.bind_some,Option.map_some,e9];have a1:Hid (Mk w.heap.size b mb q nn A1 c1 A4 c4 rs W1):=i6;have u0:=hI s2;clear i6 s2 j2 e9;generalize vs 0=z0,vs 1=z1,vs 2=z2,vs 3=z3,vs 4=z4,vs 5=z5,vs 6=z6,vs 7=z7,vs 8=z8;clear vs;go_simp;go_wp2_with fail;have s6:Hid (Nn (.map []) []):=Adw;have s4:=hI a1.out.mp
  go_loopw [36] (fun i wr=>∃(k:Nat) (D:DataW Unit),k<=nn/\i= .int .i64 (k:Int)/\Hid (wr.ownsMap Tryz.prog 9 (plainElem (H:=Unit) Tryz.prog 3) mb k D)/\Hid (Nn D (names.take k))/\Hid (Dj [] names=Dj (names.take k) (names.drop k))/\Hid (Ba (fun j=>j=mb) W1 wr)) (fun i _=>nn-(intOf i).toNat)
  case atStart=>exact⟨0, .map [],Nat.zero_le _,rfl,s4.out,s6.out,rfl,Ba.refl _ _⟩
  case round=>
   obtain⟨k,D,hk,rfl,HD,HS,HE,HK⟩:=hrel;clear s4 s6;have k9:Below w.heap.size w wr:=u0.out.trans (HK.out.to_below (fun j e=>by have:=a1.out.lo;omega) u0.out.size);have a8:=hI k9;clear k9;by_cases hlt:k<nn
   ·have b5q:(k:Int)<(nn:Int):=by omega
    obtain⟨s,hs⟩:∃s,names[k]? =some s:=⟨names[k]'(by rw[i7.out];exact hlt),List.getElem?_eq_getElem _⟩;obtain⟨ga,oa,hA,y4,f8⟩:=(HN.out.below a8.out rr).2.2.2.2 (by omega);subst hA;have d2q:=f8 k (.string s) (by rw[List.getElem?_map,hs];rfl);have b4:=hI (Yz hs);have a6q:Hid (names.take (k+1)=names.take k++[s]):=by show _=_;rw[List.take_add_one,hs];rfl
    clear f8 hs;by_cases h0:s.toList=[]
    ·have hv:Hid (Dg s=false):=by show _=_;simp[Dg,h0]
     have a5:Dj [] names=15:=by rw[HE.out,b4.out,if_pos hv.out]
     have g9:Hid (Ed names rs=15):=by show _=_;rw[HV.out,a5];rfl
     clear a5;go_wp2
     go_ret2
     exact Gk.bad g9.out (by decide) a8.out
    by_cases h24:s.size<=24
    case neg=>
     have o7:(s.size:Int)>24:=by omega
     have u1:s.toList.isEmpty=false:=by simpa using h0
     have hv:Hid (Dg s=false):=by show _=_;simp[Dg,h24]
     have a5:Dj [] names=15:=by rw[HE.out,b4.out,if_pos hv.out]
     have g9:Hid (Ed names rs=15):=by show _=_;rw[HV.out,a5];rfl
     clear a5;go_wp2
     go_ret2
     exact Gk.bad g9.out (by decide) a8.out
    have o7:¬(24:Int)<(s.size:Int):=by omega
    have u1:s.toList.isEmpty=false:=by simpa using h0
    obtain⟨r,hr⟩:∃r:ByteArray,r=⟨(Lib.trimS s.data.toList letters).toArray⟩:=⟨_,rfl⟩;have t8:=hI (Agr s wr (by omega));rw[←hr]at t8
    have q0:Dg s=r.toList.isEmpty:=by
     rw[hr,Lib.toList_data ⟨(Lib.trimS s.data.toList letters).toArray⟩];simp[Dg,u1,h24]
    have s9:=hI q0;clear q0 hr
    have r3:b≠mb:=fun e=>by
     obtain⟨es,clock,h1,_⟩:=a1.out.mp;have h2:=a1.out.blk;rw[e,h1]at h2;cases h2
    go_wp2_with fail;refine t8.out.mono ?_;rintro e w2 ⟨rfl,f3⟩;have t0:=hI (a8.out.trans (f3.mono a8.out.size));have s3:=hI (Md HD.out f3);have t7:Hid (Ba (fun j=>j=mb) W1 w2):=HK.out.trans (Br f3);clear f3 HK HD a8;by_cases o6:r.toList=[]
    case neg=>
     have f6:r.toList.isEmpty=false:=by simpa using o6
     have a5:Dj [] names=15:=by rw[HE.out,b4.out,if_pos (by rw[s9.out];exact f6)]
     have g9:Hid (Ed names rs=15):=by show _=_;rw[HV.out,a5];rfl
     clear a5;go_wp2
     go_ret2
     exact Gk.bad g9.out (by decide) t0.out
    have f6:r.toList.isEmpty=true:=by simpa using o6
    have cb:=Ad (j:=1) ((t7.out.block b (lt_of_block a1.out.blk) r3).trans a1.out.blk) rfl;obtain⟨v,pz,f5, -⟩:=s3.out.look_ok (string_keyed Tryz.underlying9) Tryz.underlying96 (Tryz.zeroValue3 w2) (plainElem_int Tryz.underlying3 (by decide)) (Acx s h24);rw[HS.out.2 s]at f5
    have q9:Hid (Dj [] names=if(names.take k).any (fun x=>decide (x=s))then 6 else Dj (names.take (k+1)) (names.drop (k+1))):=by
     show _=_;rw[HE.out,b4.out,if_neg (by rw[s9.out,f6];decide)]
    obtain⟨tk,k4⟩:∃tk,tk=(names.take k).any (fun x=>decide (x=s)):=⟨_,rfl⟩;rw[←k4]at f5 q9;clear k4
    cases tk with
    |true=>
     have g9:Hid (Ed names rs=6):=by show _=_;rw[HV.out,q9.out];rfl
     go_wp2
     go_ret2
     exact Gk.bad g9.out (by decide) t0.out
    |false=>
     obtain⟨w3,a7q,u4,i4⟩:=s3.out.update (string_keyed Tryz.underlying9) Tryz.underlying96 (show k<maxLen by unfold maxLen;omega) (Acx s h24) (plainElem_int (a:=(k:Int)) Tryz.underlying3 (WalkArith.wf_i64 (by omega)));have x5:=hI u4;have a9q:Hid (Ba (fun j=>j=mb) W1 w3):=t7.out.trans ⟨i4.os,i4.tape,i4.output,i4.size,fun j hj hn=>i4.block j hj (fun e=>hn (by injection e))⟩
     have y3:Hid (Nn (D.put (Aa8 s) (.lit (.int .i64 (k:Int)))) (names.take (k+1))):=by show Nn _ _;rw[a6q.out];exact Agy HS.out
     clear u4 i4;go_wp2_with fail;refine⟨⟨k+1,_,by omega,by go_num,x5.out,y3.out,q9.out,a9q.out⟩, ?_⟩;simp[intOf];omega
   ·obtain rfl:k=nn:=by omega
    have s7:Hid (Dj [] names=0):=by
     show _=_;rw[HE.out,List.drop_of_length_le (by rw[i7.out];exact rr)];rfl
    have f9:Hid (Ed names rs=Da k [] rs):=by show _=_;rw[HV.out,s7.out,if_neg (by simp),i7.out]
    clear HV HE s7 HS HD
    have x3:q≠mb:=fun e=>by
     obtain⟨es,clock,h1,_⟩:=a1.out.mp;have h2:=a1.out.nr;rw[e,h1]at h2;cases h2
    have r3:b≠mb:=fun e=>by
     obtain⟨es,clock,h1,_⟩:=a1.out.mp;have h2:=a1.out.blk;rw[e,h1]at h2;cases h2
    have k6:b≠q:=fun e=>by
     have h1:=a1.out.nr;have h2:=a1.out.blk;rw[e,h1]at h2;injection h2 with h2
     injection h2 with _ h2 _
     revert h2
     decide
    obtain⟨d5q,b9q,b6q⟩:=a1.out.lo
    have m3:Hid (Kj wr.heap.size q k (fun _=> .slice none 0 0) (fun _=>[]) wr):=
     ⟨Nat.lt_of_lt_of_le (lt_of_block a1.out.nr) HK.out.size,(HK.out.block q (lt_of_block a1.out.nr) x3).trans a1.out.nr,fun v _=>World.ownsRow_nil _ _ _ _,fun u v _ _ _ i e=>(by cases e),rr⟩
    have g0:Hid (wr.heap[b]? =some (.cells #[.slice A1 k c1, .map (some mb), .slice A4 rs.length c4, .slice (some ⟨q,0,none⟩) k k] 99 (0,0))):=(HK.out.block b (lt_of_block a1.out.blk) r3).trans a1.out.blk
    have i5:Hid (wr.ownsRow w.heap.size 64 3 (.slice A4 rs.length c4) rs.length (rs.flatMap Ma)):=Bj a1.out.rd fun i e=>HK.out.block i (a1.out.rd.lt i e).2 (fun e'=>by
     obtain⟨es,clock,h1,_⟩:=a1.out.mp;rcases a1.out.rd.2 with⟨h2,_⟩|⟨g,cap,cur,h2,_,h3,_⟩
     ·rw[h2]at e;cases e
     ·rw[h2]at e;obtain rfl:g=i:=Option.some.inj e;rw[e',h1]at h3;cases h3)
    have t4:Hid (wr.heap[q]? =some (.cells (Li k fun _=> .slice none 0 0) 110 (0,0))):=m3.out.blk;obtain⟨WN,s8⟩:∃WN,WN=wr:=⟨_,rfl⟩;rw[←s8]at m3 g0 i5 a8 t4;have i2:=lt_of_block g0.out;go_wp2_with fail;clear a1 HK;subst s8
    go_loopw [72] (fun i wr=>∃(j:Nat) (val:Nat->Value),j<=nr/\i= .int .i64 (j:Int)/\Hid (Kj WN.heap.size q k val (Dm ((rs.take j).map Bm)) wr)/\Hid (Da k [] rs=Da k ((rs.take j).map Bm) (rs.drop j))/\Hid (Cv k ((rs.take j).map Bm))/\Hid (∀r∈rs.take j,Jr (Bm r)=r)/\Hid (Ba (fun i=>i=q) WN wr)) (fun i _=>nr-(intOf i).toNat)
    case atStart=>exact⟨0,_,Nat.zero_le _,rfl,m3.out.eq fun v _=>rfl,rfl,⟨fun r hr=>by simp at hr,by simp⟩,fun r hr=>by simp at hr,Ba.refl _ _⟩
    case round=>
     obtain⟨j,val,hj,rfl,f2,HE,j7,j1,HK⟩:=hrel;clear m3;have k9:Below w.heap.size w wr:=a8.out.trans (HK.out.to_below (fun i e=>by omega) a8.out.size);have HB:=hI k9;clear k9;by_cases hlt:j<nr
     ·have b7q:(j:Int)<(nr:Int):=by omega
      obtain⟨r,o4⟩:∃r,rs[j]? =some r:=⟨rs[j]'(by rw[d8.out];exact hlt),List.getElem?_eq_getElem _⟩;obtain⟨ga,oa,hA,y4,f8⟩:=(HR.out.below HB.out rr).at_ Vf (by decide) o4;subst hA;have b4:=hI (Yw (n:=k) (done:=(rs.take j).map Bm) o4);have p2:Hid (rs.take (j+1)=rs.take j++[r]):=by show _=_;rw[List.take_add_one,o4];rfl
      obtain⟨ra,rb,rl⟩:=r;have d0:=f8 0 _ rfl;have d1:=f8 1 _ rfl;have d2:=f8 2 _ rfl;simp only[Nat.add_zero,←Nat.add_assoc]at d0 d1 d2;clear f8 o4;have k2:Hid (Below w.heap.size w (wr.alloc (.cells #[.int .i64 ra, .int .i64 rb, .int .i64 rl] 64))):=HB.out.alloc HB.out.size _;by_cases g1:min ra rb<0
      ·have a9:Hid (Ed names rs=3):=by show _=_;rw[f9.out,HE.out,b4.out,if_pos (.inl g1)]
       go_wp2
       go_ret2
       exact Gk.bad a9.out (by decide) k2.out
      by_cases g2:(k:Int)<=max ra rb
      ·have a9:Hid (Ed names rs=3):=by show _=_;rw[f9.out,HE.out,b4.out,if_pos (.inr g2)]
       go_wp2
       go_ret2
       exact Gk.bad a9.out (by decide) k2.out
      by_cases g3:ra=rb
      ·have a9:Hid (Ed names rs=9):=by show _=_;rw[f9.out,HE.out,b4.out,if_neg (by simp only;omega),if_pos g3]
       have g3':(ra==rb)=true:=by simpa using g3
       clear g3;go_wp2
       go_ret2
       exact Gk.bad a9.out (by decide) k2.out
      have g3':(ra==rb)=false:=by simpa using g3
      by_cases g4:rl<1
      ·have a9:Hid (Ed names rs=2):=by show _=_;rw[f9.out,HE.out,b4.out,if_neg (by simp only;omega),if_neg g3,if_pos (.inl g4)]
       go_wp2
       go_ret2
       exact Gk.bad a9.out (by decide) k2.out
      by_cases g5:rl>1073741824
      ·have a9:Hid (Ed names rs=2):=by show _=_;rw[f9.out,HE.out,b4.out,if_neg (by simp only;omega),if_neg g3,if_pos (.inr g5)]
       go_wp2
       go_ret2
       exact Gk.bad a9.out (by decide) k2.out
      obtain⟨a,rfl⟩:∃a:Nat,ra=a:=⟨ra.toNat,by omega⟩;obtain⟨c,rfl⟩:∃c:Nat,rb=c:=⟨rb.toNat,by omega⟩;obtain⟨l,rfl⟩:∃l:Nat,rl=l:=⟨rl.toNat,by omega⟩;have b3:a<k:=by omega
      have d5:c<k:=by omega
      have r2:a≠c:=by omega
      have x0:(a:Int)<(k:Int):=by omega
      have b0q:(c:Int)<(k:Int):=by omega
      have g5':¬(1073741824:Int)<(l:Int):=by omega
      have d4:Hid (Da k [] rs=if((rs.take j).map Bm).any (fun s=>Cj s a c)then 6 else Da k ((rs.take j).map Bm++[(a,c,l)]) (rs.drop (j+1))):=by
       show _=_;rw[HE.out,b4.out,if_neg (by simp only;omega),if_neg g3,if_neg (by simp only;omega)];rfl
      clear b4 HE g3;go_wp2_with fail;have kx:(wr.alloc (.cells #[.int .i64 (a:Int), .int .i64 (c:Int), .int .i64 (l:Int)] 64)).heap[wr.heap.size]? =some (.cells #[.int .i64 (a:Int), .int .i64 (c:Int), .int .i64 (l:Int)] 64 (0,0)):=Am rfl;have kb:Below wr.heap.size wr (wr.alloc (.cells #[.int .i64 (a:Int), .int .i64 (c:Int), .int .i64 (l:Int)] 64)):=(Below.refl _ wr).alloc rr _;obtain⟨X,hX⟩:∃X,X=wr.heap.size:=⟨_,rfl⟩;rw[←hX]at kx ⊢;clear hX;have g8:=hI (f2.out.below kb);have m6:Hid (Ba (fun i=>i=q) WN (wr.alloc (.cells #[.int .i64 (a:Int), .int .i64 (c:Int), .int .i64 (l:Int)] 64))):=HK.out.trans (Br kb);have g7:=hI kx;generalize wr.alloc (.cells #[.int .i64 (a:Int), .int .i64 (c:Int), .int .i64 (l:Int)] 64)=V at*;clear kx kb f2 HK d0 d1 d2;obtain⟨Av,cv,q8⟩:=Bh (g8.out.own a b3)
      have m7:Hid (Gj V Av (Dm ((rs.take j).map Bm) a).length cv (Dm ((rs.take j).map Bm) a)):=by
       have h:=g8.out.own a b3;rw[q8]at h;exact⟨Az.of_own h (by decide),rfl⟩
      obtain⟨done,b9⟩:∃done,done=(rs.take j).map Bm:=⟨_,rfl⟩;rw[←b9]at g8 m7 d4 j7;have m5:=hI b9;clear b9;obtain⟨na,q2⟩:∃na,na=(Dm done a).length:=⟨_,rfl⟩;rw[←q2]at m7;have cb:=Ad (j:=3) ((m6.out.block b i2 k6).trans g0.out) rfl;have cx0:=Ad (j:=0) g7.out rfl;have cq:=Mr g8.out.blk b3;have cq:V.cell? ⟨q,a,none⟩=some (.slice Av na cv):=by rw[cq,q8,q2,m5.out]
      clear q2;refine Bg (fun W'=>W'.cell? ⟨b,3,none⟩=some (.slice (some ⟨q,0,none⟩) k k)/\W'.cell? ⟨X,0,none⟩=some (.int .i64 (a:Int))/\W'.cell? ⟨q,a,none⟩=some (.slice Av na cv)) (by kernel_rfl) ⟨cb,cx0,cq⟩ (fun hHeld=> ?_)
      (refine' Ae 0 rfl ?_;(try simp only[Act.put,nY,nX]));(refine' Ae 1 rfl ?_;(try simp only[Act.put,nY,nX]));(refine' Ae 2 rfl ?_;(try simp only[Act.put,nY,nX]));(refine' Ae 3 rfl ?_;(try simp only[Act.put,nY,nX]));(refine' Ae 4 rfl ?_;(try simp only[Act.put,nY,nX]));(refine' Ae 5 rfl ?_;(try simp only[Act.put,nY,nX]));(refine' Ae 6 rfl ?_;(try simp only[Act.put,nY,nX]));(refine' Ae 7 rfl ?_;(try simp only[Act.put,nY,nX]));(refine' Ae 8 rfl ?_;(try simp only[Act.put,nY,nX]))
      (refine Anv 9 rfl (fun K' hK'=> ?_);simp only[nY];go_simp)
      have q1:Below V.heap.size V V.drew:=(Below.refl _ _).drew;have j3:=Agt (rs:=done) r2;refine(Agf Av na cv (Dm done a) 54 #[.pointer (some ⟨X,0,none⟩)] (fun s=>decide ((s.1:Int)=(c:Int))) V.drew (Eb.below m7.out q1 rr) (enters_of Tryz.func54 (by kernel_rfl) rfl) (fun W hW s _=>Alz s ((a:Int),(c:Int),(l:Int)) X W ((hW.block X (lt_of_block g7.out)).trans g7.out))).mono ?_
      rw[show(fun s:Nat×Nat=>decide ((s.1:Int)=(c:Int)))=fun s=>decide (s.1=c)from funext fun s=>by by_cases e:s.1=c<;>simp[e]<;>omega,j3]
      clear j3;obtain⟨tt,p8⟩:∃tt,tt=done.any fun s=>Cj s a c:=⟨_,rfl⟩
      rw[←p8]at d4 ⊢;have t1:=hI p8;rintro e U ⟨rfl,k5⟩;have d6:=q1.trans k5;have b2:=hI (g8.out.below d6);have j6:Hid (Ba (fun i=>i=q) WN U):=m6.out.trans (Br d6);have b8:=hI ((d6.block X (lt_of_block g7.out)).trans g7.out);refine hK' _ _ ⟨.inr ⟨(k5.cell (p:=⟨b,3,none⟩) (by have:=m6.out.size;show b<_;exact Nat.lt_of_lt_of_le i2 this)).trans hHeld.1,(k5.cell (p:=⟨X,0,none⟩) (lt_of_block g7.out)).trans hHeld.2.1,(k5.cell (p:=⟨q,a,none⟩) (lt_of_block g8.out.blk)).trans hHeld.2.2⟩,fun _=> ?_⟩
      clear hK' K' k5 d6 q1 hHeld p8 m7 g8 m6 g7 cb cx0 cq q8
      (try simp only[Act.put,nY,nX])
      (refine Anv 10 rfl (fun K' hK'=> ?_);simp only[nY];go_simp)
      refine hK' _ _ ⟨.inl (by kernel_rfl),fun _=>Bf (by kernel_rfl) ?_ _⟩
      clear hK' K'
      cases tt with
      |true=>
       have a9:Hid (Ed names rs=6):=by show _=_;rw[f9.out,d4.out];rfl
       have x1:Hid (Below w.heap.size w U):=a8.out.trans (j6.out.to_below (fun i e=>by omega) a8.out.size);go_wp2
       go_ret2
       exact Gk.bad a9.out (by decide) x1.out
      |false=>
       have r4:∀v,(Dm done v).length<=512:=fun v=>by
        have h1:(Dm done v).length<=done.length:=List.length_filterMap_le _ _;have h2:done.length<=j:=by rw[m5.out,List.length_map,List.length_take];omega
        omega
       obtain⟨AvA,cvA,o1⟩:=Bh (b2.out.own a b3);have cbA:=Ad (j:=3) ((j6.out.block b i2 k6).trans g0.out) rfl;have cx0A:=Ad (j:=0) b8.out rfl;have cx1A:=Ad (j:=1) b8.out rfl;have cx2A:=Ad (j:=2) b8.out rfl;have cqA:=Mr b2.out.blk b3;rw[o1]at cqA
       have d7:Hid (∀W':World,(∀i,i<U.heap.size->(val a).ownBlock≠some i->W'.heap[i]? =U.heap[i]?)->W'.cell? ⟨b,3,none⟩=some (.slice (some ⟨q,0,none⟩) k k)/\W'.cell? ⟨X,0,none⟩=some (.int .i64 (a:Int))/\W'.cell? ⟨X,1,none⟩=some (.int .i64 (c:Int))/\W'.cell? ⟨X,2,none⟩=some (.int .i64 (l:Int))/\W'.cell? ⟨q,a,none⟩=some (.slice AvA ((Dm done) a).length cvA)):=by
        intro W' h;have i8:∀i,(val a).ownBlock=some i->WN.heap.size<=i:=fun i e=>((b2.out.own a b3).lt i e).1
        have t5:=b2.out.qB;have b1q:=j6.out.size;have eb:=h b (by omega) (fun e=>by have:=i8 b e;omega);have eq:=h q (by omega) (fun e=>by have:=i8 q e;omega)
        have ex:=h X (lt_of_block b8.out) (fun e=>by
         rcases(b2.out.own a b3).2 with⟨h2,_⟩|⟨g,cap,cur,h2,_,h3,_⟩
         ·rw[h2]at e;cases e
         ·rw[h2]at e;obtain rfl:g=X:=Option.some.inj e;have h4:=b8.out;rw[h3]at h4;injection h4 with h4
          injection h4 with _ h4 _
          revert h4
          decide)
        exact⟨(Cl eb 3).trans cbA,(Cl ex 0).trans cx0A,(Cl ex 1).trans cx1A,(Cl ex 2).trans cx2A,(Cl eq a).trans cqA⟩
       go_wp2_with fail;refine Bg (fun W'=>W'.cell? ⟨b,3,none⟩=some (.slice (some ⟨q,0,none⟩) k k)/\W'.cell? ⟨X,0,none⟩=some (.int .i64 (a:Int))/\W'.cell? ⟨X,1,none⟩=some (.int .i64 (c:Int))/\W'.cell? ⟨X,2,none⟩=some (.int .i64 (l:Int))/\W'.cell? ⟨q,a,none⟩=some (.slice AvA ((Dm done) a).length cvA)) (by kernel_rfl) ⟨cbA,cx0A,cx1A,cx2A,cqA⟩ (fun hHeld=> ?_)
       clear cbA cx0A cx1A cx2A cqA
       (refine' Ae 0 rfl ?_;(try simp only[Act.put,nY,nX]));(refine' Ae 1 rfl ?_;(try simp only[Act.put,nY,nX]));(refine' Ae 2 rfl ?_;(try simp only[Act.put,nY,nX]));(refine' Ae 3 rfl ?_;(try simp only[Act.put,nY,nX]));(refine' Ae 4 rfl ?_;(try simp only[Act.put,nY,nX]));(refine' Ae 5 rfl ?_;(try simp only[Act.put,nY,nX]));(refine' Ae 6 rfl ?_;(try simp only[Act.put,nY,nX]));(refine' Ae 7 rfl ?_;(try simp only[Act.put,nY,nX]));(refine' Ae 8 rfl ?_;(try simp only[Act.put,nY,nX]));(refine' Ae 9 rfl ?_;(try simp only[Act.put,nY,nX]));(refine' Ae 10 rfl ?_;(try simp only[Act.put,nY,nX]));(refine' Ae 11 rfl ?_;(try simp only[Act.put,nY,nX]));(refine' Ae 12 rfl ?_;(try simp only[Act.put,nY,nX]));(refine' Ae 13 rfl ?_;(try simp only[Act.put,nY,nX]));(refine' Ae 14 rfl ?_;(try simp only[Act.put,nY,nX]));(refine' Ae 15 rfl ?_;(try simp only[Act.put,nY,nX]));(refine' Ae 16 rfl ?_;(try simp only[Act.put,nY,nX]));(refine' Ae 17 rfl ?_;(try simp only[Act.put,nY,nX]));(refine' Ae 18 rfl ?_;(try simp only[Act.put,nY,nX]))
       clear hHeld
       (refine Anv 19 rfl (fun K' hK'=> ?_);simp only[nY];go_simp)
       have i1:Below U.heap.size U U.drew:=(Below.refl _ _).drew;have b2q:∀u:Nat,u<2→∀v,[Value.int .i64 (c:Int),Value.int .i64 (l:Int)][u]? =some v->(U.drew.alloc (.cells #[.int .i64 (c:Int), .int .i64 (l:Int)] 112)).cell? ⟨U.drew.heap.size,u,none⟩=some v:=fun u _ v hv=>B8 (by simpa using hv)
       have a4:Below U.heap.size U (U.drew.alloc (.cells #[.int .i64 (c:Int), .int .i64 (l:Int)] 112)):=i1.alloc i1.size _;have b1:=hI (b2.out.below a4);refine hK' _ _ ⟨.inr (d7.out _ fun i h _=>a4.block i h),fun _=> ?_⟩
       clear hK' K'
       (try simp only[Act.put,nY,nX])
       have j9:((Dm done) a).length<=512:=r4 a;obtain⟨nlA,b6⟩:∃x,x=((Dm done) a).length:=⟨_,rfl⟩;have o7A:=b1.out.own a b3;rw[o1,←b6]at o7A;rw[←b6]at j9 d7 ⊢;have i9:=b1.out.sz;refine Anv 20 rfl (fun K' hK'=> ?_);rw[if_pos (by rfl)]
       refine Ce (.tmp 131) (.tmp 137) 110 rfl WN.heap.size 112 (.agg #[.int .i64 0, .int .i64 0]) 2 16 Tryz.underlying110 Yx rfl (by decide) (.slice AvA nlA cvA) nlA (((Dm done) a).flatMap Lz) (by rfl) o7A ⟨U.drew.heap.size,0,none⟩ 1 1 [.int .i64 (c:Int), .int .i64 (l:Int)] (by rfl) rfl
        (fun u v hv=>by
         match u,hv with
         |0,hv=>simpa[Addr.add]using hv
         |1,hv=>simpa[Addr.add]using hv
         |u+2,hv=>simp at hv) (by intro u hu;simp at hu;rcases hu with rfl|rfl<;>rfl) (by unfold maxLen;omega) (by omega) i9 ?_
       intro v' X2 a6 a7 _ i0;have j8:val a= .slice AvA nlA cvA:=by rw[o1,b6]
       rw[←j8]at a7 i0;have o3:=d7.out X2 fun i h1 h2=>(a7.block i (Nat.lt_of_lt_of_le h1 a4.size) (fun e=>h2 e.symm)).trans (a4.block i h1)
       have b7:=b1.out.push b3 (p:=(c,l)) (by rw[←b6];exact a6) a7 i0;refine hK' _ _ ⟨.inr o3,fun _=> ?_⟩
       clear hK' K';have k7:X2.heap[q]? =some (.cells (Li k val) 110 (0,0)):=(a7.block q (lt_of_block b1.out.blk) (fun e=>by have h1:=(b2.out.own a b3).lt q e.symm;have h2:=b2.out.qB;omega)).trans b1.out.blk;have ffA:X2.frozen? ⟨q,a,none⟩=false:=by simp[World.frozen?,k7]
       have cfA:=o3.2.2.2.2;have j5:=o3;have f1:Hid (Ba (fun i=>i=q) WN (X2.setCell ⟨q,a,none⟩ v')):=(((j6.out.below a4 rr).mono (S':=fun i=>i=q\/WN.heap.size<=i) fun i e=> .inl e).grown a7 (fun i e=> .inr ((b2.out.own a b3).lt i e).1) |>.setCell (p:=⟨q,a,none⟩) (.inl rfl) v').old fun i hi e=>e.resolve_right (by omega)
       have a2:Hid ((X2.setCell ⟨q,a,none⟩ v').heap[X]? =some (.cells #[.int .i64 (a:Int), .int .i64 (c:Int), .int .i64 (l:Int)] 64 (0,0))):=by
        refine(Below.heap_setCell _ _ _ _ (by
         intro e;have h1:=b8.out;have h2:=b2.out.blk;rw[show X=q from e,h2]at h1;injection h1 with h1
         injection h1 with _ h1 _
         revert h1
         decide)).trans ((a7.block X (Nat.lt_of_lt_of_le (lt_of_block b8.out) a4.size) (fun e=> ?_)).trans ((a4.block X (lt_of_block b8.out)).trans b8.out))
        rcases(b2.out.own a b3).2 with⟨h2,_⟩|⟨g,cap,cur,h2,_,h3,_⟩
        ·rw[h2]at e;cases e
        ·rw[h2]at e;obtain rfl:X=g:=Option.some.inj e;have h4:=b8.out;rw[h3]at h4;injection h4 with h4
         injection h4 with _ h4 _
         revert h4
         decide
       have a0:=hI b7;obtain⟨A9A,c9A,rfl⟩:=Bh a6;clear a6 a7 i0 o3 k7 b7 a4 i1 b2q d7 o7A b6 o1 j8
       (try simp only[Act.put,nY,nX])
       (refine Anv 21 rfl (fun K' hK'=> ?_);simp only[nY];go_simp)
       refine hK' _ _ ⟨.inr j5,fun _=> ?_⟩
       clear hK' K'
       (try simp only[Act.put,nY,nX])
       (refine Anv 22 rfl (fun K' hK'=> ?_);simp only[nY];go_simp)
       refine hK' _ _ ⟨.inl (by kernel_rfl),fun _=>Bf (by kernel_rfl) ?_ _⟩
       clear hK' K' ffA cfA j5;generalize X2.setCell ⟨q,a,none⟩ (.slice A9A (nlA+1) c9A)=Y at*;obtain⟨val2,f4⟩:∃val2:Nat->Value,val2=fun u=>if u=a then .slice A9A (nlA+1) c9A else val u:=⟨_,rfl⟩
       obtain⟨ls2,f0⟩:∃ls2:Nat->List (Nat×Nat),ls2=fun u=>if u=a then Dm done a++[(c,l)]else Dm done u:=⟨_,rfl⟩
       rw[←f4,←f0]at a0;have t9:(ls2 c).length<=512:=by rw[f0];simp only[if_neg (Ne.symm r2)];exact r4 c
       have t2:=hI f0;clear f4 f0 r4 b2 j6 b8 b1 j9 i9;obtain⟨AvB,cvB,o5⟩:=Bh (a0.out.own c d5);have cbB:=Ad (j:=3) ((f1.out.block b i2 k6).trans g0.out) rfl;have cx0B:=Ad (j:=0) a2.out rfl;have cx1B:=Ad (j:=1) a2.out rfl;have cx2B:=Ad (j:=2) a2.out rfl;have cqB:=Mr a0.out.blk d5;rw[o5]at cqB
       have d9:Hid (∀W':World,(∀i,i<Y.heap.size->(val2 c).ownBlock≠some i->W'.heap[i]? =Y.heap[i]?)->W'.cell? ⟨b,3,none⟩=some (.slice (some ⟨q,0,none⟩) k k)/\W'.cell? ⟨X,0,none⟩=some (.int .i64 (a:Int))/\W'.cell? ⟨X,1,none⟩=some (.int .i64 (c:Int))/\W'.cell? ⟨X,2,none⟩=some (.int .i64 (l:Int))/\W'.cell? ⟨q,c,none⟩=some (.slice AvB ((ls2) c).length cvB)):=by
        intro W' h;have i8:∀i,(val2 c).ownBlock=some i->WN.heap.size<=i:=fun i e=>((a0.out.own c d5).lt i e).1
        have t5:=a0.out.qB;have b1q:=f1.out.size;have eb:=h b (by omega) (fun e=>by have:=i8 b e;omega);have eq:=h q (by omega) (fun e=>by have:=i8 q e;omega)
        have ex:=h X (lt_of_block a2.out) (fun e=>by
         rcases(a0.out.own c d5).2 with⟨h2,_⟩|⟨g,cap,cur,h2,_,h3,_⟩
         ·rw[h2]at e;cases e
         ·rw[h2]at e;obtain rfl:g=X:=Option.some.inj e;have h4:=a2.out;rw[h3]at h4;injection h4 with h4
          injection h4 with _ h4 _
          revert h4
          decide)
        exact⟨(Cl eb 3).trans cbB,(Cl ex 0).trans cx0B,(Cl ex 1).trans cx1B,(Cl ex 2).trans cx2B,(Cl eq c).trans cqB⟩
       go_wp2_with fail;refine Bg (fun W'=>W'.cell? ⟨b,3,none⟩=some (.slice (some ⟨q,0,none⟩) k k)/\W'.cell? ⟨X,0,none⟩=some (.int .i64 (a:Int))/\W'.cell? ⟨X,1,none⟩=some (.int .i64 (c:Int))/\W'.cell? ⟨X,2,none⟩=some (.int .i64 (l:Int))/\W'.cell? ⟨q,c,none⟩=some (.slice AvB ((ls2) c).length cvB)) (by kernel_rfl) ⟨cbB,cx0B,cx1B,cx2B,cqB⟩ (fun hHeld=> ?_)
       clear cbB cx0B cx1B cx2B cqB
       (refine' Ae 0 rfl ?_;(try simp only[Act.put,nY,nX]));(refine' Ae 1 rfl ?_;(try simp only[Act.put,nY,nX]));(refine' Ae 2 rfl ?_;(try simp only[Act.put,nY,nX]));(refine' Ae 3 rfl ?_;(try simp only[Act.put,nY,nX]));(refine' Ae 4 rfl ?_;(try simp only[Act.put,nY,nX]));(refine' Ae 5 rfl ?_;(try simp only[Act.put,nY,nX]));(refine' Ae 6 rfl ?_;(try simp only[Act.put,nY,nX]));(refine' Ae 7 rfl ?_;(try simp only[Act.put,nY,nX]));(refine' Ae 8 rfl ?_;(try simp only[Act.put,nY,nX]));(refine' Ae 9 rfl ?_;(try simp only[Act.put,nY,nX]));(refine' Ae 10 rfl ?_;(try simp only[Act.put,nY,nX]));(refine' Ae 11 rfl ?_;(try simp only[Act.put,nY,nX]));(refine' Ae 12 rfl ?_;(try simp only[Act.put,nY,nX]));(refine' Ae 13 rfl ?_;(try simp only[Act.put,nY,nX]));(refine' Ae 14 rfl ?_;(try simp only[Act.put,nY,nX]));(refine' Ae 15 rfl ?_;(try simp only[Act.put,nY,nX]));(refine' Ae 16 rfl ?_;(try simp only[Act.put,nY,nX]));(refine' Ae 17 rfl ?_;(try simp only[Act.put,nY,nX]));(refine' Ae 18 rfl ?_;(try simp only[Act.put,nY,nX]))
       clear hHeld
       (refine Anv 19 rfl (fun K' hK'=> ?_);simp only[nY];go_simp)
       have f7:Below Y.heap.size Y Y.drew:=(Below.refl _ _).drew;have u7:∀u:Nat,u<2→∀v,[Value.int .i64 (a:Int),Value.int .i64 (l:Int)][u]? =some v->(Y.drew.alloc (.cells #[.int .i64 (a:Int), .int .i64 (l:Int)] 112)).cell? ⟨Y.drew.heap.size,u,none⟩=some v:=fun u _ v hv=>B8 (by simpa using hv)
       have a3:Below Y.heap.size Y (Y.drew.alloc (.cells #[.int .i64 (a:Int), .int .i64 (l:Int)] 112)):=f7.alloc f7.size _;have b0:=hI (a0.out.below a3);refine hK' _ _ ⟨.inr (d9.out _ fun i h _=>a3.block i h),fun _=> ?_⟩
       clear hK' K'
       (try simp only[Act.put,nY,nX])
       have j0:((ls2) c).length<=512:=t9;obtain⟨nlB,b5⟩:∃x,x=((ls2) c).length:=⟨_,rfl⟩;have o7B:=b0.out.own c d5;rw[o5,←b5]at o7B;rw[←b5]at j0 d9 ⊢;have k0:=b0.out.sz;refine Anv 20 rfl (fun K' hK'=> ?_);rw[if_pos (by rfl)]
       refine Ce (.tmp 153) (.tmp 159) 110 rfl WN.heap.size 112 (.agg #[.int .i64 0, .int .i64 0]) 2 16 Tryz.underlying110 Yx rfl (by decide) (.slice AvB nlB cvB) nlB (((ls2) c).flatMap Lz) (by rfl) o7B ⟨Y.drew.heap.size,0,none⟩ 1 1 [.int .i64 (a:Int), .int .i64 (l:Int)] (by rfl) rfl
        (fun u v hv=>by
         match u,hv with
         |0,hv=>simpa[Addr.add]using hv
         |1,hv=>simpa[Addr.add]using hv
         |u+2,hv=>simp at hv) (by intro u hu;simp at hu;rcases hu with rfl|rfl<;>rfl) (by unfold maxLen;omega) (by omega) k0 ?_
       intro v' X2 a6 a7 _ i0;have k3:val2 c= .slice AvB nlB cvB:=by rw[o5,b5]
       rw[←k3]at a7 i0;have o2:=d9.out X2 fun i h1 h2=>(a7.block i (Nat.lt_of_lt_of_le h1 a3.size) (fun e=>h2 e.symm)).trans (a3.block i h1)
       have d3:=b0.out.push d5 (p:=(a,l)) (by rw[←b5];exact a6) a7 i0;refine hK' _ _ ⟨.inr o2,fun _=> ?_⟩
       clear hK' K';have k1:X2.heap[q]? =some (.cells (Li k val2) 110 (0,0)):=(a7.block q (lt_of_block b0.out.blk) (fun e=>by have h1:=(a0.out.own c d5).lt q e.symm;have h2:=a0.out.qB;omega)).trans b0.out.blk;have ffB:X2.frozen? ⟨q,c,none⟩=false:=by simp[World.frozen?,k1]
       have cfB:=o2.2.2.2.2;have m1:=o2;have m0:Hid (Ba (fun i=>i=q) WN (X2.setCell ⟨q,c,none⟩ v')):=(((f1.out.below a3 rr).mono (S':=fun i=>i=q\/WN.heap.size<=i) fun i e=> .inl e).grown a7 (fun i e=> .inr ((a0.out.own c d5).lt i e).1) |>.setCell (p:=⟨q,c,none⟩) (.inl rfl) v').old fun i hi e=>e.resolve_right (by omega)
       have r9:Hid ((X2.setCell ⟨q,c,none⟩ v').heap[X]? =some (.cells #[.int .i64 (a:Int), .int .i64 (c:Int), .int .i64 (l:Int)] 64 (0,0))):=by
        refine(Below.heap_setCell _ _ _ _ (by
         intro e;have h1:=a2.out;have h2:=a0.out.blk;rw[show X=q from e,h2]at h1;injection h1 with h1
         injection h1 with _ h1 _
         revert h1
         decide)).trans ((a7.block X (Nat.lt_of_lt_of_le (lt_of_block a2.out) a3.size) (fun e=> ?_)).trans ((a3.block X (lt_of_block a2.out)).trans a2.out))
        rcases(a0.out.own c d5).2 with⟨h2,_⟩|⟨g,cap,cur,h2,_,h3,_⟩
        ·rw[h2]at e;cases e
        ·rw[h2]at e;obtain rfl:X=g:=Option.some.inj e;have h4:=a2.out;rw[h3]at h4;injection h4 with h4
         injection h4 with _ h4 _
         revert h4
         decide
       have j4:=hI d3;obtain⟨A9B,c9B,rfl⟩:=Bh a6;clear a6 a7 i0 o2 k1 d3 a3 f7 u7 d9 o7B b5 o5 k3
       (try simp only[Act.put,nY,nX])
       (refine Anv 21 rfl (fun K' hK'=> ?_);simp only[nY];go_simp)
       refine hK' _ _ ⟨.inr m1,fun _=> ?_⟩
       clear hK' K'
       (try simp only[Act.put,nY,nX])
       (refine Anv 22 rfl (fun K' hK'=> ?_);simp only[nY];go_simp)
       refine hK' _ _ ⟨.inl (by kernel_rfl),fun _=>Bf (by kernel_rfl) ?_ _⟩
       clear hK' K' ffB cfB m1;generalize X2.setCell ⟨q,c,none⟩ (.slice A9B (nlB+1) c9B)=Z at*;have m4:(rs.take (j+1)).map Bm=done++[(a,c,l)]:=by rw[p2.out,List.map_append,←m5.out];rfl
       have y2:Hid (Kj WN.heap.size q k (fun u=>if u=c then .slice A9B (nlB+1) c9B else val2 u) (Dm ((rs.take (j+1)).map Bm)) Z):=by
        show Kj _ _ _ _ _ _;rw[m4];exact j4.out.eq fun v _=>by rw[Ag0 done r2 v,t2.out]
       have x4:Hid (Da k [] rs=Da k ((rs.take (j+1)).map Bm) (rs.drop (j+1))):=by
        show _=_;rw[m4];have h9:=d4.out;simpa using h9
       have q6:Hid (Cv k ((rs.take (j+1)).map Bm)):=by
        show Cv _ _;rw[m4]
        have h9:=S0 (n:=k) (rs:=[((a:Int),(c:Int),(l:Int))]) (done:=done) (by
         unfold Da;rw[if_neg (by simp only;omega),if_neg (by simp only;omega),if_neg (by simp only;omega),if_neg (by simp only[Int.toNat_natCast];rw[←t1.out];decide)];rfl) j7.out
        exact h9
       have p1:Hid (∀r∈rs.take (j+1),Jr (Bm r)=r):=fun r hr=>by
        rw[p2.out]at hr;rcases List.mem_append.1 hr with hr|hr
        ·exact j1.out r hr
        ·obtain rfl:r=((a:Int),(c:Int),(l:Int)):=by simpa using hr
         rfl
       have z9:Hid (Ba (fun i=>i=q) WN Z):=m0.out;clear j4 m0 r9 a0 f1 a2 t2 m4 d4 j7 j1 p2 m5 t1 b0 j0 k0 t9;go_wp2
       go_roundw
       case rel=>exact⟨j+1,_,by omega,by go_num,y2.out,x4.out,q6.out,p1.out,z9.out⟩
       case measure=>simp[intOf];omega
     ·obtain rfl:j=nr:=by omega
      have k4:rs.take j=rs:=List.take_of_length_le (by rw[d8.out];exact rr)
      have a9:Hid (Ed names rs=0):=by
       show _=_;rw[f9.out,HE.out,List.drop_of_length_le (by rw[d8.out];exact rr)];rfl
      rw[k4]at f2 j7 j1;clear HE k4;have cb:=Ad (j:=3) ((HK.out.block b i2 k6).trans g0.out) rfl
      have o6:(rs.map Bm).map Jr=rs:=by
       rw[List.map_map]
       conv=>rhs;rw[←List.map_id rs]
       exact List.map_congr_left fun r hr=>j1.out r hr
      have o8:Hid (D7 wr A4 (rs.map Bm).length c4 ((rs.map Bm).map Jr)):=by
       show D7 _ _ _ _ _;rw[o6,List.length_map];refine⟨Az.of_own (Bj i5.out fun i e=>HK.out.block i (i5.out.lt i e).2 (fun e'=> ?_)) (by decide),rfl⟩;rcases i5.out.2 with⟨h2,_⟩|⟨g,cap,cur,h2,_,h3,_⟩
       ·rw[h2]at e;cases e
       ·rw[h2]at e;obtain rfl:g=i:=Option.some.inj e;subst e';have h4:=t4.out;rw[h3]at h4;injection h4 with h4
        injection h4 with _ h4 _
        revert h4
        decide
      have r8:Hid (wr.heap[b]? =some (.cells #[.slice A1 k c1, .map (some mb), .slice A4 (rs.map Bm).length c4, .slice (some ⟨q,0,none⟩) k k] 99 (0,0))):=by
       show _=_;rw[List.length_map];exact(HK.out.block b i2 k6).trans g0.out
      have k8:(rs.map Bm).length<=512:=by rw[List.length_map,d8.out];omega
      have g6:=hI (Pz.start f2.out);have o9:Hid (Below w.heap.size w wr):=a8.out.trans (HK.out.to_below (fun i e=>by omega) a8.out.size);have t6:=lt_of_block f2.out.blk;have t5:=f2.out.qB;obtain⟨WS,p9⟩:∃WS,WS=wr:=⟨_,rfl⟩;have b4q:Hid (WS.heap[q]? =some (.cells (Li k val) 110 (0,0))):=by rw[p9];exact f2.out.blk
      rw[←p9]at g6 o9 t6 o8 r8;have x9:Hid (∀ad,A4=some ad->ad.block<WN.heap.size):=fun ad had=>by subst had;exact(i5.out.lt ad.block rfl).2
      clear f2 i5 HK j1;go_wp2_with fail;clear cb;subst p9
      go_loopw [168] (fun i wr=>∃(v:Nat) (es:Nat->List (Nat×Nat)),v<=k/\i= .int .i64 (v:Int)/\Hid (Pz WN.heap.size k v val (Dm (rs.map Bm)) es WS wr)) (fun i _=>k-(intOf i).toNat)
      case atStart=>exact⟨0,_,Nat.zero_le _,rfl,g6.out⟩
      case round=>
       obtain⟨v,es,hv,rfl,i3⟩:=hrel;clear g6;have p7:=(i3.out.kp.block q t6 (by omega)).trans b4q.out;by_cases hvk:v<k
       ·have u8:(v:Int)<(k:Int):=by omega
        have cq:=Mr p7 hvk;have s5:(Dm (rs.map Bm) v).length<=4000:=Nat.le_trans (List.length_filterMap_le _ _) (by omega);clear p7;go_wp2_with fail;refine(Adz (val v) WN.heap.size (Dm (rs.map Bm) v) wr (i3.out.lo v hvk rr) s5).mono ?_;rintro e w2 ⟨rfl,⟨A5,c5,d0q,m9,u3,u2⟩,t3⟩;have y5:=hI (i3.out.step hvk m9 u3 u2 t3);clear m9 u3 u2 t3 cq s5;go_wp2
        go_roundw
        case rel=>exact⟨v+1,_,by omega,by go_num,y5.out⟩
        case measure=>simp[intOf];omega
       ·obtain rfl:v=k:=by omega
        have a4q:Hid (Dr wr b v (rs.map Bm)):=by
         have b8q:b<WN.heap.size:=i2;have y6:b<WS.heap.size:=lt_of_block r8.out;refine i3.out.map ((i3.out.kp.block b y6 (by omega)).trans r8.out) ⟨?_,o8.out.2⟩ p7 j7.out (by omega) k8;exact Ts o8.out.1 i3.out.kp fun hn ad had e=>by have:=x9.out ad had;omega
        have y8:Hid (Below w.heap.size w wr):=o9.out.trans (i3.out.kp.to_below (fun i e=>by have:=a8.out.size;omega) o9.out.size);have p0:=i7;go_wp2
        go_ret2
        exact⟨.inr ⟨a9.out,b,rfl,by rw[p0.out];exact a4q.out⟩,y8.out⟩
end Go.Proofs.YtaglfmlgbcmakaaGreatDoor
