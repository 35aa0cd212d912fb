/-
  slices.Index and slices.Contains over sounds; inverse.refused, inverse.wrong.
  cmp.Compare, cmp.Or and feats.Order, with how the world grows; slices.Contains over sounds.
  slices.Values, slices.AppendSeq and slices.Collect over sounds.
  slices.SortFunc at this program: tables of numbers, and facts of the program (written by the kit's lay-plain).
  A word that make lays.
  slices.SortedFunc over the sounds of an alphabet: they come in order.
-/
import Derived.Sort.Grow
import Derived.Deep.Draws
import Derived.Shelf.SlSortCmp.NoneTotal
import Derived.Shelf.SlGeneric
import Derived.Lib.OwnBridge
import Derived.Test.YtlgliddhideflaaGreatDoorH01
import Derived.Test.YtlgliddhideflaaGreatDoorG40
set_option linter.all false
set_option maxRecDepth 100000
set_option maxHeartbeats 4000000
namespace Go.Proofs.YtlgliddhideflaaGreatDoor
open Go.RowKit Go.Shelf
def Kt (p m:Int)(s:Snd):Bool:=p==s.1 && m==s.2
theorem Ahb (p m:Int)(xs:List Snd):xs.any (Kt p m)=decide ((p,m)∈xs):=by
 rw[Bool.eq_iff_iff,List.any_eq_true,decide_eq_true_iff];constructor
 ·rintro⟨⟨a,b⟩,hs,h⟩;simp only[Kt,Bool.and_eq_true,beq_iff_eq]at h;obtain⟨rfl,rfl⟩:=h;exact hs
 ·exact fun h=>⟨_,h,by simp[Kt]⟩
theorem Al7 (A:Option Addr)(n c:Nat)(xs:List Snd)(p m:Int)(w:World)(hx:Ad w A n c xs):
  Calls Tryz.prog 144 #[.slice A n c,C6 p m] w fun e w'=>e= .returned (.int .i64 (Kw (Kt p m) xs))/\Below w.heap.size w w':=by
 have hm:=hx.max;have HX:=hI hx;clear hx;go_enter Tryz.func144,Tryz.ntmps144;go_wp2
 go_loopw [5,8] (fun _ i wr=>∃k:Nat,k<=n/\i= .int .i64 k/\Hid ((xs.take k).any (Kt p m)=false)/\wr.heap[w.heap.size]? =some (.cells #[.int .u32 p, .int .u32 m] 24 (0,0))/\Below w.heap.size w wr) (fun _ i _=>n-(intOf i).toNat)
 case atStart=>exact⟨0,Nat.zero_le _,rfl,by simp[Hid],hpt,bel⟩
 case round=>
  obtain⟨k,hk,rfl,HA,a0,hB⟩:=hrel;have b0:wr.cell? ⟨w.heap.size,0,none⟩=some (.int .u32 p):=Ab (j:=0) a0 rfl;have b1:wr.cell? ⟨w.heap.size,1,none⟩=some (.int .u32 m):=Ab (j:=1) a0 rfl;have a2:=hI a0;clear a0;by_cases hlt:k<n
  ·obtain⟨b,off,p',m',rfl,hb,a3,a6,a7⟩:=(HX.out.below hB rr).at_ hlt;have HK:=hI a3;clear a3;go_wp2;by_cases hp:Kt p m (p',m')=true
   ·have hr:=Lj (Kt p m) xs k (p',m') HK.out HA.out hp;have HR:=hI hr;clear hr;have a4:p=p'/\m=m':=by simpa[Kt]using hp
    clear hp;obtain⟨rfl,rfl⟩:=a4
    go_quiet (fail)
    go_wp2;go_ret;exact⟨by rw[HR.out];rfl,bel⟩
   ·have a1:Kt p m (p',m')=false:=by simpa using hp
    have HN:=hI (show(xs.take (k+1)).any (Kt p m)=false by rw[Bb xs k _ HK.out,List.any_append,HA.out];simp[a1]);by_cases h1:p=p'
    ·subst h1;have a5:(m==m')=false:=by simpa[Kt]using a1
     clear hp a1
     go_quiet (fail)
     go_wp2
     go_roundw
     case rel=>exact⟨k+1,by omega,by go_num,HN,a2.out,bel⟩
     case measure=>simp[intOf];omega
    ·have a5:(p==p')=false:=by simpa using h1
     clear hp a1 h1
     go_quiet (fail)
     go_wp2
     go_roundw
     case rel=>exact⟨k+1,by omega,by go_num,HN,a2.out,bel⟩
     case measure=>simp[intOf];omega
  ·obtain rfl:k=n:=by omega
   have hr:Kw (Kt p m) xs= -1:=by
    have:=HA.out
    rw[List.take_of_length_le (by rw[HX.out.len];exact rr)]at this;exact Li _ xs this
   have HR:=hI hr;clear hr;go_wp2;go_ret;exact⟨by rw[HR.out];rfl,bel⟩
theorem Akd (A:Option Addr)(n c:Nat)(xs:List Snd)(p m:Int)(w:World)(hx:Ad w A n c xs):
  Calls Tryz.prog 69 #[.slice A n c,C6 p m] w fun e w'=>e= .returned (.bool (decide ((p,m)∈xs)))/\Below w.heap.size w w':=by
 have H:=hI ((Mv (Kt p m) xs).trans (Ahb p m xs));have HX:=hI hx;clear hx;go_enter Tryz.func69,Tryz.ntmps69;go_wp2_with(go_at_call 144;refine(Al7 A n c xs p m _ (HX.out.below (show Below w.heap.size w _ from bel) rr)).mono ?_;rintro e w1 ⟨rfl,a0⟩;have a1:=Df a0;(try simp only[World.size_alloc,World.size_drew,World.size_setCell]at a1);have a2:Below w.heap.size w w1:=bel;clear a0);go_ret;refine⟨?_,a2⟩;show Ending.returned (.bool (decide (0<=Kw (Kt p m) xs)))=_;rw[H.out]
theorem Ael (p m:Int)(w:World):Calls Tryz.prog 222 #[C6 p m] w fun e w'=>e= .returned (.bool (!Br p m))/\Below w.heap.size w w':=by
 go_enter Tryz.func222,Tryz.ntmps222;go_wp2_with(go_at_call 93;refine(D3 _ _ _).mono ?_;rintro e w1 ⟨rfl,a0⟩;have a1:=Df a0;(try simp only[World.size_alloc,World.size_drew,World.size_setCell]at a1);have c0:=fun o=>a0.cell (p:=⟨w.heap.size,o,none⟩) sd;have f0:=fun o=>a0.frozen (p:=⟨w.heap.size,o,none⟩) sd;have a2:Below w.heap.size w w1:=bel;clear a0);go_ret;exact⟨rfl,bel⟩
theorem Ahc (A:Option Addr)(n c:Nat)(xs:List Snd)(w:World)(hx:Ad w A n c xs):
  Calls Tryz.prog 179 #[.slice A n c] w fun e w'=>e= .returned (.int .i64 (B1 xs))/\Below w.heap.size w w':=by
 have hm:=hx.max;have HL:Hid (xs.length=n):=hx.len;have HX:=hI hx;clear hx;by_cases h5:5<n
 ·have HR:Hid (B1 xs=12):=by show B1 xs=12;exact Q8 (by rw[HL.out];exact h5)
  go_enter Tryz.func179,Tryz.ntmps179;go_wp2;go_ret;exact⟨by rw[HR.out];rfl,Below.refl _ _⟩
 have a2:Hid (¬5<xs.length):=by show¬_;rw[HL.out];exact h5
 go_enter Tryz.func179,Tryz.ntmps179;go_wp2_with fail;refine(Vg A n c xs 222 #[] (fun s=> !Br s.1 s.2) w HX.out (enters_of Tryz.func222 (by kernel_rfl) rfl) (fun W hB s _=>Ael s.1 s.2 W)).mono ?_;rintro e w1 ⟨rfl,a0⟩
 cases hb:xs.any (fun s=> !Br s.1 s.2)with
 |true=>
  have HR:Hid (B1 xs=14):=by show B1 xs=14;unfold B1;rw[if_neg a2.out,if_pos hb]
  clear hb;go_wp2;go_ret;exact⟨by rw[HR.out];rfl,a0⟩
 |false=>
  have HV:Hid (∀s∈xs,Br s.1 s.2=true):=fun s hs=>by have:=List.any_eq_false.1 hb s hs;simpa using this
  clear hb;go_wp2
  go_loopw [3,4,12] (fun _ _ i wr=>∃k:Nat,k<=n/\i= .int .i64 k/\Hid ((xs.take k).Nodup)/\Below w.heap.size w wr) (fun _ _ i _=>n-(intOf i).toNat)
  case atStart=>exact⟨0,Nat.zero_le _,rfl,by simp[Hid],a0⟩
  case round=>
   clear a0;obtain⟨k,hk,rfl,HN,hB⟩:=hrel;by_cases hlt:k<n
   ·have a1:=HX.out.below hB rr;obtain⟨b,off,p',m',rfl,hb,a4,a9,b1⟩:=a1.at_ hlt;have HK:=hI a4;clear a4;have b2:=a1.2.1;have a8:=hI (Ad.take a1 (show k<=n by omega));clear a1;have b0:(k:Int)<=(c:Int):=by omega
    go_wp2
    go_region_held3 (fun w'=>w'.cell? ⟨wr.heap.size,0,none⟩=some (.int .u32 p')/\w'.cell? ⟨wr.heap.size,1,none⟩=some (.int .u32 m')) (first|(go_keep;done)|((try dsimp only);((repeat' apply And.intro)<;>(try simp(disch:=omega) only[Cb,Bn,World.cell?_drew])<;>first|assumption|(simp[*,go_sem];done)))) ((go_at_call 69;refine(Akd _ _ _ (xs.take k) p' m' _ (a8.out.below (show Below wr.heap.size wr _ from bel) rr)).mono ?_;rintro e w1 ⟨rfl,a0⟩;have a7:=Df a0;(try simp only[World.size_alloc,World.size_drew,World.size_setCell]at a7);have c0:=fun o=>a0.cell (p:=⟨wr.heap.size,o,none⟩) sd;have f0:=fun o=>a0.frozen (p:=⟨wr.heap.size,o,none⟩) sd;have a3:Below wr.heap.size wr w1:=bel;clear a0))
    by_cases hin:(p',m')∈xs.take k
    ·have HR:Hid (B1 xs=6):=by
      show B1 xs=6;obtain⟨j,hj,a5⟩:=List.getElem_of_mem hin;rw[List.length_take]at hj;rw[List.getElem_take]at a5;exact N8 a2.out HV.out (k:=j) (by omega) HK.out (by rw[List.getElem?_eq_getElem (by omega),a5])
     rw[decide_eq_true hin];clear hin;go_wp2;go_ret;exact⟨by rw[HR.out];rfl,hB.trans (a3.mono hB.size)⟩
    ·have a6:=hI (Wj HK.out HN.out hin);rw[decide_eq_false hin];clear hin;go_wp2
     go_roundw
     case rel=>exact⟨k+1,by omega,by go_num,a6,hB.trans (a3.mono hB.size)⟩
     case measure=>simp[intOf];omega
   ·obtain rfl:k=n:=by omega
    have HR:Hid (B1 xs=0):=by
     have:=HN.out
     rw[List.take_of_length_le (by rw[HL.out];exact rr)]at this;exact Wi a2.out HV.out this
    go_wp2;go_ret;exact⟨by rw[HR.out];rfl,hB⟩
theorem Uw (A:Option Addr)(n c:Nat)(xs:List Co)(Aw:Option Addr)(nw cw:Nat)(ws:List Snd)(As:Option Addr)(ns cs:Nat)(ss:List Snd)(w:World)(hx:B4 w A n c xs)(hw:Ad w Aw nw cw ws)(hs:Ad w As ns cs ss):
  Calls Tryz.prog 140 #[.slice A n c, .slice Aw nw cw, .slice As ns cs] w fun e w'=>e= .returned (.int .i64 (B7 (Ah xs) ws ss))/\Below w.heap.size w w':=by
 have HX:=hI hx;have HW:=hI hw;have HS:=hI hs;clear hx hw hs;go_enter Tryz.func140,Tryz.ntmps140;go_wp2_with fail;refine(Aas A n c xs w HX.out).mono ?_;rintro e w1 ⟨rfl,a3⟩;have a0:=hI a3;clear a3;by_cases h1:C5 (Ah xs)=0
 case neg=>
  have a7:(C5 (Ah xs) !=0)=true:=by simpa using h1
  have HR:Hid (B7 (Ah xs) ws ss=C5 (Ah xs)):=by show B7 _ _ _=_;unfold B7;rw[if_pos h1]
  clear h1;go_wp2;go_ret;exact⟨by rw[HR.out];rfl,a0.out⟩
 have a7:(C5 (Ah xs) !=0)=false:=by simpa using h1
 have a2:Hid (B7 (Ah xs) ws ss=if Bs ws≠0 then Bs ws else B1 ss):=by show B7 _ _ _=_;unfold B7;rw[if_neg (by simpa using h1)]
 clear h1;go_wp2_with fail;refine(Wz Aw nw cw ws w1 (HW.out.below a0.out rr)).mono ?_;rintro e w2 ⟨rfl,a5⟩;have a1:=hI (a0.out.trans (a5.mono a0.out.size));clear a5;by_cases h2:Bs ws=0
 case neg=>
  have a8:(Bs ws !=0)=true:=by simpa using h2
  have HR:Hid (B7 (Ah xs) ws ss=Bs ws):=by show B7 _ _ _=_;rw[a2.out,if_pos h2]
  clear h2;go_wp2;go_ret;exact⟨by rw[HR.out];rfl,a1.out⟩
 have a8:(Bs ws !=0)=false:=by simpa using h2
 have HR:Hid (B7 (Ah xs) ws ss=B1 ss):=by show B7 _ _ _=_;rw[a2.out,if_neg (by simpa using h2)]
 clear h2;go_wp2_with fail;refine(Ahc As ns cs ss w2 (HS.out.below a1.out rr)).mono ?_;rintro e w3 ⟨rfl,a4⟩;have a6:=hI (a1.out.trans (a4.mono a1.out.size));clear a4;go_wp2;go_ret;exact⟨by rw[HR.out];rfl,a6.out⟩
structure Fb (w w':World):Prop where
 b:Below w.heap.size w w'
 d:w.drawn<=w'.drawn
namespace Fb
variable {w w' w'':World}
theorem refl (w:World):Fb w w:=⟨Below.refl _ _,rr⟩
theorem trans (h:Fb w w')(k:Fb w' w''):Fb w w'':=⟨h.b.trans (k.b.mono h.b.size),Nat.le_trans h.d k.d⟩
theorem alloc (h:Fb w w')(o:Obj):Fb w (w'.alloc o):=⟨h.b.alloc h.b.size _,h.d⟩
theorem drew (h:Fb w w'):Fb w w'.drew:=⟨h.b.drew,Nat.le_succ_of_le h.d⟩
theorem eq (h:Fb w w'):∃q os,w'=Sort.grow (w.drewN q) os:=by
 refine⟨w'.drawn-w.drawn,w'.heap.extract w.heap.size w'.heap.size, ?_⟩;obtain⟨⟨h1,h2,h3,h4,h5⟩,h6⟩:=h
 have hh:w'.heap=w.heap++w'.heap.extract w.heap.size w'.heap.size:=by
  apply Array.ext_getElem?;intro i;rcases Nat.lt_or_ge i w.heap.size with h|h
  ·rw[h5 i h,Array.getElem?_append_left h]
  ·rw[Array.getElem?_append_right h,Array.getElem?_extract];rcases Nat.lt_or_ge i w'.heap.size with h'|h'
   ·rw[if_pos (by omega),show w.heap.size+(i-w.heap.size)=i by omega]
   ·rw[if_neg (by omega),Array.getElem?_eq_none h']
 unfold Sort.grow World.drewN;obtain⟨a0,tape',drawn',os',output'⟩:=w';obtain⟨heap,tape,drawn,os,output⟩:=w;simp only at*;subst h1 h2 h3;rw[←hh];congr 1;omega
end Fb
def F6 (x y:Int):Int:=if x<y then-1 else if y<x then 1 else 0
theorem Zb (x:Int)(w:World):Calls Tryz.prog 234 #[.int .u32 x] w fun e w'=>e= .returned (.bool false)/\w'=w:=by
 go_enter Tryz.func234,Tryz.ntmps234;go_wp2;go_ret;simp
theorem Zc (x y:Int)(w:World):Calls Tryz.prog 203 #[.int .u32 x, .int .u32 y] w fun e w'=>e= .returned (.int .i64 (F6 x y))/\w'=w:=by
 go_enter Tryz.func203,Tryz.ntmps203;by_cases h1:x<y
 ·have h2:F6 x y= -1:=by unfold F6;rw[if_pos h1]
  rw[h2];go_wp2_with(go_at_call 234;refine(Zb _ _).mono ?_;rintro e w1 ⟨rfl,rfl⟩);go_ret;exact⟨rfl,rfl⟩
 ·by_cases h2:y<x
  ·have h3:F6 x y=1:=by unfold F6;rw[if_neg h1,if_pos h2]
   rw[h3];go_wp2_with(go_at_call 234;refine(Zb _ _).mono ?_;rintro e w1 ⟨rfl,rfl⟩);go_ret;exact⟨rfl,rfl⟩
  ·have h3:F6 x y=0:=by unfold F6;rw[if_neg h1,if_neg h2]
   rw[h3];go_wp2_with(go_at_call 234;refine(Zb _ _).mono ?_;rintro e w1 ⟨rfl,rfl⟩);go_ret;exact⟨rfl,rfl⟩
def orI (x y:Int):Int:=if x≠0 then x else y
theorem Aht (x y:Int)(b:Nat)(w:World)(h0:w.cell? ⟨b,0,none⟩=some (.int .i64 x))(h1:w.cell? ⟨b,1,none⟩=some (.int .i64 y)):
  Calls Tryz.prog 116 #[.slice (some ⟨b,0,none⟩) 2 2] w fun e w'=>e= .returned (.int .i64 (orI x y))/\w'=w:=by
 go_enter Tryz.func116,Tryz.ntmps116;go_wp2
 go_loopw [5,8] (fun _ i wr=>∃k:Nat,k<=2/\i= .int .i64 k/\(0<k->x=0)/\(1<k->y=0)/\wr=w) (fun _ i _=>2-(intOf i).toNat)
 case atStart=>exact⟨0,by omega,rfl,by omega,by omega,rfl⟩
 case round=>
  obtain⟨k,hk,rfl,hx,hy,rfl⟩:=hrel;have a2:k=0\/k=1\/k=2:=by omega
  rcases a2 with rfl|rfl|rfl
  ·by_cases h:x=0
   ·subst h;go_wp2
    go_roundw
    case rel=>exact⟨1,by omega,rfl,by simp,by simp,by simp⟩
    case measure=>simp[intOf]
   ·have hb:(x !=0)=true:=by simpa using h
    go_wp2;go_ret;exact⟨by unfold orI;rw[if_pos h];rfl,rfl⟩
  ·have a0:=hx (by omega);subst a0;by_cases h:y=0
   ·subst h;go_wp2
    go_roundw
    case rel=>exact⟨2,by omega,rfl,by simp,by simp,by simp⟩
    case measure=>simp[intOf]
   ·have hb:(y !=0)=true:=by simpa using h
    go_wp2;go_ret;exact⟨by unfold orI;rw[if_neg (by simp)];rfl,rfl⟩
  ·have a0:=hx (by omega);have a1:=hy (by omega);subst a0 a1;go_wp2;go_ret;exact⟨rfl,rfl⟩
def Js (a b:Snd):Int:=orI (F6 a.1 b.1) (F6 a.2 b.2)
theorem Ahu (p m p' m':Int)(w:World):Calls Tryz.prog 192 #[C6 p m,C6 p' m'] w fun e w'=>e= .returned (.int .i64 (Js (p,m) (p',m')))/\Fb w w':=by
 go_enter Tryz.func192,Tryz.ntmps192;go_wp2_with fail;obtain⟨W,hW⟩:∃W,W=(w.alloc (.cells #[.int .u32 p, .int .u32 m] 24)).alloc (.cells #[.int .u32 p', .int .u32 m'] 24):=⟨_,rfl⟩;have hG:Fb w W:=by rw[hW];exact((Fb.refl w).alloc _).alloc _
 have k0:W.heap[w.heap.size]? =some (.cells #[.int .u32 p, .int .u32 m] 24 (0,0)):=by rw[hW];exact hpt
 have k1:W.heap[w.heap.size+1]? =some (.cells #[.int .u32 p', .int .u32 m'] 24 (0,0)):=by rw[hW];exact hpt
 rw[←hW];clear hW
 have hS:W.drew.cell? ⟨w.heap.size,0,none⟩=some (.int .u32 p)/\W.drew.cell? ⟨w.heap.size,1,none⟩=some (.int .u32 m)/\W.drew.cell? ⟨w.heap.size+1,0,none⟩=some (.int .u32 p')/\W.drew.cell? ⟨w.heap.size+1,1,none⟩=some (.int .u32 m'):=
  ⟨Ab k0 rfl,Ab k0 rfl,Ab k1 rfl,Ab k1 rfl⟩
 have a0:w.heap.size<W.heap.size/\w.heap.size+1<W.heap.size:=⟨lt_of_block k0,lt_of_block k1⟩;generalize w.heap.size=b0 at*;refine Bj (fun W'=>W'.cell? ⟨b0,0,none⟩=some (.int .u32 p)/\W'.cell? ⟨b0,1,none⟩=some (.int .u32 m)/\W'.cell? ⟨b0+1,0,none⟩=some (.int .u32 p')/\W'.cell? ⟨b0+1,1,none⟩=some (.int .u32 m')) (by kernel_rfl) hS (fun hHeld=> ?_)
 (refine' Aa 0 rfl ?_;(try simp only[Act.put,nY,nX]));(refine' Aa 1 rfl ?_;(try simp only[Act.put,nY,nX]));(refine' Aa 2 rfl ?_;(try simp only[Act.put,nY,nX]));(refine' Aa 3 rfl ?_;(try simp only[Act.put,nY,nX]));(refine' Aa 5 rfl ?_;(try simp only[Act.put,nY,nX]));(refine' Aa 6 rfl ?_;(try simp only[Act.put,nY,nX]));(refine' Aa 7 rfl ?_;(try simp only[Act.put,nY,nX]));(refine' Aa 8 rfl ?_;(try simp only[Act.put,nY,nX]))
 (refine Aqq 4 rfl (fun K' hK'=> ?_);simp only[nY];go_simp)
 refine(Zc p p' W.drew).mono ?_;rintro e w1 ⟨rfl,rfl⟩;refine hK' _ _ ⟨.inr hS,fun _=> ?_⟩
 clear hK' K'
 (try simp only[Act.put,nY,nX])
 (refine Aqq 9 rfl (fun K' hK'=> ?_);simp only[nY];go_simp)
 refine(Zc m m' W.drew).mono ?_;rintro e w1 ⟨rfl,rfl⟩;refine hK' _ _ ⟨.inr hS,fun _=> ?_⟩
 clear hK' K'
 (try simp only[Act.put,nY,nX])
 (refine Aqq 10 rfl (fun K' hK'=> ?_);simp only[nY];go_simp)
 refine hK' _ _ ⟨.inr ⟨(Bn (by simpa using a0.1)).trans hS.1,(Bn (by simpa using a0.1)).trans hS.2.1,(Bn (by simpa using a0.2)).trans hS.2.2.1,(Bn (by simpa using a0.2)).trans hS.2.2.2⟩,fun _=> ?_⟩
 clear hK' K'
 (try simp only[Act.put,nY,nX])
 (refine Aqq 11 rfl (fun K' hK'=> ?_);simp only[nY];go_simp)
 refine(Aht (F6 p p') (F6 m m') W.heap.size (W.drew.alloc (.cells #[.int .i64 (F6 p p'), .int .i64 (F6 m m')] 3)) (Cd (w:=W.drew) rfl) (Cd (w:=W.drew) rfl)).mono ?_;rintro e w1 ⟨rfl,rfl⟩;refine hK' _ _ ⟨.inr ⟨(Bn (by simpa using a0.1)).trans hS.1,(Bn (by simpa using a0.1)).trans hS.2.1,(Bn (by simpa using a0.2)).trans hS.2.2.1,(Bn (by simpa using a0.2)).trans hS.2.2.2⟩,fun _=> ?_⟩
 clear hK' K'
 (try simp only[Act.put,nY,nX])
 (refine Aqq 12 rfl (fun K' hK'=> ?_);simp only[nY];go_simp)
 refine hK' _ _ ⟨.inl (by kernel_rfl),fun _=>Be (by kernel_rfl) ?_ _⟩
 clear hK' K';go_wp2;go_ret;exact⟨rfl,(hG.drew).alloc _⟩
end Go.Proofs.YtlgliddhideflaaGreatDoor
namespace Go.Proofs.YtlgliddhideflaaGreatDoor
open Go.RowKit Go.Shelf
attribute [local go_sem] Oper.semAt_some
theorem Zd (m lr bs:Nat)(hm:1<=m)(A:Option Addr)(n c:Nat)(ss:List Snd)(J:Nat->World->Prop)(W:World)
  (hst:∀i W' W'',J i W'->Below W'.heap.size W' W''->J i W'')
  (hrd:∀i W',J i W'->W'.heap[bs]? =some (.cells #[.slice A n c] 32 (0,0))/\Ad W' A n c ss)
  (hy:∀i W' s,ss[i]? =some s->J i W'->YieldAt Fence.wide 0 Tryz.prog lr #[C6 s.1 s.2] W' (fun e W''=>e= .returned (.bool true)/\J (i+1) W''))
  (h0:J 0 W) (hn:n<=4096):
  CallsIn Fence.wide m Tryz.prog 228 #[.func (.yield lr) #[] #[], .pointer (some ⟨bs,0,none⟩)] W fun e W'=>(∃v,e= .returned v)/\J n W':=by
 have a7:=hI hst;clear hst;have a0:=hI hrd;clear hrd;have HY:=hI hy;clear hy;obtain⟨r1,r2⟩:=a0.out _ _ h0;have H0:=hI h0;clear h0;have e1:=cell_of_one r1;have a4:=r2.len;have b1:=hI a4;clear a4 r1 r2;refine callsIn_of_wp Tryz.func228 rfl trivial ?_;simp only[Tryz.ntmps228,List.size_toArray,List.length_cons,List.length_nil,Nat.reduceAdd,Nat.reduceSub,Array.replicate_succ,Array.replicate_zero,List.push_toArray,List.append_toArray,List.nil_append,List.cons_append];gi_wp2;clear e1
 gi_loopw [7] (fun i wr=>∃k:Nat,i= .int .i64 k/\k<=n/\Hid (J k wr)) (fun i _=>n-(intOf i).toNat)
 case atStart=>exact⟨0,rfl,Nat.zero_le _,H0⟩
 case round=>
  obtain⟨k,rfl,hk,HJ⟩:=hrel;by_cases hlt:k<n
  ·obtain⟨r1,r2⟩:=a0.out _ _ HJ.out;obtain⟨b,off,p,q,rfl,hb,a3,a9,b0⟩:=r2.at_ hlt;have a5:=hI a3;clear a3 r1 r2;have a2:=a7.out _ _ _ HJ.out (show Below wr.heap.size wr (wr.alloc (.cells #[.int .u32 p, .int .u32 q] 24))from bel);obtain⟨fn,tmps,assign,body,a8,hR⟩:=Fp (m':=m-1) (HY.out k _ (p,q) a5.out a2);have HR:=hI hR;clear hR a2;gi_wp2;refine HR.out.mono ?_;rintro e W2 ⟨rfl,a1⟩;have a6:=hI a1;clear a8 a1;gi_wp2
   go_roundw
   case rel=>exact⟨k+1,by go_num,by omega,a6⟩
   case measure=>simp[intOf];omega
  ·obtain rfl:k=n:=by omega
   gi_wp2
   go_end0
   exact⟨⟨_,rfl⟩,HJ.out⟩
theorem Aae (A:Option Addr)(n c:Nat)(w:World):Calls Tryz.prog 191 #[.slice A n c] w fun e w'=>
  e= .returned (.func (.func 228) #[] #[.pointer (some ⟨w.heap.size,0,none⟩)])/\w'=w.alloc (.cells #[.slice A n c] 32):=by
 go_enter Tryz.func191,Tryz.ntmps191;go_wp2;go_ret;exact⟨rfl,rfl⟩
theorem Aeu {w:World}{b b':Nat}{e:TypeId}{sz n:Nat}{v:Value}{xs:List Value}(h:w.ownsRow b e sz v n xs)(hb:b'<=b):w.ownsRow b' e sz v n xs:=by
 obtain⟨h1,h2|⟨g,cap,cur,h2,h3,h4⟩⟩:=h
 ·exact⟨h1, .inl h2⟩
 ·exact⟨h1, .inr ⟨g,cap,cur,h2,by omega,h4⟩⟩
theorem Ahv (bs:Nat)(A:Option Addr)(n c:Nat)(ss:List Snd)(w:World)(hb:w.heap[bs]? =some (.cells #[.slice A n c] 32 (0,0)))(hs:Ad w A n c ss)(hn:n<=4000):
  Calls Tryz.prog 252 #[.slice none 0 0, .func (.func 228) #[] #[.pointer (some ⟨bs,0,none⟩)]] w fun e w'=>
   ∃v,e= .returned v/\w'.ownsRow w.heap.size 24 2 v n (Bl ss)/\Below w.heap.size w w':=by
 have b7:=lt_of_block hb;have HB:=hI hb;clear hb;have b1:=hs.len;have b3:=hI b1;clear b1;have HS:=hI hs;clear hs;refine(callsIn_wide (n:=9)).1 (callsIn_of_wp_marks Tryz.func252 rfl trivial ?_ rfl);simp only[Tryz.ntmps252,List.size_toArray,List.length_cons,List.length_nil,Nat.reduceAdd,Nat.reduceSub,Array.replicate_succ,Array.replicate_zero,List.push_toArray,List.append_toArray,List.nil_append,List.cons_append];gi_wp2;have d1:(w.alloc (.cells #[.slice none 0 0] 32)).heap[w.heap.size]? =some (.cells #[.slice none 0 0] 32 (0,0)):=Ak rfl;have d6:(w.alloc (.cells #[.slice none 0 0] 32)).heap.size=w.heap.size+1:=by simp
 have b8:Aj (fun _=>False) w (w.alloc (.cells #[.slice none 0 0] 32)):=(Aj.refl _ _).alloc _;generalize(w.alloc (.cells #[.slice none 0 0] 32))=W0 at*;refine Dt (gf:=228) (lb:= #[.pointer (some ⟨bs,0,none⟩)]) rfl (enters_of Tryz.func228 (by kernel_rfl) rfl) fun fn D l rc W1 hrc hD hl hK1 hD1 hl1 hs1=> ?_
 have f3:w.heap.size<D:=by omega
 have f5:D<l:=by omega
 have f0:l<W1.heap.size:=by omega
 have d2:=hI hrc;clear hrc;have d4:Aj (fun _=>False) w W1:=b8.trans hK1;have d8:W1.heap[w.heap.size]? =some (.cells #[.slice none 0 0] 32 (0,0)):=(hK1.block _ (by omega) (by simp)).trans d1;have a5:=hI d4;clear hD hl hs1 d6 hK1
 obtain⟨J,hJ⟩:∃J:Nat->World->Prop,J=fun i W=>∃v,W.heap[w.heap.size]? =some (.cells #[v] 32 (0,0))∧
   W.ownsRow W1.heap.size 24 2 v i (Bl (ss.take i))/\Aj (fun j=>j=w.heap.size\/j=l) W1 W/\W.heap[l]? =some (.loop (rc .ready none)):=⟨_,rfl⟩
 have HJ:=hI hJ;clear hJ;refine(Zd (9-1) l bs (by omega) A n c ss J W1 ?st ?rd ?yield ?zero (by omega)).mono ?_
 case st=>
  intro i W W' hx hb;rw[HJ.out]at hx ⊢;obtain⟨v,h2,h3,h4,h5⟩:=hx;exact⟨v,(hb.block _ (lt_of_block h2)).trans h2,B0 h3 fun k e=>hb.block k (h3.lt k e).2,h4.below hb rr,(hb.block _ (lt_of_block h5)).trans h5⟩
 case rd=>
  intro i W hx;rw[HJ.out]at hx;obtain⟨v,h2,h3,h4,h5⟩:=hx;have hk:Aj (fun j=>j=w.heap.size\/j=l) w W:=(a5.out.mono (fun k hk=>hk.elim)).trans h4
  exact⟨(hk.block _ b7 (by omega)).trans HB.out,HS.out.keep hk fun hn ad had e=>by
   obtain⟨b,off,hb,d9,_⟩:=HS.out.2.2.2.2 hn;rw[had]at hb;injection hb with hb;subst hb
   simp only at e;omega⟩
 case zero=>
  rw[HJ.out];exact⟨_,d8,World.ownsRow_nil _ _ _ _,Aj.refl _ _,hl1⟩
 case yield=>
  intro i W s a3 hx;rw[HJ.out]at hx;obtain⟨v,h2,h3,h4,h5⟩:=hx;refine Du d2.out h5 rfl ?_;have H5:=hI h5;clear h5;have H2:=hI h2;clear h2;have H3:=hI h3;clear h3;have H4:=hI h4;clear h4;have hi:i<n:=by have:=(List.getElem?_eq_some_iff.1 a3).1;rw[b3.out]at this;exact this
  have b9:=hI a3;clear a3;gi_wp2;have a9:l<W.heap.size:=lt_of_block H5.out;have x2:(W.alloc (.cells #[.int .u32 s.1, .int .u32 s.2] 24)).heap[W.heap.size]? =some (.cells #[.int .u32 s.1, .int .u32 s.2] 24 (0,0)):=Ak rfl;have x3:(W.alloc (.cells #[.int .u32 s.1, .int .u32 s.2] 24)).heap[l]? =some (.loop (rc .ready none)):=(Am a9).trans H5.out;have x4:(W.alloc (.cells #[.int .u32 s.1, .int .u32 s.2] 24)).heap[w.heap.size]? =some (.cells #[v] 32 (0,0)):=(Am (lt_of_block H2.out)).trans H2.out;have x5:(W.alloc (.cells #[.int .u32 s.1, .int .u32 s.2] 24)).ownsRow W1.heap.size 24 2 v i (Bl (ss.take i)):=H3.out.alloc _;have x6:Aj (fun j=>j=w.heap.size\/j=l) W1 (W.alloc (.cells #[.int .u32 s.1, .int .u32 s.2] 24)):=H4.out.alloc _;have d5:=H4.out.size;obtain⟨g,hg⟩:∃g,g=W.heap.size:=⟨_,rfl⟩;rw[←hg]at x2 a9 d5 ⊢;generalize(W.alloc (.cells #[.int .u32 s.1, .int .u32 s.2] 24))=U at*;clear hg;refine⟨x3, ?_⟩;have f1:=lt_of_block x2;have y1:(U.putObj l (.loop (rc .busy none))).heap[l]? =some (.loop (rc .busy none)):=World.putObj_heap_same (lt_of_block x3);have y2:(U.putObj l (.loop (rc .busy none))).heap[g]? =some (.cells #[.int .u32 s.1, .int .u32 s.2] 24 (0,0)):=(World.putObj_heap_other (by omega)).trans x2;have y4:(U.putObj l (.loop (rc .busy none))).heap[w.heap.size]? =some (.cells #[v] 32 (0,0)):=(World.putObj_heap_other (by omega)).trans x4;have y5:(U.putObj l (.loop (rc .busy none))).ownsRow W1.heap.size 24 2 v i (Bl (ss.take i)):=ownsRow_putObj x5 _ x3 rfl;have y6:Aj (fun j=>j=w.heap.size\/j=l) W1 (U.putObj l (.loop (rc .busy none))):=x6.putObj (by simp) _;clear x2 x3 x4 x5 x6;generalize U.putObj l (.loop (rc .busy none))=V at*;have c0:=Ab (j:=0) y2 rfl;have c1:=Ab (j:=1) y2 rfl;have c2:=cell_of_one y4;have f2:=free_of_one y4;have Y1:=hI y1;clear y1;have Y2:=hI y2;clear y2;have Y4:=hI y4;clear y4;have Y5:=hI y5;clear y5;have Y6:=hI y6;clear y6
  gi_wp2_with (gi_at_builtin;refine J3 rfl (.tmp 8) (.tmp 10) 32 rfl W1.heap.size 24 (.agg #[.int .u32 0, .int .u32 0]) 2 8 Tryz.underlying32 Lh rfl (by decide) v i (Bl (ss.take i)) rfl (Y5.out.alloc _) ⟨V.heap.size,0,none⟩ 1 1 [.int .u32 s.1, .int .u32 s.2] rfl rfl ?hcells (by intro u hu;simp at hu;rcases hu with rfl|rfl<;>rfl) (by unfold maxLen;omega) (by omega) (by have:=Y6.out.size;simp;omega) ?hk)
  case hcells=>exact Jh V [.int .u32 s.1, .int .u32 s.2] 24
  case hk=>
   intro v' w4 a0 a2 _;obtain⟨g4,cap4,rfl⟩:=ownsRow_succ a0;obtain⟨v',a4⟩:∃v',v'=Value.slice (some ⟨g4,0,none⟩) (i+1) cap4:=⟨_,rfl⟩;rw[←a4]at a0;have b6:=hI a4;clear a4;have a1:∀k,some k=v.ownBlock->W1.heap.size<=k/\k<V.heap.size:=fun k hk=>⟨(Y5.out.lt k hk.symm).1,(Y5.out.lt k hk.symm).2⟩
   have d7:=lt_of_block Y1.out;have d0:=lt_of_block Y4.out;have p2:w4.heap[w.heap.size]? =some (.cells #[v] 32 (0,0)):=(a2.block _ (by simp;omega) (fun e=>by have:=a1 _ e;omega)).trans ((Am d0).trans Y4.out);have pl:w4.heap[l]? =some (.loop (rc .busy none)):=(a2.block _ (by simp;omega) (fun e=>by have:=a1 _ e;omega)).trans ((Am d7).trans Y1.out);have pK:Aj (fun j=>j=w.heap.size\/j=l) W1 w4:=(Y6.out.alloc _).grown a2 (fun k hk=> .inr (a1 k hk.symm).1);have c4:=cell_of_one p2;have f4:=free_of_one p2;have b2:v'.ownBlock≠some w.heap.size:=fun e=>by have:=(a0.lt _ e).1;omega
   have s2:=one_setCell (u:=v') p2;have s3:=ownsRow_setCell_other a0 (a:=⟨w.heap.size,0,none⟩) b2 v';have sl:=(Below.heap_setCell w4 ⟨w.heap.size,0,none⟩ v' l (by simp;omega)).trans pl;have sK:=pK.setCell (p:=⟨w.heap.size,0,none⟩) (by simp) v';rw[b6.out]at s2 s3 sl sK;have P2:=hI p2;clear p2;have S2:=hI s2;clear s2;have S3:=hI s3;clear s3;have SL:=hI sl;clear sl;have SK:=hI sK;clear sK;clear a0 a2 a1 c2 f2 b2 pl pK;have b4:ss.take (i+1)=ss.take i++[s]:=Bb ss i _ b9.out;have b5:=hI b4;clear b4;gi_wp2;refine⟨SL.out,rfl, ?_⟩;rw[HJ.out];refine⟨_,(World.putObj_heap_other (by omega)).trans S2.out, ?_,SK.out.putObj (by simp) _,World.putObj_heap_same (lt_of_block SL.out)⟩;have h:=ownsRow_putObj S3.out (.loop (rc .ready none)) SL.out rfl;rw[b5.out,Fx];exact h
 ·rintro e W' ⟨⟨v,rfl⟩,hx⟩;rw[HJ.out]at hx;obtain⟨v',h2,h3,h4,h5⟩:=hx;rw[List.take_of_length_le (by rw[b3.out];exact rr)]at h3;refine .inl ⟨h5, ?_⟩;have a8:Aj (fun j=>j=w.heap.size\/j=l) W1 (W'.putObj l (.loop (rc .exhausted none))):=h4.putObj (by simp) _;have b0:(W'.putObj l (.loop (rc .exhausted none))).heap[w.heap.size]? =some (.cells #[v'] 32 (0,0)):=(World.putObj_heap_other (by omega)).trans h2;have a7:=ownsRow_putObj h3 (.loop (rc .exhausted none)) h5 rfl;generalize W'.putObj l (.loop (rc .exhausted none))=X at*;have c2:=cell_of_one b0;have a6:=hI a8;clear a8;have d3:=hI a7;clear a7 h2 h3 h4 h5 b0;gi_wp2;have hM:Dd w.heap.size X [Ft D]:=⟨D,rfl,by omega,(a6.out.block D (by omega) (by omega)).trans hD1,by simp,trivial⟩;refine Gv (B:=w.heap.size) Tryz.results252 v' rfl hM fun w' hw'=>⟨v',rfl, ?_, ?_⟩
  ·exact Aeu (Lr d3.out hw') (by have:=a5.out.size;omega)
  ·exact(Yf ((a5.out.mono (fun k hk=>hk.elim)).trans a6.out) hw' rr).to_below (fun k hk=>by omega) rr
theorem Afo (bs:Nat)(A:Option Addr)(n c:Nat)(ss:List Snd)(w:World)(hb:w.heap[bs]? =some (.cells #[.slice A n c] 32 (0,0)))(hs:Ad w A n c ss)(hn:n<=4000):
  Calls Tryz.prog 226 #[.func (.func 228) #[] #[.pointer (some ⟨bs,0,none⟩)]] w fun e w'=>
   ∃v,e= .returned v/\w'.ownsRow w.heap.size 24 2 v n (Bl ss)/\Below w.heap.size w w':=by
 have h:=Ahv bs A n c ss w hb hs hn;clear hb hs;go_enter Tryz.func226,Tryz.ntmps226;go_wp2_with fail;refine h.mono ?_;rintro e w1 ⟨v,rfl,hC,hK⟩;have HC:=hI hC;clear hC;go_wp2;go_ret;exact⟨_,rfl,HC.out,hK⟩
end Go.Proofs.YtlgliddhideflaaGreatDoor
namespace Go.Proofs
open Go.Shelf
def Tryz.sortSnd_ren:Go.Shelf.Ren:=⟨fun|6=>227|15=>163|14=>253|28=>201|29=>202|20=>268|21=>269|22=>270|23=>271|24=>272|25=>273|26=>274|27=>275|46=>290|47=>230|48=>231|49=>291|50=>292|57=>304|n=>n,fun|22=>32|24=>24|25=>199|3=>3|39=>175|0=>0|53=>22|55=>217|4=>4|46=>229|45=>228|50=>158|5=>5|9=>9|66=>250|70=>254|76=>270|77=>183|n=>n,fun|n=>n⟩
theorem Tryz.sortSnd:Go.Proofs.SlLaysF0.n6 Tryz.prog Tryz.sortSnd_ren:={
 mixed:=by kernel_rfl
 f6:=⟨Tryz.f227.name,by decide,Tryz.func227.trans (congrArg some (by kernel_rfl))⟩
 f14:=⟨Tryz.f253.name,by decide,Tryz.func253.trans (congrArg some (by kernel_rfl))⟩
 f15:=Tryz.func163.trans (congrArg some (by kernel_rfl))
 f20:=⟨Tryz.f268.name,by decide,Tryz.func268.trans (congrArg some (by kernel_rfl))⟩
 f21:=⟨Tryz.f269.name,by decide,Tryz.func269.trans (congrArg some (by kernel_rfl))⟩
 f22:=⟨Tryz.f270.name,by decide,Tryz.func270.trans (congrArg some (by kernel_rfl))⟩
 f23:=⟨Tryz.f271.name,by decide,Tryz.func271.trans (congrArg some (by kernel_rfl))⟩
 f24:=⟨Tryz.f272.name,by decide,Tryz.func272.trans (congrArg some (by kernel_rfl))⟩
 f25:=⟨Tryz.f273.name,by decide,Tryz.func273.trans (congrArg some (by kernel_rfl))⟩
 f26:=⟨Tryz.f274.name,by decide,Tryz.func274.trans (congrArg some (by kernel_rfl))⟩
 f27:=⟨Tryz.f275.name,by decide,Tryz.func275.trans (congrArg some (by kernel_rfl))⟩
 f28:=Tryz.func201.trans (congrArg some (by kernel_rfl))
 f29:=Tryz.func202.trans (congrArg some (by kernel_rfl))
 f46:=⟨Tryz.f290.name,by decide,Tryz.func290.trans (congrArg some (by kernel_rfl))⟩
 f47:=Tryz.func230.trans (congrArg some (by kernel_rfl))
 f48:=Tryz.func231.trans (congrArg some (by kernel_rfl))
 f49:=⟨Tryz.f291.name,by decide,Tryz.func291.trans (congrArg some (by kernel_rfl))⟩
 f50:=⟨Tryz.f292.name,by decide,Tryz.func292.trans (congrArg some (by kernel_rfl))⟩
 f57:=⟨Tryz.f304.name,by decide,Tryz.func304.trans (congrArg some (by kernel_rfl))⟩
 t0:=Tryz.underlying0
 a0:=Tryz.isAgg0
 z0:=Tryz.sizeOf0
 v0:=Tryz.zeroValue0
 t3:=Tryz.underlying3
 a3:=Tryz.isAgg3
 z3:=Tryz.sizeOf3
 v3:=Tryz.zeroValue3
 t4:=Tryz.underlying4
 a4:=Tryz.isAgg4
 z4:=Tryz.sizeOf4
 v4:=Tryz.zeroValue4
 t5:=Tryz.underlying5
 a5:=Tryz.isAgg5
 z5:=Tryz.sizeOf5
 v5:=Tryz.zeroValue5
 t9:=Tryz.underlying9
 a9:=Tryz.isAgg9
 z9:=Tryz.sizeOf9
 v9:=Tryz.zeroValue9
 t22:=Tryz.underlying32
 a22:=Tryz.isAgg32
 z22:=Tryz.sizeOf32
 v22:=Tryz.zeroValue32
 t25:=Tryz.underlying199
 a25:=Tryz.isAgg199
 z25:=Tryz.sizeOf199
 v25:=Tryz.zeroValue199
 t39:=Tryz.underlying175
 a39:=Tryz.isAgg175
 z39:=Tryz.sizeOf175
 v39:=Tryz.zeroValue175
 t45:=Tryz.underlying228
 a45:=Tryz.isAgg228
 z45:=Tryz.sizeOf228
 v45:=Tryz.zeroValue228
 t46:=Tryz.underlying229
 a46:=Tryz.isAgg229
 z46:=Tryz.sizeOf229
 v46:=Tryz.zeroValue229
 t50:=Tryz.underlying158
 a50:=Tryz.isAgg158
 z50:=Tryz.sizeOf158
 v50:=Tryz.zeroValue158
 t53:=Tryz.underlying22
 a53:=Tryz.isAgg22
 z53:=Tryz.sizeOf22
 v53:=Tryz.zeroValue22
 t55:=Tryz.underlying217
 a55:=Tryz.isAgg217
 z55:=Tryz.sizeOf217
 v55:=Tryz.zeroValue217
 t66:=Tryz.underlying250
 a66:=Tryz.isAgg250
 z66:=Tryz.sizeOf250
 v66:=Tryz.zeroValue250
 t70:=Tryz.underlying254
 a70:=Tryz.isAgg254
 z70:=Tryz.sizeOf254
 v70:=Tryz.zeroValue254
 t76:=Tryz.underlying270
 a76:=Tryz.isAgg270
 z76:=Tryz.sizeOf270
 v76:=Tryz.zeroValue270
 t77:=Tryz.underlying183
 a77:=Tryz.isAgg183
 z77:=Tryz.sizeOf183
 v77:=Tryz.zeroValue183}
def Tryz.sortWord_ren:Go.Shelf.Ren:=⟨fun|6=>114|15=>163|14=>162|28=>201|29=>202|20=>193|21=>194|22=>195|23=>196|24=>197|25=>198|26=>199|27=>200|46=>229|47=>230|48=>231|49=>232|50=>233|57=>254|n=>n,fun|22=>46|24=>32|25=>152|3=>3|39=>175|0=>0|53=>22|55=>217|4=>4|46=>229|45=>228|50=>158|5=>5|9=>9|66=>250|70=>254|76=>270|77=>183|n=>n,fun|n=>n⟩
theorem Tryz.sortWord:Go.Proofs.SlLaysF.n6 Tryz.prog Tryz.sortWord_ren:={
 mixed:=by kernel_rfl
 f6:=⟨Tryz.f114.name,by decide,Tryz.func114.trans (congrArg some (by kernel_rfl))⟩
 f14:=⟨Tryz.f162.name,by decide,Tryz.func162.trans (congrArg some (by kernel_rfl))⟩
 f15:=Tryz.func163.trans (congrArg some (by kernel_rfl))
 f20:=⟨Tryz.f193.name,by decide,Tryz.func193.trans (congrArg some (by kernel_rfl))⟩
 f21:=⟨Tryz.f194.name,by decide,Tryz.func194.trans (congrArg some (by kernel_rfl))⟩
 f22:=⟨Tryz.f195.name,by decide,Tryz.func195.trans (congrArg some (by kernel_rfl))⟩
 f23:=⟨Tryz.f196.name,by decide,Tryz.func196.trans (congrArg some (by kernel_rfl))⟩
 f24:=⟨Tryz.f197.name,by decide,Tryz.func197.trans (congrArg some (by kernel_rfl))⟩
 f25:=⟨Tryz.f198.name,by decide,Tryz.func198.trans (congrArg some (by kernel_rfl))⟩
 f26:=⟨Tryz.f199.name,by decide,Tryz.func199.trans (congrArg some (by kernel_rfl))⟩
 f27:=⟨Tryz.f200.name,by decide,Tryz.func200.trans (congrArg some (by kernel_rfl))⟩
 f28:=Tryz.func201.trans (congrArg some (by kernel_rfl))
 f29:=Tryz.func202.trans (congrArg some (by kernel_rfl))
 f46:=⟨Tryz.f229.name,by decide,Tryz.func229.trans (congrArg some (by kernel_rfl))⟩
 f47:=Tryz.func230.trans (congrArg some (by kernel_rfl))
 f48:=Tryz.func231.trans (congrArg some (by kernel_rfl))
 f49:=⟨Tryz.f232.name,by decide,Tryz.func232.trans (congrArg some (by kernel_rfl))⟩
 f50:=⟨Tryz.f233.name,by decide,Tryz.func233.trans (congrArg some (by kernel_rfl))⟩
 f57:=⟨Tryz.f254.name,by decide,Tryz.func254.trans (congrArg some (by kernel_rfl))⟩
 t0:=Tryz.underlying0
 a0:=Tryz.isAgg0
 z0:=Tryz.sizeOf0
 v0:=Tryz.zeroValue0
 t3:=Tryz.underlying3
 a3:=Tryz.isAgg3
 z3:=Tryz.sizeOf3
 v3:=Tryz.zeroValue3
 t4:=Tryz.underlying4
 a4:=Tryz.isAgg4
 z4:=Tryz.sizeOf4
 v4:=Tryz.zeroValue4
 t5:=Tryz.underlying5
 a5:=Tryz.isAgg5
 z5:=Tryz.sizeOf5
 v5:=Tryz.zeroValue5
 t9:=Tryz.underlying9
 a9:=Tryz.isAgg9
 z9:=Tryz.sizeOf9
 v9:=Tryz.zeroValue9
 t22:=Tryz.underlying46
 a22:=Tryz.isAgg46
 z22:=Tryz.sizeOf46
 v22:=Tryz.zeroValue46
 a24:=Tryz.isAgg32
 z24:=Tryz.sizeOf32
 t25:=Tryz.underlying152
 a25:=Tryz.isAgg152
 z25:=Tryz.sizeOf152
 v25:=Tryz.zeroValue152
 t39:=Tryz.underlying175
 a39:=Tryz.isAgg175
 z39:=Tryz.sizeOf175
 v39:=Tryz.zeroValue175
 t45:=Tryz.underlying228
 a45:=Tryz.isAgg228
 z45:=Tryz.sizeOf228
 v45:=Tryz.zeroValue228
 t46:=Tryz.underlying229
 a46:=Tryz.isAgg229
 z46:=Tryz.sizeOf229
 v46:=Tryz.zeroValue229
 t50:=Tryz.underlying158
 a50:=Tryz.isAgg158
 z50:=Tryz.sizeOf158
 v50:=Tryz.zeroValue158
 t53:=Tryz.underlying22
 a53:=Tryz.isAgg22
 z53:=Tryz.sizeOf22
 v53:=Tryz.zeroValue22
 t55:=Tryz.underlying217
 a55:=Tryz.isAgg217
 z55:=Tryz.sizeOf217
 v55:=Tryz.zeroValue217
 t66:=Tryz.underlying250
 a66:=Tryz.isAgg250
 z66:=Tryz.sizeOf250
 v66:=Tryz.zeroValue250
 t70:=Tryz.underlying254
 a70:=Tryz.isAgg254
 z70:=Tryz.sizeOf254
 v70:=Tryz.zeroValue254
 t76:=Tryz.underlying270
 a76:=Tryz.isAgg270
 z76:=Tryz.sizeOf270
 v76:=Tryz.zeroValue270
 t77:=Tryz.underlying183
 a77:=Tryz.isAgg183
 z77:=Tryz.sizeOf183
 v77:=Tryz.zeroValue183}
end Go.Proofs
namespace Go.Proofs.YtlgliddhideflaaGreatDoor
open Go.RowKit Go.Shelf
def Nu (s:Snd):List Value:=[.int .u32 s.1, .int .u32 s.2]
theorem Gt (s:Snd):(Nu s).length=2:=rfl
theorem Gf:∀xs:List Snd,xs.flatMap Nu=Bl xs
 |[]=>rfl
 |x::xs=>by rw[List.flatMap_cons,Gf xs];rfl
theorem Aa9 (n:Nat):madeCells #[Value.int .u32 0, .int .u32 0] (n*2)=(Bl (List.replicate n (0,0))).toArray:=by
 rw[←Gf];apply Array.ext
 ·simp[size_madeCells,J7 Nu 2 Gt]
 ·intro i h1 h2;have hi:i<n*2:=by simpa[size_madeCells]using h1
  have hz:(List.replicate n ((0,0):Snd))[i/2]? =some (0,0):=by rw[List.getElem?_replicate,if_pos (by omega)]
  rcases Nat.mod_two_eq_zero_or_one i with h|h
  ·have h3:=Mi Nu 2 Gt _ (i/2) (0,0) hz 0 (.int .u32 0) rfl;rw[show i/2*2+0=i by omega]at h3;exact Eq.trans (by simp[madeCells,h]) ((List.getElem?_eq_some_iff.1 h3).2.symm.trans rfl)
  ·have h3:=Mi Nu 2 Gt _ (i/2) (0,0) hz 1 (.int .u32 0) rfl;rw[show i/2*2+1=i by omega]at h3;exact Eq.trans (by simp[madeCells,h]) ((List.getElem?_eq_some_iff.1 h3).2.symm.trans rfl)
theorem Xh (n:Nat)(hn:n<=4096)(w:World):(Instr.makeSlice 32 (.int .i64 (n:Int)) (.int .i64 (n:Int))).run Tryz.prog w= .ok (.slice (some ⟨w.heap.size,0,none⟩) n n) (w.alloc (.cells (Bl (List.replicate n (0,0))).toArray 24)):=by
 obtain⟨i,hi,a0⟩:=Option.map_eq_some_iff.1 Lh;simp only[Prod.mk.injEq]at a0;obtain⟨hz,hs,hb⟩:=a0;have hr:=run_make (P:=Tryz.prog) w 32 24 i _ Tryz.underlying32 hi hz .i64 .i64 n n (by omega) (Int.le_refl _) (by rw[hb];omega) (by omega);rw[Int.toNat_natCast,hs]at hr;rw[←Aa9];exact hr
theorem Aba {w:World}{b n:Nat}{t:TypeId}{xs:List Snd}(h:w.heap[b]? =some (.cells (Bl xs).toArray t (0,0)))(hl:xs.length=n)(hn:n<=maxLen):Ad w (some ⟨b,0,none⟩) n n xs:=by
 subst hl;exact⟨by rw[←Gf];exact J7 Nu 2 Gt xs,rr,hn,(fun h=>by cases h),fun _=>⟨b,0,rfl,lt_of_block h,fun j v hv=>by rw[Nat.zero_add];exact Ab h (by simpa using hv)⟩⟩
theorem Adj (xs:List Snd)(j:Nat)(p q:Int)(hj:j<xs.length):((Bl xs).toArray.setIfInBounds (j*2) (.int .u32 p)).setIfInBounds (j*2+1) (.int .u32 q)=(Bl (xs.set j (p,q))).toArray:=by
 simp only[List.setIfInBounds_toArray];congr 1
 induction xs generalizing j with
 |nil=>simp at hj
 |cons x xs ih=>
  cases j with
  |zero=>rfl
  |succ j=>
   have:=ih j (by simpa using hj)
   simp only[Bl,List.set_cons_succ];rw[show(j+1)*2=j*2+1+1 by omega,List.set_cons_succ,List.set_cons_succ,List.set_cons_succ,List.set_cons_succ,this]
end Go.Proofs.YtlgliddhideflaaGreatDoor
namespace Go.Proofs.YtlgliddhideflaaGreatDoor
open Go.RowKit Go.Shelf Go.Sort
-- a row of records, as the sort sees it
theorem Aaf {α:Type} [Inhabited α](enc:α->List Value)(k:Nat)(hk:∀x,(enc x).length=k)(h0:0<k)(l:List α):flatK enc k l.toArray=(l.flatMap enc).toArray:=by
 apply ext_get!
 ·simp[J7 enc k hk]
 ·intro t ht;have a0:t<l.length*k:=by simpa using ht
  rw[get_flatK _ _ _ _ (by simpa using a0)];have hq:t/k<l.length:=Nat.div_lt_of_lt_mul (by rw[Nat.mul_comm];exact a0);have hm:t%k<k:=Nat.mod_lt _ h0;have hx:l[t/k]? =some l[t/k]:=List.getElem?_eq_getElem hq;have hl:t%k<(enc l[t/k]).length:=by rw[hk];exact hm
  have h3:=Mi enc k hk l (t/k) _ hx (t%k) _ (List.getElem?_eq_getElem hl);rw[show t/k*k+t%k=t by rw[Nat.mul_comm];exact Nat.div_add_mod t k]at h3;have e1:(l.toArray)[t/k]! =l[t/k]:=by simp[getElem!_pos,hq]
  rw[e1]
  have e2:((l.flatMap enc).toArray)[t]! =(enc l[t/k])[t%k]:=by
   have a1:=(List.getElem?_eq_some_iff.1 h3).1;rw[getElem!_pos ((l.flatMap enc).toArray) t (by simpa using a1)];simpa using(List.getElem?_eq_some_iff.1 h3).2
  rw[e2,getElem!_pos (enc l[t/k]) (t%k) hl]
theorem Afp {α:Type} [Inhabited α]{enc:α->List Value}{k:Nat}(hk:∀x,(enc x).length=k)(h0:0<k){w:World}{base g n c:Nat}{e:TypeId}{l:List α}(h:w.ownsRow base e k (.slice (some ⟨g,0,none⟩) n c) n (l.flatMap enc)):
  HoldsK enc k w g 0 l.toArray:=by
 unfold HoldsK Holds;rw[Aaf enc k hk h0];intro j hj;obtain⟨h1,⟨e0,_⟩|⟨g',cap',cur,e0,hb,hg,hn,hm,hs,ht⟩⟩:=h
 ·cases e0
 injection e0 with e1 _ e3
 injection e1 with e1
 injection e1 with e1
 subst e1;have a0:j<(l.flatMap enc).length:=by simpa using hj
 have a1:j<cur.size:=by rw[hs];rw[h1]at a0;exact Nat.lt_of_lt_of_le a0 (Nat.mul_le_mul_right k hn)
 have e5:cur[j]? =some (l.flatMap enc)[j]:=by
  have h5:=congrArg (fun x:List Value=>x[j]?) ht;simp only[List.getElem?_take]at h5;rw[if_pos (by rw[←h1];exact a0),Array.getElem?_toList,List.getElem?_eq_getElem a0]at h5;exact h5
 refine⟨?_, ?_⟩
 ·rw[getElem!_pos ((l.flatMap enc).toArray) j hj];simp[World.cell?,hg,e5]
 ·simp[World.frozen?,hg]
theorem Aag {α:Type} [Inhabited α]{enc:α->List Value}{k:Nat}(hk:∀x,(enc x).length=k)(h0:0<k){w:World}{g c:Nat}{l:List α}(h:HoldsK enc k w g 0 l.toArray)(hg:g<w.heap.size)(hc:l.length<=c)(hm:c<=maxLen):
  Bd w (some ⟨g,0,none⟩) l.length c k (l.flatMap enc):=by
 refine⟨J7 enc k hk l,hc,hm,(fun h=>by cases h),fun _=>⟨g,0,rfl,hg,fun j v hv=> ?_⟩⟩
 unfold HoldsK Holds at h;rw[Aaf enc k hk h0]at h;have hj:=(List.getElem?_eq_some_iff.1 hv).1;have h1:=(h j (by simpa using hj)).1;rw[getElem!_pos ((l.flatMap enc).toArray) j (by simpa using hj)]at h1;rw[h1];simpa using(List.getElem?_eq_some_iff.1 hv).2
theorem Acs {α:Type} [Inhabited α]{enc:α->List Value}{k:Nat}{B:Nat}{w0 w:World}{g m:Nat}{d:Array α}{os:Array Obj}(h:Below B w0 w)(hg:B<=g)(hB:B<=w.heap.size):Below B w0 (sortWorldK enc k w g 0 m d os):=by
 have h1:Below B w0 (putRowK enc k (Sort.ahead w m) g 0 d):=Lib.below_putRow h hg;have hs:(putRowK enc k (Sort.ahead w m) g 0 d).heap.size=w.heap.size:=by simp[putRowK,putRow,mapBlock,Sort.ahead]
 unfold sortWorldK;refine⟨h1.os,h1.tape,h1.output, ?_,fun i hi=> ?_⟩
 ·have:=h1.size;simp only[Sort.grow,Array.size_append];omega
 ·rw[←h1.block i hi];simp only[Sort.grow];rw[Array.getElem?_append_left (by omega)]
-- the order of sounds
theorem Aev (a b:Snd):decide (Js a b<0)=Cw a b:=by
 obtain⟨a1,a2⟩:=a;obtain⟨b1,b2⟩:=b;unfold Js orI F6 Cw;by_cases h1:a1<b1
 ·simp[h1]
 ·by_cases h2:b1<a1
  ·simp[h1,h2];omega
  ·obtain rfl:a1=b1:=by omega
   by_cases h3:a2<b2
   ·simp[h3]
   ·by_cases h4:b2<a2<;>simp[h3,h4]
theorem Gk (a b:Snd):ltOf Js a b=Cw a b:=Aev a b
theorem Aew:SWO (ltOf Js) where
 irrefl x:=by rw[Gk];exact Cp.irr x
 trans x y z h1 h2:=by rw[Gk]at*;exact Cp.tr x y z h1 h2
 ntrans x y z h1 h2:=by
  rw[Gk]at*
  cases h:Cw x z with
  |false=>rfl
  |true=>
   cases h3:Cw y x with
   |false=>have:=Cp.tot x y h1 h3;subst this;rw[h]at h2;cases h2
   |true=>have:=Cp.tr y x z h3 h;rw[this]at h2;cases h2
theorem Acu (ss:List Snd)(hd:ss.Nodup):(ss.mergeSort fun x y=> !(ltOf Js) y x)=Ba ss:=by
 have hp:=List.mergeSort_perm ss fun x y=> !(ltOf Js) y x
 refine Aip Cp ?_ (hp.nodup_iff.2 hd) fun a=>hp.mem_iff
 have h:=List.pairwise_mergeSort (le:=fun x y=> !(ltOf Js) y x) (fun a b c h1 h2=>by
  simp only[Gk,Bool.not_eq_true']at*;have h3:=Aew.ntrans c b a;simp only[Gk]at h3;exact h3 h2 h1) (fun a b=>by
  simp only[Gk]
  cases h1:Cw b a with
  |false=>rfl
  |true=>
   cases h2:Cw a b with
   |false=>rfl
   |true=>have:=Cp.tr a b a h2 h1;rw[Cp.irr]at this;cases this) ss
 exact h.imp fun h=>by simpa[Gk]using h
theorem Afq (v:Value)(base:Nat)(n:Nat)(ss:List Snd)(w:World)(h:w.ownsRow base 24 2 v n (Bl ss))(hl:ss.length=n)(hn:n<=4000)(hd:ss.Nodup)(hB:base<=w.heap.size):
  Calls Tryz.prog 227 #[v, .func (.func 192) #[] #[]] w fun e w'=>
   e= .returned (.tuple #[])/\(∃A' c',v= .slice A' n c'/\Ad w' A' n c' (Ba ss)∧∀ad,A'=some ad->base<=ad.block)/\Below base w w':=by
 subst hl;rcases Nat.eq_zero_or_pos ss.length with h0|h0
 ·have hs:ss=[]:=List.eq_nil_of_length_eq_zero h0;subst hs;rcases h.2 with⟨rfl,_⟩|⟨g,cap,cur,rfl,hb,hg,a3,a4,a5,ht⟩
  ·exact(AnyF.slices_SortFunc_none Tryz.sortSnd none 0 _ w).mono fun e w' ⟨h1,h2⟩=>by
    subst h2;exact⟨h1,⟨none,0,rfl,Bd.nil _ _,fun ad had=>by cases had⟩,Below.refl _ _⟩
  ·exact(AnyF.slices_SortFunc_none Tryz.sortSnd (some ⟨g,0,none⟩) cap _ w).mono fun e w' ⟨h1,h2⟩=>by
    subst h2;exact⟨h1,⟨some ⟨g,0,none⟩,cap,rfl,Bd.of_own h (by decide),fun ad had=>by cases had;exact hb⟩,Below.refl _ _⟩
 ·obtain⟨g,cap,rfl,hb,hg⟩:=Ahe h h0
  have hm:ss.length<=cap/\cap<=maxLen:=by
   have h3:=Bd.of_own h (by decide);exact⟨h3.2.1,h3.2.2.1⟩
  have hH:HoldsK Nu 2 w g 0 ss.toArray:=Afp Gt (by decide) (by rw[Gf];exact h)
  have a1:=AnyQ.slices_SortFunc_total Tryz.sortSnd 2 Tryz.isAgg24 Tryz.sizeOf24 Nu Gt (fun x v hv=>by simp[Nu]at hv;rcases hv with rfl|rfl<;>rfl) Js Aew 192 #[] g 0 cap ss.toArray w
   (enters_of Tryz.func192 (by kernel_rfl) rfl) (fun m os dk _ x y=>(Ahu x.1 x.2 y.1 y.2 _).mono fun e w' ⟨h1,h2⟩=>⟨h1,h2.eq⟩) hH hg (by simp;omega)
   (fun x y h1 h2=>Cp.tot x y (by rw[←Gk];exact h1) (by rw[←Gk];exact h2))
  refine Calls.mono a1 ?_;rintro e w' ⟨rfl,m,os,rfl⟩;rw[show ss.toArray.toList=ss from rfl,Acu ss hd];have a0:=Fk hd;have a2:Below base w (sortWorldK Nu 2 w g 0 m (Ba ss).toArray os):=Acs (Below.refl _ _) hb hB;refine⟨rfl,⟨some ⟨g,0,none⟩,cap,rfl, ?_,fun ad had=>by cases had;exact hb⟩,a2⟩
  have h5:HoldsK Nu 2 (sortWorldK Nu 2 w g 0 m (Ba ss).toArray os) g 0 (Ba ss).toArray:=by
   unfold sortWorldK;refine holdsK_grow Nu 2 _ os g 0 _ (by simpa[putRowK,putRow,mapBlock,Sort.ahead]using hg) ?_;exact holdsK_putRowK Nu 2 (Sort.ahead w m) g 0 ss.toArray _ hH (by simp[a0])
  have h6:=Aag Gt (by decide) h5 (Nat.lt_of_lt_of_le hg (by unfold sortWorldK Sort.grow;simp[putRowK,putRow,mapBlock,Sort.ahead])) (by rw[a0];exact hm.1) hm.2;rw[a0,Gf]at h6;exact h6
theorem Aah (bs:Nat)(A:Option Addr)(n c:Nat)(ss:List Snd)(w:World)(hb:w.heap[bs]? =some (.cells #[.slice A n c] 32 (0,0)))(hs:Ad w A n c ss)(hn:n<=5)(hd:ss.Nodup):
  Calls Tryz.prog 190 #[.func (.func 228) #[] #[.pointer (some ⟨bs,0,none⟩)], .func (.func 192) #[] #[]] w fun e w'=>
   ∃A' c',e= .returned (.slice A' n c')/\Ad w' A' n c' (Ba ss)/\Below w.heap.size w w'∧∀ad,A'=some ad->w.heap.size<=ad.block:=by
 have hl:=hs.len;have h1:=Afo bs A n c ss w hb hs (by omega);clear hb hs;go_enter Tryz.func190,Tryz.ntmps190;go_wp2_with fail;refine h1.mono ?_;rintro e w1 ⟨v,rfl,ho,a0⟩;have h2:=Afq v w.heap.size n ss w1 ho hl (by omega) hd a0.size;clear ho h1;go_wp2_with fail;refine h2.mono ?_;rintro e w2 ⟨rfl,⟨A',c',rfl,a2,a1⟩,a3⟩;have HW:=hI a2;have HF:=hI a1;have hB:=a0.trans a3;clear a2 a1 a0 a3 h2 hl;go_wp2;go_ret;exact⟨_,_,rfl,HW.out,hB,HF.out⟩
end Go.Proofs.YtlgliddhideflaaGreatDoor
