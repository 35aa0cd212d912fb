/-
  example of ablautlaw38: the map of the chapter, its laws and waves.
  ablautlaw10.numbers.
  A slice of words, as records of one cell.
  slices.IndexFunc over records of type []api.Sound.
  wave.Values.
-/
import Derived.Test.YtaglfmlgbcmakaaGreatDoorXNw3
set_option linter.all false
set_option maxRecDepth 100000
set_option maxHeartbeats 4000000
namespace Go.Proofs.YtaglfmlgbcmakaaGreatDoor
open Go.RowKit Go.Shelf
theorem Fc (w:World)(vs:List Value)(t:TypeId)(n sz:Nat)(h:vs.length=n*sz)(hn:n<=maxLen):Az (w.alloc (.cells vs.toArray t)) (some ⟨w.heap.size,0,none⟩) n n sz vs:=
 ⟨h,rr,hn,(fun h=>by cases h),fun _=>⟨w.heap.size,0,rfl,by simp,fun j v hv=>by rw[Nat.zero_add];exact B7 (by simpa using hv)⟩⟩
theorem Ah6:Ac8 wv0:=⟨by decide,by decide,by decide,by decide,fun x hx=>by
 have h:x=0:=by simpa[wv0]using hx
 rw[h];decide⟩
theorem Ah7:Ac8 wv1:=⟨by decide,by decide,by decide,by decide,fun x hx=>by
 have h:x=3:=by simpa[wv1]using hx
 rw[h];decide⟩
theorem V9 (w:World):Calls Tryz.prog 47 #[] w fun e w'=>
  ∃b Al xs Aw ys,e= .returned (.tuple #[.pointer (some ⟨b,0,none⟩), .slice Al 2 2, .slice Aw 2 2])/\Cq w' b 5 Ej/\B2 w' Al 2 2 xs/\Am xs=[vD,fD]/\Ct w' Aw 2 2 ys/\Af ys=[wv0,wv1]/\Below w.heap.size w w':=by
 go_enter Tryz.func47,Tryz.ntmps47;go_wp2_with fail;have b5:Gk (w.alloc (.cells #[.string ⟨#[97]⟩, .string ⟨#[98]⟩, .string ⟨#[99]⟩, .string ⟨#[100]⟩, .string ⟨#[101]⟩] 9)) (some ⟨w.heap.size,0,none⟩) 5 5 Up:=Fc w _ _ 5 1 rfl (by decide);have a3:Below w.heap.size w (w.alloc (.cells #[.string ⟨#[97]⟩, .string ⟨#[98]⟩, .string ⟨#[99]⟩, .string ⟨#[100]⟩, .string ⟨#[101]⟩] 9)):=(Below.refl _ w).alloc rr _;have hsz:(w.alloc (.cells #[.string ⟨#[97]⟩, .string ⟨#[98]⟩, .string ⟨#[99]⟩, .string ⟨#[100]⟩, .string ⟨#[101]⟩] 9)).heap.size=w.heap.size+1:=by simp
 generalize w.alloc (.cells #[.string ⟨#[97]⟩, .string ⟨#[98]⟩, .string ⟨#[99]⟩, .string ⟨#[100]⟩, .string ⟨#[101]⟩] 9)=V1 at*;have a6:Dl (V1.alloc (.cells #[.int .i64 0, .int .i64 1, .int .i64 4, .int .i64 1, .int .i64 2, .int .i64 3, .int .i64 2, .int .i64 3, .int .i64 1] 64)) (some ⟨V1.heap.size,0,none⟩) 3 3 Ps:=⟨Fc V1 _ _ 3 3 rfl (by decide),rfl⟩;rw[hsz]at a6;have a0:Below V1.heap.size V1 (V1.alloc (.cells #[.int .i64 0, .int .i64 1, .int .i64 4, .int .i64 1, .int .i64 2, .int .i64 3, .int .i64 2, .int .i64 3, .int .i64 1] 64)):=(Below.refl _ V1).alloc rr _;generalize V1.alloc (.cells #[.int .i64 0, .int .i64 1, .int .i64 4, .int .i64 1, .int .i64 2, .int .i64 3, .int .i64 2, .int .i64 3, .int .i64 1] 64)=V2 at*;refine(Ag1 _ 5 5 Up _ 3 3 Ps V2 (b5.below a0 rr) a6).mono ?_;rintro e w1 ⟨⟨h0, -⟩|⟨-,b,rfl,a2⟩,b3⟩
 ·exact absurd Ahb h0
 rw[Ace]at a2;have a8:Hid (Cq w1 b 5 Ej):=a2;have b1:Below w.heap.size w w1:=a3.trans ((a0.trans (b3.mono a0.size)).mono a3.size);have a7:=hI b1;clear b5 a3 hsz a6 a0 a2 b3 b1;go_wp2_with fail;refine(Ah5 w1).mono ?_;rintro e w2 ⟨av,rfl,b0,a4⟩;have b4:=hI b0;have b6:=hI (a8.out.below a4);have a5:=hI (a7.out.trans (a4.mono a7.out.size));clear b0 a4 a8 a7;go_wp2_with fail;refine(Ah4 w2).mono ?_;rintro e w3 ⟨af,rfl,b2,a1⟩;have b8:=hI b2;have b7:=hI (b4.out.below a1 rr);have b9:=hI (b6.out.below a1);have a9:=hI (a5.out.trans (a1.mono a5.out.size));clear b2 a1 b6 a5 b4;go_wp2_with(refine Yf rfl (.tmp 15) (.tmp 16) rfl ⟨vD,av⟩ ⟨fD,af⟩ rfl rfl ?_)
 go_ret3
 have h4:=Vy w3 ⟨vD,av⟩ ⟨fD,af⟩ 55 b7.out b8.out;have z4:Below w3.heap.size w3 (w3.alloc (.cells (Bn.cells ⟨vD,av⟩++Bn.cells ⟨fD,af⟩).toArray 55)):=(Below.refl _ w3).alloc rr _;have s4:(w3.alloc (.cells (Bn.cells ⟨vD,av⟩++Bn.cells ⟨fD,af⟩).toArray 55)).heap.size=w3.heap.size+1:=by simp
 generalize w3.alloc (.cells (Bn.cells ⟨vD,av⟩++Bn.cells ⟨fD,af⟩).toArray 55)=W4 at*;have h5:Ba (W4.alloc (.cells #[.int .i64 0] 3)) (some ⟨W4.heap.size,0,none⟩) 1 1 [0]:=Fc W4 [.int .i64 0] _ 1 1 rfl (by decide);have z5:Below W4.heap.size W4 (W4.alloc (.cells #[.int .i64 0] 3)):=(Below.refl _ W4).alloc rr _;have s5:(W4.alloc (.cells #[.int .i64 0] 3)).heap.size=W4.heap.size+1:=by simp
 generalize W4.alloc (.cells #[.int .i64 0] 3)=W5 at*;have h6:Ba (W5.alloc (.cells #[.int .i64 3] 3)) (some ⟨W5.heap.size,0,none⟩) 1 1 [3]:=Fc W5 [.int .i64 3] _ 1 1 rfl (by decide);have z6:Below W5.heap.size W5 (W5.alloc (.cells #[.int .i64 3] 3)):=(Below.refl _ W5).alloc rr _;have s6:(W5.alloc (.cells #[.int .i64 3] 3)).heap.size=W5.heap.size+1:=by simp
 generalize W5.alloc (.cells #[.int .i64 3] 3)=W6 at*;rw[←s4,←s5,←s6];have h7:Du Cr.cells 5 (W6.alloc (.cells #[.int .i64 0, .slice (some ⟨W4.heap.size,0,none⟩) 1 1, .int .i64 2, .int .i64 1, .int .i64 100, .int .i64 1, .slice (some ⟨W5.heap.size,0,none⟩) 1 1, .int .i64 0, .int .i64 3, .int .i64 13] 38)) (some ⟨W6.heap.size,0,none⟩) 2 2 [⟨wv0,some ⟨W4.heap.size,0,none⟩,1,1⟩,⟨wv1,some ⟨W5.heap.size,0,none⟩,1,1⟩]:=⟨Fc W6 _ _ 2 5 rfl (by decide),rfl⟩;have z7:Below W6.heap.size W6 (W6.alloc (.cells #[.int .i64 0, .slice (some ⟨W4.heap.size,0,none⟩) 1 1, .int .i64 2, .int .i64 1, .int .i64 100, .int .i64 1, .slice (some ⟨W5.heap.size,0,none⟩) 1 1, .int .i64 0, .int .i64 3, .int .i64 13] 38)):=(Below.refl _ W6).alloc rr _;generalize W6.alloc (.cells #[.int .i64 0, .slice (some ⟨W4.heap.size,0,none⟩) 1 1, .int .i64 2, .int .i64 1, .int .i64 100, .int .i64 1, .slice (some ⟨W5.heap.size,0,none⟩) 1 1, .int .i64 0, .int .i64 3, .int .i64 13] 38)=W7 at*;have z67:=z6.trans (z7.mono z6.size);have z57:=z5.trans (z67.mono z5.size);have z47:=z4.trans (z57.mono z4.size);refine⟨b,_,_,_,_,rfl,b9.out.below z47,h4.below z57 rr,rfl,⟨h7,fun y hy=> ?_⟩,rfl,a9.out.trans (z47.mono a9.out.size)⟩
 simp only[List.mem_cons,List.not_mem_nil,or_false]at hy;rcases hy with rfl|rfl
 ·exact⟨Az.below h5 z67 rr,Ah6⟩
 ·exact⟨Az.below h6 z7 rr,Ah7⟩
theorem G7 (A A':Option Addr)(n n' c c':Nat)(xs ys:List Int)(w:World)(hx:Ba w A n c xs)(hy:Ba w A' n' c' ys):
  Calls Tryz.prog 32 #[.slice A n c, .slice A' n' c'] w fun e w'=>e= .returned (.bool (decide (xs=ys)))/\Below w.heap.size w w':=by
 have hm:=hx.max;by_cases hn:n=n'
 ·subst hn;have HX:=hI hx;clear hx;have HY:=hI hy;clear hy;go_enter Tryz.func32,Tryz.ntmps32;go_wp2
  go_loopw [5] (fun i wr=>∃k:Nat,k<=n/\i= .int .i64 k/\xs.take k=ys.take k/\Below w.heap.size w wr) (fun i _=>n-(intOf i).toNat)
  case atStart=>exact⟨0,Nat.zero_le _,rfl,by simp,bel⟩
  case round=>
   obtain⟨k,hk,rfl,a0,hB⟩:=hrel;have HA:=hI a0;clear a0;by_cases hlt:k<n
   ·obtain⟨b,off,p,rfl,hb,a8,a3⟩:=(HX.out.below hB rr).at_ hlt;obtain⟨b',off',p',rfl,a7,a5,a2⟩:=(HY.out.below hB rr).at_ hlt;have HK:=hI a3;clear a3;have a1:=hI a2;clear a2;go_wp2;by_cases h1:p=p'
    ·subst h1;have HS:=hI (Bi xs k p HK.out);have a4:=hI (Bi ys k p a1.out);have a6:(p !=p)=false:=by simp
     go_quiet (fail)
     go_wp2
     go_roundw
     case rel=>exact⟨k+1,by omega,by go_num,by rw[HS.out,a4.out,HA.out],bel⟩
     case measure=>simp[intOf];omega
    ·have hf:decide (xs=ys)=false:=by
      apply decide_eq_false;rintro rfl
      have:=HK.out.symm.trans a1.out
      simp only[Option.some.injEq]at this;exact h1 this
     have HF:=hI hf;clear hf;have a6:(p !=p')=true:=by simpa using h1
     clear h1
     go_quiet (fail)
     go_wp2;go_ret;exact⟨by rw[HF.out];rfl,bel⟩
   ·obtain rfl:k=n:=by omega
    have hf:decide (xs=ys)=true:=by
     apply decide_eq_true
     have:=HA.out
     rwa[List.take_of_length_le (by rw[HX.out.len];exact rr),List.take_of_length_le (by rw[HY.out.len];exact rr)]at this
    have HF:=hI hf;clear hf;go_wp2;go_ret;exact⟨by rw[HF.out];rfl,hB⟩
 ·have hf:decide (xs=ys)=false:=by
   apply decide_eq_false;rintro rfl;exact hn (hx.len.symm.trans hy.len)
  have HF:=hI hf;clear hf;have a9:((n:Int) !=(n':Int))=true:=by simp;omega
  have HX:=hI hx;clear hx;have HY:=hI hy;clear hy;go_enter Tryz.func32,Tryz.ntmps32;go_wp2;go_ret;exact⟨by rw[HF.out];rfl,bel⟩
theorem Tl (A A':Option Addr)(n n' c c':Nat)(xs ys:List Int)(w:World)(hx:Ba w A n c xs)(hy:Ba w A' n' c' ys):
  Calls Tryz.prog 40 #[.slice A n c, .slice A' n' c'] w fun e w'=>e= .returned (.bool (decide (xs=ys)))/\Below w.heap.size w w':=by
 have hm:=hx.max;by_cases hn:n=n'
 ·subst hn;have HX:=hI hx;clear hx;have HY:=hI hy;clear hy;go_enter Tryz.func40,Tryz.ntmps40;go_wp2
  go_loopw [5] (fun i wr=>∃k:Nat,k<=n/\i= .int .i64 k/\xs.take k=ys.take k/\Below w.heap.size w wr) (fun i _=>n-(intOf i).toNat)
  case atStart=>exact⟨0,Nat.zero_le _,rfl,by simp,bel⟩
  case round=>
   obtain⟨k,hk,rfl,a0,hB⟩:=hrel;have HA:=hI a0;clear a0;by_cases hlt:k<n
   ·obtain⟨b,off,p,rfl,hb,a8,a3⟩:=(HX.out.below hB rr).at_ hlt;obtain⟨b',off',p',rfl,a7,a5,a2⟩:=(HY.out.below hB rr).at_ hlt;have HK:=hI a3;clear a3;have a1:=hI a2;clear a2;go_wp2;by_cases h1:p=p'
    ·subst h1;have HS:=hI (Bi xs k p HK.out);have a4:=hI (Bi ys k p a1.out);have a6:(p !=p)=false:=by simp
     go_quiet (fail)
     go_wp2
     go_roundw
     case rel=>exact⟨k+1,by omega,by go_num,by rw[HS.out,a4.out,HA.out],bel⟩
     case measure=>simp[intOf];omega
    ·have hf:decide (xs=ys)=false:=by
      apply decide_eq_false;rintro rfl
      have:=HK.out.symm.trans a1.out
      simp only[Option.some.injEq]at this;exact h1 this
     have HF:=hI hf;clear hf;have a6:(p !=p')=true:=by simpa using h1
     clear h1
     go_quiet (fail)
     go_wp2;go_ret;exact⟨by rw[HF.out];rfl,bel⟩
   ·obtain rfl:k=n:=by omega
    have hf:decide (xs=ys)=true:=by
     apply decide_eq_true
     have:=HA.out
     rwa[List.take_of_length_le (by rw[HX.out.len];exact rr),List.take_of_length_le (by rw[HY.out.len];exact rr)]at this
    have HF:=hI hf;clear hf;go_wp2;go_ret;exact⟨by rw[HF.out];rfl,hB⟩
 ·have hf:decide (xs=ys)=false:=by
   apply decide_eq_false;rintro rfl;exact hn (hx.len.symm.trans hy.len)
  have HF:=hI hf;clear hf;have a9:((n:Int) !=(n':Int))=true:=by simp;omega
  have HX:=hI hx;clear hx;have HY:=hI hy;clear hy;go_enter Tryz.func40,Tryz.ntmps40;go_wp2;go_ret;exact⟨by rw[HF.out];rfl,bel⟩
def Kr (p:Part):List Value:=[p.val]
theorem Wv (p:Part):(Kr p).length=1:=rfl
theorem Tm:∀ps:List Part,ps.flatMap Kr=ps.map Part.val
 |[]=>rfl
 |p::r=>by rw[List.flatMap_cons,Tm r];rfl
theorem Az.recs {w:World}{A:Option Addr}{n c:Nat}{ps:List Part}(h:Az w A n c 1 (ps.map Part.val)):Du Kr 1 w A n c ps:=
 ⟨by rw[Tm];exact h,by have:=h.1;simpa using this⟩
theorem Afs (A:Option Addr)(n c:Nat)(xs:List Part)(F:Nat)(lb:Array Value)(p:Part->Bool)(w:World)(hx:Du Kr 1 w A n c xs)(hE:Enters Tryz.prog F)
  (hcall:∀W,Below w.heap.size w W→∀s∈xs,Calls Tryz.prog F (#[Part.val s]++lb) W fun e W'=>e= .returned (.bool (p s))/\Below W.heap.size W W'):
  Calls Tryz.prog 68 #[.slice A n c, .func (.func F) #[] lb] w fun e w'=>e= .returned (.int .i64 (Fy p xs))/\Below w.heap.size w w':=by
 have hm:n<=9223372036854775807:=by have h1:=hx.1.2.1;have h2:=hx.1.2.2.1;unfold maxLen at h2;omega
 have HX:=hI hx;clear hx;have HC:=hI hcall;clear hcall;unfold Enters at hE;go_enter Tryz.func68,Tryz.ntmps68;go_wp2
 go_loopw [5,8] (fun _ i wr=>∃k:Nat,k<=n/\i= .int .i64 k/\Hid ((xs.take k).any p=false)/\Below w.heap.size w wr) (fun _ i _=>n-(intOf i).toNat)
 case atStart=>exact⟨0,Nat.zero_le _,rfl,by simp[Hid],Below.refl _ _⟩
 case round=>
  obtain⟨k,hk,rfl,HA,hB⟩:=hrel;by_cases hlt:k<n
  ·obtain⟨s,a2⟩:∃s,xs[k]? =some s:=⟨xs[k]'(by rw[HX.out.2];exact hlt),List.getElem?_eq_getElem _⟩;obtain⟨b,off,rfl,hb,a5⟩:=(HX.out.below hB rr).at_ Wv (by decide) a2;have a6:=a5 0 _ rfl;simp only[Nat.add_zero,←Nat.add_assoc,Nat.mul_one]at a6;clear a5;have a0:=hI (HC.out wr hB s (List.mem_of_getElem? a2));have HK:=hI a2;clear a2;by_cases hp:p s=true
   ·have hr:=Gh p xs k s HK.out HA.out hp;have HR:=hI hr;clear hr;have HP:=hI hp;clear hp;go_wp2_with fail;refine a0.out.mono ?_;rintro e w1 ⟨rfl,a1⟩;rw[HP.out];have a3:=hB.trans (a1.mono hB.size);clear a1;go_wp2;go_ret;exact⟨by rw[HR.out];rfl,a3⟩
   ·have a4:p s=false:=by simpa using hp
    have HP:=hI a4;clear hp a4;go_wp2_with fail;refine a0.out.mono ?_;rintro e w1 ⟨rfl,a1⟩;rw[HP.out];have a3:=hB.trans (a1.mono hB.size);clear a1;go_wp2
    go_roundw
    case rel=>exact⟨k+1,by omega,by go_num,by rw[Bi xs k _ HK.out,List.any_append,HA.out];simp[HP.out,Hid],a3⟩
    case measure=>simp[intOf];omega
  ·obtain rfl:k=n:=by omega
   have hr:Fy p xs= -1:=by
    have:=HA.out
    rw[List.take_of_length_le (by rw[HX.out.2];exact rr)]at this;exact Gg p xs this
   have HR:=hI hr;clear hr;go_wp2;go_ret;exact⟨by rw[HR.out];rfl,hB⟩
theorem Aik (Ax:Option Addr)(nx cx:Nat)(x:List Snd)(Ay:Option Addr)(ny cy:Nat)(y:List Snd)(bx:Nat)(w:World)(hb:w.heap[bx]? =some (.cells #[.slice Ax nx cx] 28 (0,0)))(hx:Ah w Ax nx cx x)(hy:Ah w Ay ny cy y):
  Calls Tryz.prog 69 #[.slice Ay ny cy, .pointer (some ⟨bx,0,none⟩)] w fun e w'=>e= .returned (.bool (decide (x=y)))/\Below w.heap.size w w':=by
 have c0:=cell_of_one hb;have HE:=hI (P0 Ax Ay nx ny cx cy x y w hx hy);clear hb hx hy;obtain⟨r,hr⟩:∃r,r=decide (x=y):=⟨_,rfl⟩;rw[←hr]at HE ⊢;clear hr;go_enter Tryz.func69,Tryz.ntmps69;go_wp2_with fail;refine HE.out.mono ?_;rintro e w1 ⟨rfl,a0⟩;go_wp2;go_ret;exact⟨rfl,a0⟩
theorem X8 {α:Type}(p:α->Bool):∀l:List α,Fy p l=match l.findIdx? p with|some k=>(k:Int)|none=> -1
 |[]=>rfl
 |x::l=>by
  have h:=X8 p l;unfold Fy;rw[List.findIdx?_cons];by_cases hx:p x=true
  ·simp[hx]
  ·rw[if_neg hx,if_neg hx,h]
   cases l.findIdx? p with
   |none=>rfl
   |some k=>simp only[Option.map_some];rw[if_neg (by omega)];rfl
theorem Abv (ps:List Part)(x:List Snd):Fy (fun p=>decide (x=p.word)) ps=Db (ps.map Part.word) x:=by
 unfold Db;rw[List.findIdx?_map,X8];rfl
theorem N9 {f:Nat->Int×List Snd}:∀(l:List Nat) (done:List (List Snd)),(C6 f done l).2.length<=done.length+l.length
 |[],done=>by simp[C6]
 |a::l,done=>by
  unfold C6;split
  ·simp
  ·have:=N9 (f:=f) l (done++[(f a).2])
   simp only[List.length_append,List.length_cons,List.length_nil]at this ⊢;omega
theorem Abw (n:Nat)(rs:List Bd)(ls:List Be)(ws:List Cg)(w:List Snd)(now:Int):(Bs n rs ls ws w now).2.length<=n:=by
 unfold Bs;split
 ·simp
 ·split
  ·simp
  ·have:=N9 (f:=F8 n rs ls ws w now) (List.range n) []
   simpa using this
theorem Zr (b n:Nat)(rs:List Bd)(Ax:Option Addr)(nx cx:Nat)(xs:List Bn)(A:Option Addr)(m c:Nat)(ys:List Cr)(Aw:Option Addr)(nw cw:Nat)(ws:List Snd)(now:Int)(w:World)(hm:Cq w b n rs)(hx:B2 w Ax nx cx xs)(hy:Ct w A m c ys)(hw:Ah w Aw nw cw ws)(hT:B9 w)(h19:m<=19\/64<m):
  Calls Tryz.prog 24 #[.pointer (some ⟨b,0,none⟩), .slice Ax nx cx, .slice A m c, .slice Aw nw cw, .int .i64 now] w (Gv w (Ft n rs (Am xs) (Af ys) ws now)):=by
 have b9:=hm.few;have HF:=hI (Nr b n rs Ax nx cx xs A m c ys Aw nw cw ws now w hm hx hy hw hT h19);have HN:Hid ((Bs n rs (Am xs) (Af ys) ws now).2.length<=n):=Abw _ _ _ _ _ _;have HV:Hid (Ft n rs (Am xs) (Af ys) ws now=if(Bs n rs (Am xs) (Af ys) ws now).1≠0 then((Bs n rs (Am xs) (Af ys) ws now).1,[])else(0,(Bs n rs (Am xs) (Af ys) ws now).2.map (Db (Bs n rs (Am xs) (Af ys) ws now).2))):=rfl;obtain⟨R,hR⟩:∃R,R=Bs n rs (Am xs) (Af ys) ws now:=⟨_,rfl⟩;obtain⟨V,hV⟩:∃V,V=Ft n rs (Am xs) (Af ys) ws now:=⟨_,rfl⟩;rw[←hR]at HF HN HV;rw[←hV]at HV ⊢;obtain⟨er,fs⟩:=R;clear hm hx hy hw hT h19 hR hV;simp only at HF HN HV;go_enter Tryz.func24,Tryz.ntmps24;go_wp2_with fail;refine HF.out.mono ?_;rintro e w1 ⟨A1,c1,ps,rfl,a7,a1,b7,d4,b2⟩;have d7:=hI a7;have b3:=hI b7;have a9:=hI b2;have a6:=hI (Az.recs (Az.of_own a1 (by decide)))
 have d6:ps.length<=128:=by
  have h1:=congrArg List.length a7;have h2:=HN.out;simp only[List.length_map]at h1;have h3:fs.length<=n:=h2;have h4:ps.length=fs.length:=h1;omega
 obtain⟨k,hk⟩:∃k,k=ps.length:=⟨_,rfl⟩;have HK:=hI hk;rw[←hk]at a6 d6 ⊢;clear a7 a1 b7 d4 b2 hk HF;by_cases h0:er=0
 ·subst h0
  have a2:Hid (V=(0,ps.map fun p=>Db (ps.map Part.word) p.word)):=by
   show _=_;rw[HV.out,if_neg (by simp)]
   have:fs=ps.map Part.word:=d7.out.symm
   show(_,_)=_;rw[this,List.map_map];rfl
  have f0:=fun w=>run_make_row' (P:=Tryz.prog) 36 3 (.int .i64 0) 8 Tryz.underlying36 Fw rfl .i64 .i64 k (by omega) (by omega) w
  have f4:k<=maxLen:=by unfold maxLen;omega
  go_wp2_with fail;clear f0;rw[Na];have a3:Hid ((w1.alloc (.cells (E9 k fun _=>0) 3)).heap[w1.heap.size]? =some (.cells (E9 k fun _=>0) 3 (0,0))):=Aj rfl;have b8:Hid (Below w1.heap.size w1 (w1.alloc (.cells (E9 k fun _=>0) 3))):=(Below.refl _ w1).alloc rr _;obtain⟨g,hg⟩:∃g,g=w1.heap.size:=⟨_,rfl⟩;have f3:w1.heap.size<=g:=by omega
  rw[←hg]at a3 ⊢;generalize w1.alloc (.cells (E9 k fun _=>0) 3)=w4 at*;clear hg;obtain⟨fe,b4⟩:∃fe:Nat->Int,fe=fun v=>((ps[v]?).map fun p=>Db (ps.map Part.word) p.word).getD 0:=⟨_,rfl⟩
  have d1:=hI b4;clear b4
  go_loopw [34] (fun i wr=>∃j:Nat,j<=k/\i= .int .i64 (j:Int)/\Hid (wr.heap[g]? =some (.cells (E9 k fun v=>if v<j then fe v else 0) 3 (0,0)))/\Hid (Below w1.heap.size w1 wr)) (fun i _=>k-(intOf i).toNat)
  case atStart=>exact⟨0,Nat.zero_le _,rfl,by show _=_;simpa using a3.out,b8.out⟩
  case round=>
   obtain⟨j,hj,rfl,HG,HB⟩:=hrel;clear a3 b8;by_cases hlt:j<k
   ·have f1:(j:Int)<(k:Int):=by omega
    obtain⟨⟨Ap,np,cp,wp⟩,hp⟩:∃p,ps[j]? =some p:=⟨ps[j]'(by rw[←HK.out];exact hlt),List.getElem?_eq_getElem _⟩;obtain⟨ga,oa,hA,f2,d0⟩:=(a6.out.below HB.out rr).at_ Wv (by decide) hp;subst hA;have d9:=d0 0 _ rfl;simp only[Nat.add_zero,←Nat.add_assoc,Nat.mul_one,Part.val]at d9;have a0:=List.mem_of_getElem? hp;have b1:=hI ((b3.out _ a0).below HB.out rr);have b5:Hid (fe j=Db (ps.map Part.word) wp):=by show _=_;rw[d1.out];show((ps[j]?).map _).getD 0=_;rw[hp];rfl
    clear d0 hp a0;have hz:Below wr.heap.size wr (wr.alloc (.cells #[.slice Ap np cp] 28)):=(Below.refl _ wr).alloc rr _;have b0:(wr.alloc (.cells #[.slice Ap np cp] 28)).heap[wr.heap.size]? =some (.cells #[.slice Ap np cp] 28 (0,0)):=Aj rfl;have a8:=hI b0;have HZ:=hI hz;clear b0 hz;go_wp2_with fail;refine(Afs (some ⟨ga,oa,none⟩) k c1 ps 69 #[.pointer (some ⟨wr.heap.size,0,none⟩)] (fun p=>decide (wp=p.word)) _ (a6.out.below (HB.out.trans (HZ.out.mono HB.out.size)) rr) (enters_of Tryz.func69 (by kernel_rfl) rfl) ?hcall).mono ?_
    case hcall=>
     intro W hW s hs;have d5:Below w1.heap.size w1 W:=HB.out.trans ((HZ.out.trans (hW.mono HZ.out.size)).mono HB.out.size);exact Aik Ap np cp wp s.1 s.2.1 s.2.2.1 s.2.2.2 wr.heap.size W ((hW.block _ (lt_of_block a8.out)).trans a8.out) (b1.out.below (HZ.out.trans (hW.mono HZ.out.size)) rr) ((b3.out s hs).below d5 rr)
    rw[Abv];obtain⟨t,ht⟩:∃t,t=Db (ps.map Part.word) wp:=⟨_,rfl⟩;rw[←ht]at b5 ⊢;rintro e w5 ⟨rfl,b6⟩;have a4:=HZ.out.trans (b6.mono HZ.out.size);have a5:=hI ((a4.block g (lt_of_block HG.out)).trans HG.out);have d8:=hI (HB.out.trans (a4.mono HB.out.size));clear ht b6 a4 HG HB a8 HZ b1;have cg:=Ks a5.out hlt;have fg:w5.frozen? ⟨g,j,none⟩=false:=by simp[World.frozen?,a5.out]
    have d3:Hid ((w5.setCell ⟨g,j,none⟩ (.int .i64 t)).heap[g]? =some (.cells (E9 k fun v=>if v<j+1 then fe v else 0) 3 (0,0))):=by
     show _=_
     rw[Ca a5.out,Qq (g:=fun v=>if v<j+1 then fe v else 0) (by simp[b5.out]) fun v _ hv=>by
      by_cases e:v<j
      ·simp[e,Nat.lt_succ_of_lt e]
      ·have:¬v<j+1:=by omega
       simp[e,this]]
    have d2:=hI (d8.out.setCell (p:=⟨g,j,none⟩) (by show w1.heap.size<=g;omega) (.int .i64 t));go_wp2_with fail
    go_roundw
    case rel=>exact⟨j+1,by omega,by simp,d3.out,d2.out⟩
    case measure=>simp[intOf];omega
   ·obtain rfl:j=k:=by omega
    go_wp2
    go_ret2
    have hr:=Uj HG.out (by omega);refine⟨_,_,_,by rw[a2.out];rfl, ?_,a9.out.trans (HB.out.mono a9.out.size)⟩;rw[a2.out];show Ba _ _ _ _ (ps.map fun p=>Db (ps.map Part.word) p.word)
    rw[show(ps.map fun p=>Db (ps.map Part.word) p.word)=(List.range j).map fun v=>if v<j then fe v else 0 from by
     apply List.ext_getElem?;intro v;rw[List.getElem?_map,List.getElem?_map];by_cases hv:v<j
     ·rw[List.getElem?_range hv,Option.map_some,if_pos hv,d1.out]
      have:ps[v]? =some (ps[v]'(by rw[←HK.out];exact hv)):=List.getElem?_eq_getElem _
      simp only[this];rfl
     ·rw[List.getElem?_eq_none (by rw[←HK.out];omega),List.getElem?_eq_none (by simpa using hv)];rfl]
    exact hr
 ·have h1:(er !=0)=true:=by simpa using h0
  have a2:Hid (V=(er,[])):=by show _=_;rw[HV.out,if_pos h0]
  go_wp2
  go_ret2
  exact Gv.bad a2.out a9.out
end Go.Proofs.YtaglfmlgbcmakaaGreatDoor
