/-
  example of ablautlaw38: the map of the chapter, its laws and waves.
  ablautlaw10.numbers.
  A slice of words, as records of one cell.
  slices.IndexFunc over records of type []api.Sound.
  wave.Values.
-/
import Derived.Test.YtaglfmlgbcmakaaGreatDoorXNw3
set_option linter.all false
set_option maxRecDepth 100000
set_option maxHeartbeats 4000000
namespace Go.Proofs.YtaglfmlgbcmakaaGreatDoor
open Go.RowKit Go.Shelf
theorem E4 (w:World)(vs:List Value)(t:TypeId)(n sz:Nat)(h:vs.length=n*sz)(hn:n<=maxLen):Am (w.alloc (.cells vs.toArray t)) (some ⟨w.heap.size,0,none⟩) n n sz vs:=
 ⟨h,rr,hn,(fun h=>by cases h),fun _=>⟨w.heap.size,0,rfl,by simp,fun j v hv=>by rw[Nat.zero_add];exact Ch (by simpa using hv)⟩⟩
theorem Amh:Acq wv0:=⟨by decide,by decide,by decide,by decide,fun x hx=>by
 have h:x=0:=by simpa[wv0]using hx
 rw[h];decide⟩
theorem Ami:Acq wv1:=⟨by decide,by decide,by decide,by decide,fun x hx=>by
 have h:x=3:=by simpa[wv1]using hx
 rw[h];decide⟩
theorem X7 (w:World):Calls Tryz.prog 47 #[] w fun e w'=>
  ∃b Al xs Aw ys,e= .returned (.tuple #[.pointer (some ⟨b,0,none⟩), .slice Al 2 2, .slice Aw 2 2])/\C0 w' b 5 Fc/\Br w' Al 2 2 xs/\Ah xs=[vD,fD]/\Bv w' Aw 2 2 ys/\Ae ys=[wv0,wv1]/\Below w.heap.size w w':=by
 go_enter Tryz.func47,Tryz.ntmps47;go_wp2_with fail;have b3:E7 (w.alloc (.cells #[.string ⟨#[97]⟩, .string ⟨#[98]⟩, .string ⟨#[99]⟩, .string ⟨#[100]⟩, .string ⟨#[101]⟩] 9)) (some ⟨w.heap.size,0,none⟩) 5 5 V7:=E4 w _ _ 5 1 rfl (by decide);have a3:Below w.heap.size w (w.alloc (.cells #[.string ⟨#[97]⟩, .string ⟨#[98]⟩, .string ⟨#[99]⟩, .string ⟨#[100]⟩, .string ⟨#[101]⟩] 9)):=(Below.refl _ w).alloc rr _;have hsz:(w.alloc (.cells #[.string ⟨#[97]⟩, .string ⟨#[98]⟩, .string ⟨#[99]⟩, .string ⟨#[100]⟩, .string ⟨#[101]⟩] 9)).heap.size=w.heap.size+1:=by simp
 generalize w.alloc (.cells #[.string ⟨#[97]⟩, .string ⟨#[98]⟩, .string ⟨#[99]⟩, .string ⟨#[100]⟩, .string ⟨#[101]⟩] 9)=V1 at*;have a2:Cw (V1.alloc (.cells #[.int .i64 0, .int .i64 1, .int .i64 4, .int .i64 1, .int .i64 2, .int .i64 3, .int .i64 2, .int .i64 3, .int .i64 1] 64)) (some ⟨V1.heap.size,0,none⟩) 3 3 Rf:=⟨E4 V1 _ _ 3 3 rfl (by decide),rfl⟩;rw[hsz]at a2;have a0:Below V1.heap.size V1 (V1.alloc (.cells #[.int .i64 0, .int .i64 1, .int .i64 4, .int .i64 1, .int .i64 2, .int .i64 3, .int .i64 2, .int .i64 3, .int .i64 1] 64)):=(Below.refl _ V1).alloc rr _;generalize V1.alloc (.cells #[.int .i64 0, .int .i64 1, .int .i64 4, .int .i64 1, .int .i64 2, .int .i64 3, .int .i64 2, .int .i64 3, .int .i64 1] 64)=V2 at*;refine(Acu _ 5 5 V7 _ 3 3 Rf V2 (b3.below a0 rr) a2).mono ?_;rintro e w1 ⟨⟨h0, -⟩|⟨-,b,rfl,a7⟩,b6⟩
 ·exact absurd Alf h0
 rw[Afv]at a7;have b4:Hid (C0 w1 b 5 Fc):=a7;have a9:Below w.heap.size w w1:=a3.trans ((a0.trans (b6.mono a0.size)).mono a3.size);have a4:=hI a9;clear b3 a3 hsz a2 a0 a7 b6 a9;go_wp2_with fail;refine(Amg w1).mono ?_;rintro e w2 ⟨av,rfl,b2,a6⟩;have b0:=hI b2;have a8:=hI (b4.out.below a6);have a5:=hI (a4.out.trans (a6.mono a4.out.size));clear b2 a6 b4 a4;go_wp2_with fail;refine(Amf w2).mono ?_;rintro e w3 ⟨af,rfl,b5,a1⟩;have b7:=hI b5;have b8:=hI (b0.out.below a1 rr);have b9:=hI (a8.out.below a1);have b1:=hI (a5.out.trans (a1.mono a5.out.size));clear b5 a1 a8 a5 b0;go_wp2_with(refine Aai rfl (.tmp 15) (.tmp 16) rfl ⟨vD,av⟩ ⟨fD,af⟩ rfl rfl ?_)
 go_ret3
 have h4:=Xt w3 ⟨vD,av⟩ ⟨fD,af⟩ 55 b8.out b7.out;have z4:Below w3.heap.size w3 (w3.alloc (.cells (Bj.cells ⟨vD,av⟩++Bj.cells ⟨fD,af⟩).toArray 55)):=(Below.refl _ w3).alloc rr _;have s4:(w3.alloc (.cells (Bj.cells ⟨vD,av⟩++Bj.cells ⟨fD,af⟩).toArray 55)).heap.size=w3.heap.size+1:=by simp
 generalize w3.alloc (.cells (Bj.cells ⟨vD,av⟩++Bj.cells ⟨fD,af⟩).toArray 55)=W4 at*;have h5:Bn (W4.alloc (.cells #[.int .i64 0] 3)) (some ⟨W4.heap.size,0,none⟩) 1 1 [0]:=E4 W4 [.int .i64 0] _ 1 1 rfl (by decide);have z5:Below W4.heap.size W4 (W4.alloc (.cells #[.int .i64 0] 3)):=(Below.refl _ W4).alloc rr _;have s5:(W4.alloc (.cells #[.int .i64 0] 3)).heap.size=W4.heap.size+1:=by simp
 generalize W4.alloc (.cells #[.int .i64 0] 3)=W5 at*;have h6:Bn (W5.alloc (.cells #[.int .i64 3] 3)) (some ⟨W5.heap.size,0,none⟩) 1 1 [3]:=E4 W5 [.int .i64 3] _ 1 1 rfl (by decide);have z6:Below W5.heap.size W5 (W5.alloc (.cells #[.int .i64 3] 3)):=(Below.refl _ W5).alloc rr _;have s6:(W5.alloc (.cells #[.int .i64 3] 3)).heap.size=W5.heap.size+1:=by simp
 generalize W5.alloc (.cells #[.int .i64 3] 3)=W6 at*;rw[←s4,←s5,←s6];have h7:Cr Bu.cells 5 (W6.alloc (.cells #[.int .i64 0, .slice (some ⟨W4.heap.size,0,none⟩) 1 1, .int .i64 2, .int .i64 1, .int .i64 100, .int .i64 1, .slice (some ⟨W5.heap.size,0,none⟩) 1 1, .int .i64 0, .int .i64 3, .int .i64 13] 38)) (some ⟨W6.heap.size,0,none⟩) 2 2 [⟨wv0,some ⟨W4.heap.size,0,none⟩,1,1⟩,⟨wv1,some ⟨W5.heap.size,0,none⟩,1,1⟩]:=⟨E4 W6 _ _ 2 5 rfl (by decide),rfl⟩;have z7:Below W6.heap.size W6 (W6.alloc (.cells #[.int .i64 0, .slice (some ⟨W4.heap.size,0,none⟩) 1 1, .int .i64 2, .int .i64 1, .int .i64 100, .int .i64 1, .slice (some ⟨W5.heap.size,0,none⟩) 1 1, .int .i64 0, .int .i64 3, .int .i64 13] 38)):=(Below.refl _ W6).alloc rr _;generalize W6.alloc (.cells #[.int .i64 0, .slice (some ⟨W4.heap.size,0,none⟩) 1 1, .int .i64 2, .int .i64 1, .int .i64 100, .int .i64 1, .slice (some ⟨W5.heap.size,0,none⟩) 1 1, .int .i64 0, .int .i64 3, .int .i64 13] 38)=W7 at*;have z67:=z6.trans (z7.mono z6.size);have z57:=z5.trans (z67.mono z5.size);have z47:=z4.trans (z57.mono z4.size);refine⟨b,_,_,_,_,rfl,b9.out.below z47,h4.below z57 rr,rfl,⟨h7,fun y hy=> ?_⟩,rfl,b1.out.trans (z47.mono b1.out.size)⟩
 simp only[List.mem_cons,List.not_mem_nil,or_false]at hy;rcases hy with rfl|rfl
 ·exact⟨Am.below h5 z67 rr,Amh⟩
 ·exact⟨Am.below h6 z7 rr,Ami⟩
theorem Fz (A A':Option Addr)(n n' c c':Nat)(xs ys:List Int)(w:World)(hx:Bn w A n c xs)(hy:Bn w A' n' c' ys):
  Calls Tryz.prog 32 #[.slice A n c, .slice A' n' c'] w fun e w'=>e= .returned (.bool (decide (xs=ys)))/\Below w.heap.size w w':=by
 have hm:=hx.max;by_cases hn:n=n'
 ·subst hn;have HX:=hI hx;clear hx;have HY:=hI hy;clear hy;go_enter Tryz.func32,Tryz.ntmps32;go_wp2
  go_loopw [5] (fun i wr=>∃k:Nat,k<=n/\i= .int .i64 k/\xs.take k=ys.take k/\Below w.heap.size w wr) (fun i _=>n-(intOf i).toNat)
  case atStart=>exact⟨0,Nat.zero_le _,rfl,by simp,bel⟩
  case round=>
   obtain⟨k,hk,rfl,a0,hB⟩:=hrel;have HA:=hI a0;clear a0;by_cases hlt:k<n
   ·obtain⟨b,off,p,rfl,hb,a8,a2⟩:=(HX.out.below hB rr).at_ hlt;obtain⟨b',off',p',rfl,a9,a4,a3⟩:=(HY.out.below hB rr).at_ hlt;have HK:=hI a2;clear a2;have a1:=hI a3;clear a3;go_wp2;by_cases h1:p=p'
    ·subst h1;have HS:=hI (Bd xs k p HK.out);have a6:=hI (Bd ys k p a1.out);have a5:(p !=p)=false:=by simp
     go_quiet (fail)
     go_wp2
     go_roundw
     case rel=>exact⟨k+1,by omega,by go_num,by rw[HS.out,a6.out,HA.out],bel⟩
     case measure=>simp[intOf];omega
    ·have hf:decide (xs=ys)=false:=by
      apply decide_eq_false;rintro rfl
      have:=HK.out.symm.trans a1.out
      simp only[Option.some.injEq]at this;exact h1 this
     have HF:=hI hf;clear hf;have a5:(p !=p')=true:=by simpa using h1
     clear h1
     go_quiet (fail)
     go_wp2;go_ret;exact⟨by rw[HF.out];rfl,bel⟩
   ·obtain rfl:k=n:=by omega
    have hf:decide (xs=ys)=true:=by
     apply decide_eq_true
     have:=HA.out
     rwa[List.take_of_length_le (by rw[HX.out.len];exact rr),List.take_of_length_le (by rw[HY.out.len];exact rr)]at this
    have HF:=hI hf;clear hf;go_wp2;go_ret;exact⟨by rw[HF.out];rfl,hB⟩
 ·have hf:decide (xs=ys)=false:=by
   apply decide_eq_false;rintro rfl;exact hn (hx.len.symm.trans hy.len)
  have HF:=hI hf;clear hf;have a7:((n:Int) !=(n':Int))=true:=by simp;omega
  have HX:=hI hx;clear hx;have HY:=hI hy;clear hy;go_enter Tryz.func32,Tryz.ntmps32;go_wp2;go_ret;exact⟨by rw[HF.out];rfl,bel⟩
theorem Pf (A A':Option Addr)(n n' c c':Nat)(xs ys:List Int)(w:World)(hx:Bn w A n c xs)(hy:Bn w A' n' c' ys):
  Calls Tryz.prog 40 #[.slice A n c, .slice A' n' c'] w fun e w'=>e= .returned (.bool (decide (xs=ys)))/\Below w.heap.size w w':=by
 have hm:=hx.max;by_cases hn:n=n'
 ·subst hn;have HX:=hI hx;clear hx;have HY:=hI hy;clear hy;go_enter Tryz.func40,Tryz.ntmps40;go_wp2
  go_loopw [5] (fun i wr=>∃k:Nat,k<=n/\i= .int .i64 k/\xs.take k=ys.take k/\Below w.heap.size w wr) (fun i _=>n-(intOf i).toNat)
  case atStart=>exact⟨0,Nat.zero_le _,rfl,by simp,bel⟩
  case round=>
   obtain⟨k,hk,rfl,a0,hB⟩:=hrel;have HA:=hI a0;clear a0;by_cases hlt:k<n
   ·obtain⟨b,off,p,rfl,hb,a8,a2⟩:=(HX.out.below hB rr).at_ hlt;obtain⟨b',off',p',rfl,a9,a4,a3⟩:=(HY.out.below hB rr).at_ hlt;have HK:=hI a2;clear a2;have a1:=hI a3;clear a3;go_wp2;by_cases h1:p=p'
    ·subst h1;have HS:=hI (Bd xs k p HK.out);have a6:=hI (Bd ys k p a1.out);have a5:(p !=p)=false:=by simp
     go_quiet (fail)
     go_wp2
     go_roundw
     case rel=>exact⟨k+1,by omega,by go_num,by rw[HS.out,a6.out,HA.out],bel⟩
     case measure=>simp[intOf];omega
    ·have hf:decide (xs=ys)=false:=by
      apply decide_eq_false;rintro rfl
      have:=HK.out.symm.trans a1.out
      simp only[Option.some.injEq]at this;exact h1 this
     have HF:=hI hf;clear hf;have a5:(p !=p')=true:=by simpa using h1
     clear h1
     go_quiet (fail)
     go_wp2;go_ret;exact⟨by rw[HF.out];rfl,bel⟩
   ·obtain rfl:k=n:=by omega
    have hf:decide (xs=ys)=true:=by
     apply decide_eq_true
     have:=HA.out
     rwa[List.take_of_length_le (by rw[HX.out.len];exact rr),List.take_of_length_le (by rw[HY.out.len];exact rr)]at this
    have HF:=hI hf;clear hf;go_wp2;go_ret;exact⟨by rw[HF.out];rfl,hB⟩
 ·have hf:decide (xs=ys)=false:=by
   apply decide_eq_false;rintro rfl;exact hn (hx.len.symm.trans hy.len)
  have HF:=hI hf;clear hf;have a7:((n:Int) !=(n':Int))=true:=by simp;omega
  have HX:=hI hx;clear hx;have HY:=hI hy;clear hy;go_enter Tryz.func40,Tryz.ntmps40;go_wp2;go_ret;exact⟨by rw[HF.out];rfl,bel⟩
def Ll (p:Part):List Value:=[p.val]
theorem Yz (p:Part):(Ll p).length=1:=rfl
theorem Ux:∀ps:List Part,ps.flatMap Ll=ps.map Part.val
 |[]=>rfl
 |p::r=>by rw[List.flatMap_cons,Ux r];rfl
theorem Am.recs {w:World}{A:Option Addr}{n c:Nat}{ps:List Part}(h:Am w A n c 1 (ps.map Part.val)):Cr Ll 1 w A n c ps:=
 ⟨by rw[Ux];exact h,by have:=h.1;simpa using this⟩
theorem Ajt (A:Option Addr)(n c:Nat)(xs:List Part)(F:Nat)(lb:Array Value)(p:Part->Bool)(w:World)(hx:Cr Ll 1 w A n c xs)(hE:Enters Tryz.prog F)
  (hcall:∀W,Below w.heap.size w W→∀s∈xs,Calls Tryz.prog F (#[Part.val s]++lb) W fun e W'=>e= .returned (.bool (p s))/\Below W.heap.size W W'):
  Calls Tryz.prog 68 #[.slice A n c, .func (.func F) #[] lb] w fun e w'=>e= .returned (.int .i64 (Gu p xs))/\Below w.heap.size w w':=by
 have hm:n<=9223372036854775807:=by have h1:=hx.1.2.1;have h2:=hx.1.2.2.1;unfold maxLen at h2;omega
 have HX:=hI hx;clear hx;have HC:=hI hcall;clear hcall;unfold Enters at hE;go_enter Tryz.func68,Tryz.ntmps68;go_wp2
 go_loopw [5,8] (fun _ i wr=>∃k:Nat,k<=n/\i= .int .i64 k/\Hid ((xs.take k).any p=false)/\Below w.heap.size w wr) (fun _ i _=>n-(intOf i).toNat)
 case atStart=>exact⟨0,Nat.zero_le _,rfl,by simp[Hid],Below.refl _ _⟩
 case round=>
  obtain⟨k,hk,rfl,HA,hB⟩:=hrel;by_cases hlt:k<n
  ·obtain⟨s,a2⟩:∃s,xs[k]? =some s:=⟨xs[k]'(by rw[HX.out.2];exact hlt),List.getElem?_eq_getElem _⟩;obtain⟨b,off,rfl,hb,a5⟩:=(HX.out.below hB rr).at_ Yz (by decide) a2;have a6:=a5 0 _ rfl;simp only[Nat.add_zero,←Nat.add_assoc,Nat.mul_one]at a6;clear a5;have a0:=hI (HC.out wr hB s (List.mem_of_getElem? a2));have HK:=hI a2;clear a2;by_cases hp:p s=true
   ·have hr:=Hc p xs k s HK.out HA.out hp;have HR:=hI hr;clear hr;have HP:=hI hp;clear hp;go_wp2_with fail;refine a0.out.mono ?_;rintro e w1 ⟨rfl,a1⟩;rw[HP.out];have a3:=hB.trans (a1.mono hB.size);clear a1;go_wp2;go_ret;exact⟨by rw[HR.out];rfl,a3⟩
   ·have a4:p s=false:=by simpa using hp
    have HP:=hI a4;clear hp a4;go_wp2_with fail;refine a0.out.mono ?_;rintro e w1 ⟨rfl,a1⟩;rw[HP.out];have a3:=hB.trans (a1.mono hB.size);clear a1;go_wp2
    go_roundw
    case rel=>exact⟨k+1,by omega,by go_num,by rw[Bd xs k _ HK.out,List.any_append,HA.out];simp[HP.out,Hid],a3⟩
    case measure=>simp[intOf];omega
  ·obtain rfl:k=n:=by omega
   have hr:Gu p xs= -1:=by
    have:=HA.out
    rw[List.take_of_length_le (by rw[HX.out.2];exact rr)]at this;exact Hb p xs this
   have HR:=hI hr;clear hr;go_wp2;go_ret;exact⟨by rw[HR.out];rfl,hB⟩
theorem Am6 (Ax:Option Addr)(nx cx:Nat)(x:List Snd)(Ay:Option Addr)(ny cy:Nat)(y:List Snd)(bx:Nat)(w:World)(hb:w.heap[bx]? =some (.cells #[.slice Ax nx cx] 28 (0,0)))(hx:Aj w Ax nx cx x)(hy:Aj w Ay ny cy y):
  Calls Tryz.prog 69 #[.slice Ay ny cy, .pointer (some ⟨bx,0,none⟩)] w fun e w'=>e= .returned (.bool (decide (x=y)))/\Below w.heap.size w w':=by
 have c0:=cell_of_one hb;have HE:=hI (Xr Ax Ay nx ny cx cy x y w hx hy);clear hb hx hy;obtain⟨r,hr⟩:∃r,r=decide (x=y):=⟨_,rfl⟩;rw[←hr]at HE ⊢;clear hr;go_enter Tryz.func69,Tryz.ntmps69;go_wp2_with fail;refine HE.out.mono ?_;rintro e w1 ⟨rfl,a0⟩;go_wp2;go_ret;exact⟨rfl,a0⟩
theorem Aab {α:Type}(p:α->Bool):∀l:List α,Gu p l=match l.findIdx? p with|some k=>(k:Int)|none=> -1
 |[]=>rfl
 |x::l=>by
  have h:=Aab p l;unfold Gu;rw[List.findIdx?_cons];by_cases hx:p x=true
  ·simp[hx]
  ·rw[if_neg hx,if_neg hx,h]
   cases l.findIdx? p with
   |none=>rfl
   |some k=>simp only[Option.map_some];rw[if_neg (by omega)];rfl
theorem Ae8 (ps:List Part)(x:List Snd):Gu (fun p=>decide (x=p.word)) ps=Gq (ps.map Part.word) x:=by
 unfold Gq;rw[List.findIdx?_map,Aab];rfl
theorem Qn {f:Nat->Int×List Snd}:∀(l:List Nat) (done:List (List Snd)),(Du f done l).2.length<=done.length+l.length
 |[],done=>by simp[Du]
 |a::l,done=>by
  unfold Du;split
  ·simp
  ·have:=Qn (f:=f) l (done++[(f a).2])
   simp only[List.length_append,List.length_cons,List.length_nil]at this ⊢;omega
theorem Ae9 (n:Nat)(rs:List Bb)(ls:List Bi)(ws:List Cv)(w:List Snd)(now:Int):(Bo n rs ls ws w now).2.length<=n:=by
 unfold Bo;split
 ·simp
 ·split
  ·simp
  ·have:=Qn (f:=Eo n rs ls ws w now) (List.range n) []
   simpa using this
theorem Acc (b n:Nat)(rs:List Bb)(Ax:Option Addr)(nx cx:Nat)(xs:List Bj)(A:Option Addr)(m c:Nat)(ys:List Bu)(Aw:Option Addr)(nw cw:Nat)(ws:List Snd)(now:Int)(w:World)(hm:C0 w b n rs)(hx:Br w Ax nx cx xs)(hy:Bv w A m c ys)(hw:Aj w Aw nw cw ws)(hT:Cd w)(h19:m<=19\/64<m):
  Calls Tryz.prog 24 #[.pointer (some ⟨b,0,none⟩), .slice Ax nx cx, .slice A m c, .slice Aw nw cw, .int .i64 now] w (C6 w (Lq n rs (Ah xs) (Ae ys) ws now)):=by
 have b5:=hm.few;have HF:=hI (Lr b n rs Ax nx cx xs A m c ys Aw nw cw ws now w hm hx hy hw hT h19);have HN:Hid ((Bo n rs (Ah xs) (Ae ys) ws now).2.length<=n):=Ae9 _ _ _ _ _ _;have HV:Hid (Lq n rs (Ah xs) (Ae ys) ws now=if(Bo n rs (Ah xs) (Ae ys) ws now).1≠0 then((Bo n rs (Ah xs) (Ae ys) ws now).1,[])else(0,(Bo n rs (Ah xs) (Ae ys) ws now).2.map (Gq (Bo n rs (Ah xs) (Ae ys) ws now).2))):=rfl;obtain⟨R,hR⟩:∃R,R=Bo n rs (Ah xs) (Ae ys) ws now:=⟨_,rfl⟩;obtain⟨V,hV⟩:∃V,V=Lq n rs (Ah xs) (Ae ys) ws now:=⟨_,rfl⟩;rw[←hR]at HF HN HV;rw[←hV]at HV ⊢;obtain⟨er,fs⟩:=R;clear hm hx hy hw hT h19 hR hV;simp only at HF HN HV;go_enter Tryz.func24,Tryz.ntmps24;go_wp2_with fail;refine HF.out.mono ?_;rintro e w1 ⟨A1,c1,ps,rfl,a7,a0,b2,d9,b9⟩;have d2:=hI a7;have d0:=hI b2;have a6:=hI b9;have a5:=hI (Am.recs (Am.of_own a0 (by decide)))
 have d6:ps.length<=128:=by
  have h1:=congrArg List.length a7;have h2:=HN.out;simp only[List.length_map]at h1;have h3:fs.length<=n:=h2;have h4:ps.length=fs.length:=h1;omega
 obtain⟨k,hk⟩:∃k,k=ps.length:=⟨_,rfl⟩;have HK:=hI hk;rw[←hk]at a5 d6 ⊢;clear a7 a0 b2 d9 b9 hk HF;by_cases h0:er=0
 ·subst h0
  have a2:Hid (V=(0,ps.map fun p=>Gq (ps.map Part.word) p.word)):=by
   show _=_;rw[HV.out,if_neg (by simp)]
   have:fs=ps.map Part.word:=d2.out.symm
   show(_,_)=_;rw[this,List.map_map];rfl
  have d8:=fun w=>run_make_row' (P:=Tryz.prog) 36 3 (.int .i64 0) 8 Tryz.underlying36 Gs rfl .i64 .i64 k (by omega) (by omega) w
  have f4:k<=maxLen:=by unfold maxLen;omega
  go_wp2_with fail;clear d8;rw[Lm];have a8:Hid ((w1.alloc (.cells (D9 k fun _=>0) 3)).heap[w1.heap.size]? =some (.cells (D9 k fun _=>0) 3 (0,0))):=Ak rfl;have b3:Hid (Below w1.heap.size w1 (w1.alloc (.cells (D9 k fun _=>0) 3))):=(Below.refl _ w1).alloc rr _;obtain⟨g,hg⟩:∃g,g=w1.heap.size:=⟨_,rfl⟩;have f2:w1.heap.size<=g:=by omega
  rw[←hg]at a8 ⊢;generalize w1.alloc (.cells (D9 k fun _=>0) 3)=w4 at*;clear hg;obtain⟨fe,b8⟩:∃fe:Nat->Int,fe=fun v=>((ps[v]?).map fun p=>Gq (ps.map Part.word) p.word).getD 0:=⟨_,rfl⟩
  have b0:=hI b8;clear b8
  go_loopw [34] (fun i wr=>∃j:Nat,j<=k/\i= .int .i64 (j:Int)/\Hid (wr.heap[g]? =some (.cells (D9 k fun v=>if v<j then fe v else 0) 3 (0,0)))/\Hid (Below w1.heap.size w1 wr)) (fun i _=>k-(intOf i).toNat)
  case atStart=>exact⟨0,Nat.zero_le _,rfl,by show _=_;simpa using a8.out,b3.out⟩
  case round=>
   obtain⟨j,hj,rfl,HG,HB⟩:=hrel;clear a8 b3;by_cases hlt:j<k
   ·have f1:(j:Int)<(k:Int):=by omega
    obtain⟨⟨Ap,np,cp,wp⟩,hp⟩:∃p,ps[j]? =some p:=⟨ps[j]'(by rw[←HK.out];exact hlt),List.getElem?_eq_getElem _⟩;obtain⟨ga,oa,hA,f3,b7⟩:=(a5.out.below HB.out rr).at_ Yz (by decide) hp;subst hA;have d4:=b7 0 _ rfl;simp only[Nat.add_zero,←Nat.add_assoc,Nat.mul_one,Part.val]at d4;have a1:=List.mem_of_getElem? hp;have d1:=hI ((d0.out _ a1).below HB.out rr);have b6:Hid (fe j=Gq (ps.map Part.word) wp):=by show _=_;rw[b0.out];show((ps[j]?).map _).getD 0=_;rw[hp];rfl
    clear b7 hp a1;have hz:Below wr.heap.size wr (wr.alloc (.cells #[.slice Ap np cp] 28)):=(Below.refl _ wr).alloc rr _;have b1:(wr.alloc (.cells #[.slice Ap np cp] 28)).heap[wr.heap.size]? =some (.cells #[.slice Ap np cp] 28 (0,0)):=Ak rfl;have a9:=hI b1;have HZ:=hI hz;clear b1 hz;go_wp2_with fail;refine(Ajt (some ⟨ga,oa,none⟩) k c1 ps 69 #[.pointer (some ⟨wr.heap.size,0,none⟩)] (fun p=>decide (wp=p.word)) _ (a5.out.below (HB.out.trans (HZ.out.mono HB.out.size)) rr) (enters_of Tryz.func69 (by kernel_rfl) rfl) ?hcall).mono ?_
    case hcall=>
     intro W hW s hs;have d5:Below w1.heap.size w1 W:=HB.out.trans ((HZ.out.trans (hW.mono HZ.out.size)).mono HB.out.size);exact Am6 Ap np cp wp s.1 s.2.1 s.2.2.1 s.2.2.2 wr.heap.size W ((hW.block _ (lt_of_block a9.out)).trans a9.out) (d1.out.below (HZ.out.trans (hW.mono HZ.out.size)) rr) ((d0.out s hs).below d5 rr)
    rw[Ae8];obtain⟨t,ht⟩:∃t,t=Gq (ps.map Part.word) wp:=⟨_,rfl⟩;rw[←ht]at b6 ⊢;rintro e w5 ⟨rfl,b4⟩;have a4:=HZ.out.trans (b4.mono HZ.out.size);have a3:=hI ((a4.block g (lt_of_block HG.out)).trans HG.out);have d7:=hI (HB.out.trans (a4.mono HB.out.size));clear ht b4 a4 HG HB a9 HZ d1;have cg:=Gk a3.out hlt;have fg:w5.frozen? ⟨g,j,none⟩=false:=by simp[World.frozen?,a3.out]
    have f0:Hid ((w5.setCell ⟨g,j,none⟩ (.int .i64 t)).heap[g]? =some (.cells (D9 k fun v=>if v<j+1 then fe v else 0) 3 (0,0))):=by
     show _=_
     rw[B2 a3.out,K4 (g:=fun v=>if v<j+1 then fe v else 0) (by simp[b6.out]) fun v _ hv=>by
      by_cases e:v<j
      ·simp[e,Nat.lt_succ_of_lt e]
      ·have:¬v<j+1:=by omega
       simp[e,this]]
    have d3:=hI (d7.out.setCell (p:=⟨g,j,none⟩) (by show w1.heap.size<=g;omega) (.int .i64 t));go_wp2_with fail
    go_roundw
    case rel=>exact⟨j+1,by omega,by simp,f0.out,d3.out⟩
    case measure=>simp[intOf];omega
   ·obtain rfl:j=k:=by omega
    go_wp2
    go_ret2
    have hr:=Vx HG.out (by omega);refine⟨_,_,_,by rw[a2.out];rfl, ?_,a6.out.trans (HB.out.mono a6.out.size)⟩;rw[a2.out];show Bn _ _ _ _ (ps.map fun p=>Gq (ps.map Part.word) p.word)
    rw[show(ps.map fun p=>Gq (ps.map Part.word) p.word)=(List.range j).map fun v=>if v<j then fe v else 0 from by
     apply List.ext_getElem?;intro v;rw[List.getElem?_map,List.getElem?_map];by_cases hv:v<j
     ·rw[List.getElem?_range hv,Option.map_some,if_pos hv,b0.out]
      have:ps[v]? =some (ps[v]'(by rw[←HK.out];exact hv)):=List.getElem?_eq_getElem _
      simp only[this];rfl
     ·rw[List.getElem?_eq_none (by rw[←HK.out];omega),List.getElem?_eq_none (by simpa using hv)];rfl]
    exact hr
 ·have h1:(er !=0)=true:=by simpa using h0
  have a2:Hid (V=(er,[])):=by show _=_;rw[HV.out,if_pos h0]
  go_wp2
  go_ret2
  exact C6.bad a2.out a6.out
end Go.Proofs.YtaglfmlgbcmakaaGreatDoor
