/-
  The examples of the statements' own package: sounds and laws.
  The examples of chapter 38, in plain words.
  example of ablautlaw38: the map of the chapter, its laws and waves.
  ablautlaw10.numbers.
-/
import Derived.Test.YtaglfmlgbcmakaaGreatDoorXNw3
set_option linter.all false
set_option maxRecDepth 100000
set_option maxHeartbeats 4000000
namespace Go.Proofs.YtaglfmlgbcmakaaGreatDoor
open Go.RowKit Go.Shelf
theorem Rj (w:World):Calls Tryz.prog 48 #[] w fun e w'=>e= .returned (C7 sA.1 sA.2)/\Below w.heap.size w w':=by
 go_enter Tryz.func48,Tryz.ntmps48;go_wp2;refine bodyPost_ret (Hg Tryz.results48 _ _ w.heap.size 5 2 rfl ?_) rfl ⟨rfl, ?_⟩
 ·exact Am rfl
 ·exact bel
theorem Afx (w:World):Calls Tryz.prog 49 #[] w fun e w'=>e= .returned (C7 sP.1 sP.2)/\Below w.heap.size w w':=by
 go_enter Tryz.func49,Tryz.ntmps49;go_wp2;refine bodyPost_ret (Hg Tryz.results49 _ _ w.heap.size 2 5 rfl ?_) rfl ⟨rfl, ?_⟩
 ·exact Am rfl
 ·exact bel
theorem Ale (w:World):Calls Tryz.prog 73 #[] w fun e w'=>e= .returned (C7 sB.1 sB.2)/\Below w.heap.size w w':=by
 go_enter Tryz.func73,Tryz.ntmps73;go_wp2;refine bodyPost_ret (Hg Tryz.results73 _ _ w.heap.size 3 4 rfl ?_) rfl ⟨rfl, ?_⟩
 ·exact Am rfl
 ·exact bel
theorem Am3 (w:World):Calls Tryz.prog 90 #[] w (Af1 w fD):=by
 obtain⟨a,ha⟩:∃a:Dq,a={Al:=none,cl:=0,Ar:=none,cr:=0,Ai:=some ⟨w.heap.size+1,0,none⟩,ci:=1,Ao:=none,co:=0}:=⟨_,rfl⟩;go_enter Tryz.func90,Tryz.ntmps90;go_wp2_with(refine Ve rfl (.tmp 0) (.tmp 4) rfl w.heap.size fD a rfl (by rw[ha];rfl) (t:=55) ((Bc (by simp)).trans (Am rfl)) rfl ?_;intro W1 g1 g2 g3);have h1:=(g2.block (w.heap.size+1) (by simp) (by omega)).trans (Am (by simp));refine bodyPost_ret (Ku Tryz.results90 _ _ w.heap.size fD a rfl g1) rfl ⟨a,rfl, ?_, ?_⟩
 ·subst ha;exact⟨Sf _,Sf _,Yf (s:=(4,0)) h1,⟨Az.nil _ _,rfl⟩,by decide⟩
 ·exact Below.trans bel (g2.to_below (B:=w.heap.size) (fun k hk=>by omega) (by simp;omega))
theorem Am4 (w:World):Calls Tryz.prog 89 #[] w (Af1 w vD):=by
 obtain⟨a,ha⟩:∃a:Dq,a={Al:=none,cl:=0,Ar:=none,cr:=0,Ai:=some ⟨w.heap.size+1+1,0,none⟩,ci:=1,Ao:=some ⟨w.heap.size+1+1+1,0,none⟩,co:=1}:=⟨_,rfl⟩;go_enter Tryz.func89,Tryz.ntmps89;go_wp2_with(refine Ve rfl (.tmp 0) (.tmp 11) rfl w.heap.size vD a rfl (by rw[ha];rfl) (t:=55) (by repeat(first|exact Am sd|rw[Bc sd])) rfl ?_;intro W1 g1 g2 g3);have h1:=(g2.block (w.heap.size+1+1) (by simp) (by omega)).trans (show _=some (.cells #[.int .u32 2, .int .u32 0] 49 (0,0))by repeat(first|exact Am sd|rw[Bc sd]));have h2:=(g2.block (w.heap.size+1+1+1) (by simp) (by omega)).trans (show _=some (.cells #[.int .i64 0, .int .u32 0, .int .u32 1, .int .u32 0, .int .u32 0, .int .i64 0] 104 (0,0))by repeat(first|exact Am sd|rw[Bc sd]));refine bodyPost_ret (Ku Tryz.results89 _ _ w.heap.size vD a rfl g1) rfl ⟨a,rfl, ?_, ?_⟩
 ·subst ha;refine⟨Sf _,Sf _,Yf (s:=(2,0)) h1,⟨⟨rfl,rr,(by decide:1<=maxLen),(fun h=>by cases h),fun _=>⟨w.heap.size+1+1+1,0,rfl,lt_of_block h2,fun j v hv=> ?_⟩⟩,rfl⟩,by decide⟩
  rw[Nat.zero_add];refine Ad h2 ?_;have a0:[Value.int .i64 0, .int .u32 0, .int .u32 1, .int .u32 0, .int .u32 0, .int .i64 0][j]? =some v:=hv;simpa using a0
 ·exact Below.trans bel (g2.to_below (B:=w.heap.size) (fun k hk=>by omega) (by simp;omega))
end Go.Proofs.YtaglfmlgbcmakaaGreatDoor
namespace Go.Proofs.YtaglfmlgbcmakaaGreatDoor
open Go.RowKit
def Wn:List ByteArray:=[⟨#[97]⟩,⟨#[98]⟩,⟨#[99]⟩,⟨#[100]⟩,⟨#[101]⟩]
def Se:List Ep:=[(0,1,4),(1,2,3),(2,3,1)]
def Fw:List Bk:=[(0,1,4),(1,2,3),(2,3,1)]
def wv0:Ef:=⟨0,[0],2,1,100⟩
def wv1:Ef:=⟨1,[3],0,3,13⟩
theorem Alt:Ed Wn Se=0:=by kernel_rfl
theorem Afy:Se.map Bm=Fw:=rfl
theorem Ajq:Jj 5 Fw wv0=(0,[2,6,9,10, -1]):=by kernel_rfl
theorem Ajr:Jj 5 Fw wv1=(0,[-1,12,3,0, -1]):=by kernel_rfl
theorem Ajs:Qa 5 Fw [vD,fD] [wv0,wv1] 2 9=(0,[1,0]):=by kernel_rfl
theorem Afz:Ha 5 Fw [vD,fD] [wv0,wv1] 0 1=(0,[0,1]):=by kernel_rfl
theorem Af0:Bp 5 Fw [vD,fD] [wv0,wv1] [sA,sP,sA] 12=(0,[[sA,sB,sA],[sA,sB],[sA,sP],[sA,sP],[sA,sP,sA]]):=by kernel_rfl
end Go.Proofs.YtaglfmlgbcmakaaGreatDoor
namespace Go.Proofs.YtaglfmlgbcmakaaGreatDoor
open Go.RowKit Go.Shelf
theorem Gu (w:World)(vs:List Value)(t:TypeId)(n sz:Nat)(h:vs.length=n*sz)(hn:n<=maxLen):Az (w.alloc (.cells vs.toArray t)) (some ⟨w.heap.size,0,none⟩) n n sz vs:=
 ⟨h,rr,hn,(fun h=>by cases h),fun _=>⟨w.heap.size,0,rfl,by simp,fun j v hv=>by rw[Nat.zero_add];exact B8 (by simpa using hv)⟩⟩
theorem Am5:Agv wv0:=⟨by decide,by decide,by decide,by decide,fun x hx=>by
 have h:x=0:=by simpa[wv0]using hx
 rw[h];decide⟩
theorem Am6:Agv wv1:=⟨by decide,by decide,by decide,by decide,fun x hx=>by
 have h:x=3:=by simpa[wv1]using hx
 rw[h];decide⟩
theorem Ye (w:World):Calls Tryz.prog 47 #[] w fun e w'=>
  ∃b Al xs Aw ys,e= .returned (.tuple #[.pointer (some ⟨b,0,none⟩), .slice Al 2 2, .slice Aw 2 2])/\Dr w' b 5 Fw/\Cf w' Al 2 2 xs/\Au xs=[vD,fD]/\Cm w' Aw 2 2 ys/\Aj ys=[wv0,wv1]/\Below w.heap.size w w':=by
 go_enter Tryz.func47,Tryz.ntmps47;go_wp2_with fail;have b3:Hi (w.alloc (.cells #[.string ⟨#[97]⟩, .string ⟨#[98]⟩, .string ⟨#[99]⟩, .string ⟨#[100]⟩, .string ⟨#[101]⟩] 9)) (some ⟨w.heap.size,0,none⟩) 5 5 Wn:=Gu w _ _ 5 1 rfl (by decide);have a3:Below w.heap.size w (w.alloc (.cells #[.string ⟨#[97]⟩, .string ⟨#[98]⟩, .string ⟨#[99]⟩, .string ⟨#[100]⟩, .string ⟨#[101]⟩] 9)):=(Below.refl _ w).alloc rr _;have hsz:(w.alloc (.cells #[.string ⟨#[97]⟩, .string ⟨#[98]⟩, .string ⟨#[99]⟩, .string ⟨#[100]⟩, .string ⟨#[101]⟩] 9)).heap.size=w.heap.size+1:=by simp
 generalize w.alloc (.cells #[.string ⟨#[97]⟩, .string ⟨#[98]⟩, .string ⟨#[99]⟩, .string ⟨#[100]⟩, .string ⟨#[101]⟩] 9)=V1 at*;have a2:D7 (V1.alloc (.cells #[.int .i64 0, .int .i64 1, .int .i64 4, .int .i64 1, .int .i64 2, .int .i64 3, .int .i64 2, .int .i64 3, .int .i64 1] 64)) (some ⟨V1.heap.size,0,none⟩) 3 3 Se:=⟨Gu V1 _ _ 3 3 rfl (by decide),rfl⟩;rw[hsz]at a2;have a0:Below V1.heap.size V1 (V1.alloc (.cells #[.int .i64 0, .int .i64 1, .int .i64 4, .int .i64 1, .int .i64 2, .int .i64 3, .int .i64 2, .int .i64 3, .int .i64 1] 64)):=(Below.refl _ V1).alloc rr _;generalize V1.alloc (.cells #[.int .i64 0, .int .i64 1, .int .i64 4, .int .i64 1, .int .i64 2, .int .i64 3, .int .i64 2, .int .i64 3, .int .i64 1] 64)=V2 at*;refine(Alk _ 5 5 Wn _ 3 3 Se V2 (b3.below a0 rr) a2).mono ?_;rintro e w1 ⟨⟨h0, -⟩|⟨-,b,rfl,a7⟩,b6⟩
 ·exact absurd Alt h0
 rw[Afy]at a7;have b4:Hid (Dr w1 b 5 Fw):=a7;have a9:Below w.heap.size w w1:=a3.trans ((a0.trans (b6.mono a0.size)).mono a3.size);have a4:=hI a9;clear b3 a3 hsz a2 a0 a7 b6 a9;go_wp2_with fail;refine(Am4 w1).mono ?_;rintro e w2 ⟨av,rfl,b2,a6⟩;have b0:=hI b2;have a8:=hI (b4.out.below a6);have a5:=hI (a4.out.trans (a6.mono a4.out.size));clear b2 a6 b4 a4;go_wp2_with fail;refine(Am3 w2).mono ?_;rintro e w3 ⟨af,rfl,b5,a1⟩;have b7:=hI b5;have b8:=hI (b0.out.below a1 rr);have b9:=hI (a8.out.below a1);have b1:=hI (a5.out.trans (a1.mono a5.out.size));clear b5 a1 a8 a5 b0;go_wp2_with(refine Aav rfl (.tmp 15) (.tmp 16) rfl ⟨vD,av⟩ ⟨fD,af⟩ rfl rfl ?_)
 go_ret3
 have h4:=X0 w3 ⟨vD,av⟩ ⟨fD,af⟩ 55 b8.out b7.out;have z4:Below w3.heap.size w3 (w3.alloc (.cells (Cb.cells ⟨vD,av⟩++Cb.cells ⟨fD,af⟩).toArray 55)):=(Below.refl _ w3).alloc rr _;have s4:(w3.alloc (.cells (Cb.cells ⟨vD,av⟩++Cb.cells ⟨fD,af⟩).toArray 55)).heap.size=w3.heap.size+1:=by simp
 generalize w3.alloc (.cells (Cb.cells ⟨vD,av⟩++Cb.cells ⟨fD,af⟩).toArray 55)=W4 at*;have h5:Ci (W4.alloc (.cells #[.int .i64 0] 3)) (some ⟨W4.heap.size,0,none⟩) 1 1 [0]:=Gu W4 [.int .i64 0] _ 1 1 rfl (by decide);have z5:Below W4.heap.size W4 (W4.alloc (.cells #[.int .i64 0] 3)):=(Below.refl _ W4).alloc rr _;have s5:(W4.alloc (.cells #[.int .i64 0] 3)).heap.size=W4.heap.size+1:=by simp
 generalize W4.alloc (.cells #[.int .i64 0] 3)=W5 at*;have h6:Ci (W5.alloc (.cells #[.int .i64 3] 3)) (some ⟨W5.heap.size,0,none⟩) 1 1 [3]:=Gu W5 [.int .i64 3] _ 1 1 rfl (by decide);have z6:Below W5.heap.size W5 (W5.alloc (.cells #[.int .i64 3] 3)):=(Below.refl _ W5).alloc rr _;have s6:(W5.alloc (.cells #[.int .i64 3] 3)).heap.size=W5.heap.size+1:=by simp
 generalize W5.alloc (.cells #[.int .i64 3] 3)=W6 at*;rw[←s4,←s5,←s6];have h7:Eb Cs.cells 5 (W6.alloc (.cells #[.int .i64 0, .slice (some ⟨W4.heap.size,0,none⟩) 1 1, .int .i64 2, .int .i64 1, .int .i64 100, .int .i64 1, .slice (some ⟨W5.heap.size,0,none⟩) 1 1, .int .i64 0, .int .i64 3, .int .i64 13] 38)) (some ⟨W6.heap.size,0,none⟩) 2 2 [⟨wv0,some ⟨W4.heap.size,0,none⟩,1,1⟩,⟨wv1,some ⟨W5.heap.size,0,none⟩,1,1⟩]:=⟨Gu W6 _ _ 2 5 rfl (by decide),rfl⟩;have z7:Below W6.heap.size W6 (W6.alloc (.cells #[.int .i64 0, .slice (some ⟨W4.heap.size,0,none⟩) 1 1, .int .i64 2, .int .i64 1, .int .i64 100, .int .i64 1, .slice (some ⟨W5.heap.size,0,none⟩) 1 1, .int .i64 0, .int .i64 3, .int .i64 13] 38)):=(Below.refl _ W6).alloc rr _;generalize W6.alloc (.cells #[.int .i64 0, .slice (some ⟨W4.heap.size,0,none⟩) 1 1, .int .i64 2, .int .i64 1, .int .i64 100, .int .i64 1, .slice (some ⟨W5.heap.size,0,none⟩) 1 1, .int .i64 0, .int .i64 3, .int .i64 13] 38)=W7 at*;have z67:=z6.trans (z7.mono z6.size);have z57:=z5.trans (z67.mono z5.size);have z47:=z4.trans (z57.mono z4.size);refine⟨b,_,_,_,_,rfl,b9.out.below z47,h4.below z57 rr,rfl,⟨h7,fun y hy=> ?_⟩,rfl,b1.out.trans (z47.mono b1.out.size)⟩
 simp only[List.mem_cons,List.not_mem_nil,or_false]at hy;rcases hy with rfl|rfl
 ·exact⟨Az.below h5 z67 rr,Am5⟩
 ·exact⟨Az.below h6 z7 rr,Am6⟩
theorem Mc (A A':Option Addr)(n n' c c':Nat)(xs ys:List Int)(w:World)(hx:Ci w A n c xs)(hy:Ci w A' n' c' ys):
  Calls Tryz.prog 32 #[.slice A n c, .slice A' n' c'] w fun e w'=>e= .returned (.bool (decide (xs=ys)))/\Below w.heap.size w w':=by
 have hm:=hx.max;by_cases hn:n=n'
 ·subst hn;have HX:=hI hx;clear hx;have HY:=hI hy;clear hy;go_enter Tryz.func32,Tryz.ntmps32;go_wp2
  go_loopw [5] (fun i wr=>∃k:Nat,k<=n/\i= .int .i64 k/\xs.take k=ys.take k/\Below w.heap.size w wr) (fun i _=>n-(intOf i).toNat)
  case atStart=>exact⟨0,Nat.zero_le _,rfl,by simp,bel⟩
  case round=>
   obtain⟨k,hk,rfl,a0,hB⟩:=hrel;have HA:=hI a0;clear a0;by_cases hlt:k<n
   ·obtain⟨b,off,p,rfl,hb,a8,a2⟩:=(HX.out.below hB rr).at_ hlt;obtain⟨b',off',p',rfl,a9,a4,a3⟩:=(HY.out.below hB rr).at_ hlt;have HK:=hI a2;clear a2;have a1:=hI a3;clear a3;go_wp2;by_cases h1:p=p'
    ·subst h1;have HS:=hI (Bd xs k p HK.out);have a6:=hI (Bd ys k p a1.out);have a5:(p !=p)=false:=by simp
     go_quiet (fail)
     go_wp2
     go_roundw
     case rel=>exact⟨k+1,by omega,by go_num,by rw[HS.out,a6.out,HA.out],bel⟩
     case measure=>simp[intOf];omega
    ·have hf:decide (xs=ys)=false:=by
      apply decide_eq_false;rintro rfl
      have:=HK.out.symm.trans a1.out
      simp only[Option.some.injEq]at this;exact h1 this
     have HF:=hI hf;clear hf;have a5:(p !=p')=true:=by simpa using h1
     clear h1
     go_quiet (fail)
     go_wp2;go_ret;exact⟨by rw[HF.out];rfl,bel⟩
   ·obtain rfl:k=n:=by omega
    have hf:decide (xs=ys)=true:=by
     apply decide_eq_true
     have:=HA.out
     rwa[List.take_of_length_le (by rw[HX.out.len];exact rr),List.take_of_length_le (by rw[HY.out.len];exact rr)]at this
    have HF:=hI hf;clear hf;go_wp2;go_ret;exact⟨by rw[HF.out];rfl,hB⟩
 ·have hf:decide (xs=ys)=false:=by
   apply decide_eq_false;rintro rfl;exact hn (hx.len.symm.trans hy.len)
  have HF:=hI hf;clear hf;have a7:((n:Int) !=(n':Int))=true:=by simp;omega
  have HX:=hI hx;clear hx;have HY:=hI hy;clear hy;go_enter Tryz.func32,Tryz.ntmps32;go_wp2;go_ret;exact⟨by rw[HF.out];rfl,bel⟩
theorem Vg (A A':Option Addr)(n n' c c':Nat)(xs ys:List Int)(w:World)(hx:Ci w A n c xs)(hy:Ci w A' n' c' ys):
  Calls Tryz.prog 40 #[.slice A n c, .slice A' n' c'] w fun e w'=>e= .returned (.bool (decide (xs=ys)))/\Below w.heap.size w w':=by
 have hm:=hx.max;by_cases hn:n=n'
 ·subst hn;have HX:=hI hx;clear hx;have HY:=hI hy;clear hy;go_enter Tryz.func40,Tryz.ntmps40;go_wp2
  go_loopw [5] (fun i wr=>∃k:Nat,k<=n/\i= .int .i64 k/\xs.take k=ys.take k/\Below w.heap.size w wr) (fun i _=>n-(intOf i).toNat)
  case atStart=>exact⟨0,Nat.zero_le _,rfl,by simp,bel⟩
  case round=>
   obtain⟨k,hk,rfl,a0,hB⟩:=hrel;have HA:=hI a0;clear a0;by_cases hlt:k<n
   ·obtain⟨b,off,p,rfl,hb,a8,a2⟩:=(HX.out.below hB rr).at_ hlt;obtain⟨b',off',p',rfl,a9,a4,a3⟩:=(HY.out.below hB rr).at_ hlt;have HK:=hI a2;clear a2;have a1:=hI a3;clear a3;go_wp2;by_cases h1:p=p'
    ·subst h1;have HS:=hI (Bd xs k p HK.out);have a6:=hI (Bd ys k p a1.out);have a5:(p !=p)=false:=by simp
     go_quiet (fail)
     go_wp2
     go_roundw
     case rel=>exact⟨k+1,by omega,by go_num,by rw[HS.out,a6.out,HA.out],bel⟩
     case measure=>simp[intOf];omega
    ·have hf:decide (xs=ys)=false:=by
      apply decide_eq_false;rintro rfl
      have:=HK.out.symm.trans a1.out
      simp only[Option.some.injEq]at this;exact h1 this
     have HF:=hI hf;clear hf;have a5:(p !=p')=true:=by simpa using h1
     clear h1
     go_quiet (fail)
     go_wp2;go_ret;exact⟨by rw[HF.out];rfl,bel⟩
   ·obtain rfl:k=n:=by omega
    have hf:decide (xs=ys)=true:=by
     apply decide_eq_true
     have:=HA.out
     rwa[List.take_of_length_le (by rw[HX.out.len];exact rr),List.take_of_length_le (by rw[HY.out.len];exact rr)]at this
    have HF:=hI hf;clear hf;go_wp2;go_ret;exact⟨by rw[HF.out];rfl,hB⟩
 ·have hf:decide (xs=ys)=false:=by
   apply decide_eq_false;rintro rfl;exact hn (hx.len.symm.trans hy.len)
  have HF:=hI hf;clear hf;have a7:((n:Int) !=(n':Int))=true:=by simp;omega
  have HX:=hI hx;clear hx;have HY:=hI hy;clear hy;go_enter Tryz.func40,Tryz.ntmps40;go_wp2;go_ret;exact⟨by rw[HF.out];rfl,bel⟩
end Go.Proofs.YtaglfmlgbcmakaaGreatDoor
