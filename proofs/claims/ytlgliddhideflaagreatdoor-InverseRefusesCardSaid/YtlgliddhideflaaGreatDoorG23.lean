/-
  ablautref01: Valid, Get, Satisfies.
  ablautref01: put, Change, Take.
  ablautref02: Valid, Check, Copy.
-/
import Derived.Test.YtlgliddhideflaaGreatDoorG21
set_option linter.all false
set_option maxRecDepth 100000
set_option maxHeartbeats 4000000
namespace Go.Proofs.YtlgliddhideflaaGreatDoor
open Go.RowKit Go.Shelf
def U32 (x:Int):Prop:=0<=x/\x<=4294967295
theorem U32.nat {x:Int}(h:U32 x):∃n:Nat,x=n/\n<4294967296:=⟨x.toNat,by have:=h.1;omega,by have:=h.2;omega⟩
theorem Rc (n:Nat)(h:n<4294967296):(bv (n:Int)).toNat=n:=by
 unfold bv;rw[BitVec.ofInt_natCast,BitVec.toNat_ofNat,Nat.mod_eq_of_lt (by omega)]
def toI (x:BitVec 32):Int:=(x.toNat:Int)
theorem Ww (x:BitVec 32):U32 (toI x):=⟨by unfold toI;omega,by have:=x.isLt;unfold toI;omega⟩
theorem Ad2 (x:BitVec 32):bv (toI x)=x:=Gp x
theorem Ad3 {x:Int}(h:U32 x):toI (bv x)=x:=by
 obtain⟨n,rfl,hn⟩:=h.nat;unfold toI;rw[Rc n hn]
def Aa2 (p:Int)(f:Nat)(on:Bool):Int:=if on then bits .or .u32 (bits .andNot .u32 p (2^f%4294967296)) (2^f%4294967296)else bits .andNot .u32 p (2^f%4294967296)
theorem Ad4 (f:Nat)(hf:f<32)(i:Nat):(bv (2^f%4294967296)).getLsbD i=decide (i=f):=by
 have e:((2:Int)^f%4294967296)=((2^f:Nat):Int):=by
  have h1:2^f<=2^31:=Nat.pow_le_pow_right (by decide) (by omega);have h2:(2:Nat)^31=2147483648:=by decide
  have h3:((2:Int)^f)=((2^f:Nat):Int):=by simp
  rw[h3];generalize 2^f=q at*;omega
 rw[e,←BitVec.testBit_toNat,Rc _ (by
  have h1:2^f<=2^31:=Nat.pow_le_pow_right (by decide) (by omega);have h2:(2:Nat)^31=2147483648:=by decide
  omega),Nat.testBit_two_pow]
 exact decide_eq_decide.2 ⟨Eq.symm,Eq.symm⟩
theorem Aa3 (p:Int)(f:Nat)(hf:f<32)(on:Bool)(i:Nat):(bv (Aa2 p f on)).getLsbD i=if i=f then on else(bv p).getLsbD i:=by
 unfold Aa2;have hb:=Ad4 f hf i;cases on
 ·rw[if_neg (by decide),Hg,Gp,BitVec.getLsbD_and,BitVec.getLsbD_not,hb];by_cases h:i=f
  ·simp[h]
  ·by_cases hi:i<32
   ·simp[h,hi]
   ·rw[BitVec.getLsbD_of_ge (bv p) i (by omega)];simp[h]
 ·rw[if_pos rfl,Kf,Gp,Hg,Gp,BitVec.getLsbD_or,BitVec.getLsbD_and,BitVec.getLsbD_not,hb];by_cases h:i=f
  ·simp[h]
  ·by_cases hi:i<32
   ·simp[h,hi]
   ·rw[BitVec.getLsbD_of_ge (bv p) i (by omega)];simp[h]
theorem Aa4 (p:Int)(f:Nat)(on:Bool):U32 (Aa2 p f on):=by
 unfold Aa2;split
 ·rw[Kf];exact Ww _
 ·rw[Hg];exact Ww _
theorem Aa5 (s f set:Int):D6 s f set=toI (bv (D6 s f set)):=by
 have:D6 s f set=toI ((bv (bits .andNot .u32 s set)) ||| (bv (bits .and .u32 f set))):=Kf _ _
 rw[this,Ad2]
theorem Sd (s f set:Int)(i:Nat):(bv (D6 s f set)).getLsbD i=if(bv set).getLsbD i then(bv f).getLsbD i else(bv s).getLsbD i:=by
 rw[Wf,BitVec.getLsbD_or,BitVec.getLsbD_and,BitVec.getLsbD_and,BitVec.getLsbD_not];by_cases hi:i<32
 ·cases(bv set).getLsbD i<;>simp[hi]
 ·rw[BitVec.getLsbD_of_ge (bv s) i (by omega),BitVec.getLsbD_of_ge (bv f) i (by omega)];simp
def Qd (s t:Int)(set:Int)(f:Nat)(x:Int):Prop:=U32 x∧∀i,(bv x).getLsbD i=if i<f then(bv (D6 s t set)).getLsbD i else(bv s).getLsbD i
theorem Qd.start {s t set:Int}(h:U32 s):Qd s t set 0 s:=⟨h,fun i=>by rw[if_neg (by omega)]⟩
theorem Qd.done {s t set x:Int}(h:Qd s t set 24 x)(hs:∀i,24<=i->(bv set).getLsbD i=false):x=D6 s t set:=by
 rw[Aa5,←Ad3 h.1];congr 1;refine BitVec.eq_of_getLsbD_eq fun i hi=> ?_
 rw[h.2 i];by_cases h24:i<24
 ·rw[if_pos h24]
 ·rw[if_neg h24,Sd,hs i (by omega),if_neg (by decide)]
theorem Qd.put {s t set x:Int}{f:Nat}(h:Qd s t set f x)(hf:f<32){on:Bool}(hs:(bv set).getLsbD f=true)(ho:(bv t).getLsbD f=on):Qd s t set (f+1) (Aa2 x f on):=by
 refine⟨Aa4 _ _ _,fun i=> ?_⟩
 rw[Aa3 x f hf on i];by_cases h1:i=f
 ·subst h1;rw[if_pos rfl,if_pos (by omega),Sd,hs,if_pos rfl,ho]
 ·rw[if_neg h1,h.2 i];by_cases h2:i<f
  ·rw[if_pos h2,if_pos (by omega)]
  ·rw[if_neg h2,if_neg (by omega)]
theorem Qd.skip {s t set x:Int}{f:Nat}(h:Qd s t set f x)(hs:(bv set).getLsbD f=false):Qd s t set (f+1) x:=by
 refine⟨h.1,fun i=> ?_⟩
 rw[h.2 i];by_cases h1:i=f
 ·subst h1;rw[if_neg (by omega),if_pos (by omega),Sd,hs,if_neg (by decide)]
 ·by_cases h2:i<f
  ·rw[if_pos h2,if_pos (by omega)]
  ·rw[if_neg h2,if_neg (by omega)]
def Acu (s:Snd):Prop:=U32 s.1/\U32 s.2
def Cc (ws:List Snd):Prop:=∀s∈ws,Acu s
theorem Qe (p m:Int):Co p m=Br p m:=by rw[Bool.eq_iff_iff,Kx,Hz]
end Go.Proofs.YtlgliddhideflaaGreatDoor
