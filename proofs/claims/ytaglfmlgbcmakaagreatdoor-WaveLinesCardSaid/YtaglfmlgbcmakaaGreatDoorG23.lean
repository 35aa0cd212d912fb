/-
  ablautref01: Valid, Get, Satisfies.
  ablautref01: put, Change, Take.
  ablautref02: Valid, Check, Copy.
-/
import Derived.Test.YtaglfmlgbcmakaaGreatDoorG21
set_option linter.all false
set_option maxRecDepth 100000
set_option maxHeartbeats 4000000
namespace Go.Proofs.YtaglfmlgbcmakaaGreatDoor
open Go.RowKit Go.Shelf
def U32 (x:Int):Prop:=0<=x/\x<=4294967295
theorem U32.nat {x:Int}(h:U32 x):∃n:Nat,x=n/\n<4294967296:=⟨x.toNat,by have:=h.1;omega,by have:=h.2;omega⟩
theorem Ln (n:Nat)(h:n<4294967296):(bv (n:Int)).toNat=n:=by
 unfold bv;rw[BitVec.ofInt_natCast,BitVec.toNat_ofNat,Nat.mod_eq_of_lt (by omega)]
def toI (x:BitVec 32):Int:=(x.toNat:Int)
theorem Ac1 (x:BitVec 32):U32 (toI x):=⟨by unfold toI;omega,by have:=x.isLt;unfold toI;omega⟩
theorem Alu (x:BitVec 32):bv (toI x)=x:=G0 x
theorem Ahq {x:Int}(h:U32 x):toI (bv x)=x:=by
 obtain⟨n,rfl,hn⟩:=h.nat;unfold toI;rw[Ln n hn]
theorem Ac2 {x:Int}(h:U32 x)(f:Nat)(hf:f<32):(bits .and .u32 (x/2^f) 1==1)=(bv x).getLsbD f:=by
 obtain⟨n,rfl,hn⟩:=h.nat
 have e1:((n:Int)/2^f)=((n/2^f:Nat):Int):=by
  rw[Int.natCast_ediv];simp
 have hq:n/2^f<4294967296:=Nat.lt_of_le_of_lt (Nat.div_le_self _ _) hn;rw[e1,Mo,BitVec.toNat_and,Ln _ hq,show bv 1=1#32 from rfl,BitVec.toNat_ofNat,show 1%2^32=1 from rfl,Nat.and_one_is_mod,←BitVec.testBit_toNat,Ln n hn,Nat.testBit_eq_decide_div_mod_eq];generalize n/2^f=q;have h4:q%2=0\/q%2=1:=by omega
 rcases h4 with h4|h4<;>rw[h4]<;>rfl
def T3 (p m:Int)(i:Nat):Bool:= !((bv p).getLsbD i && (bv m).getLsbD i) && (decide (i<24)|| !((bv p).getLsbD i||(bv m).getLsbD i))
theorem Abk {p m:Int}(h:∀i,i<32->T3 p m i=true):B5 p m=true:=by
 rw[Hq];intro i;by_cases hi:i<32
 ·have h1:=h i hi;unfold T3 at h1
  revert h1
  cases(bv p).getLsbD i<;>cases(bv m).getLsbD i<;>simp<;>omega
 ·rw[BitVec.getLsbD_of_ge _ _ (by omega),BitVec.getLsbD_of_ge _ _ (by omega)];exact⟨rfl,fun _=>⟨rfl,rfl⟩⟩
theorem Ke {p m:Int}{i:Nat}(h:T3 p m i=false):B5 p m=false:=by
 cases hv:B5 p m
 ·rfl
 ·have h1:=(Hq p m).1 hv i;unfold T3 at h;obtain⟨h2,h3⟩:=h1;by_cases hi:i<24
  ·rw[h2,decide_eq_true hi]at h;simp at h
  ·obtain⟨h4,h5⟩:=h3 (by omega);rw[h4,h5]at h;simp at h
theorem Vd (p m:Int)(w:World)(hp:U32 p)(hm:U32 m):
  Calls Tryz.prog 159 #[Ed p m] w fun e w'=>e= .returned (.bool (B5 p m))/\Below w.heap.size w w':=by
 have HP:=hI hp;clear hp;have HM:=hI hm;clear hm;go_enter Tryz.func159,Tryz.ntmps159;go_wp2
 go_loop [3] (fun i=>∃f:Nat,f<=32/\i= .int .i64 f/\Hid (∀i,i<f->T3 p m i=true)) (fun i=>32-(intOf i).toNat)
 case atStart=>exact⟨0,by omega,rfl,fun i hi=>by omega⟩
 case round=>
  obtain⟨f,hf,rfl,a0⟩:=hrel;by_cases hlt:f<32
  ·have h1:=Ac2 HP.out f hlt;have h2:=Ac2 HM.out f hlt;have HK:Hid (T3 p m f=(!((bv p).getLsbD f && (bv m).getLsbD f) && (decide (f<24)|| !((bv p).getLsbD f||(bv m).getLsbD f)))):=rfl;generalize(bv p).getLsbD f=d1 at*;generalize(bv m).getLsbD f=d2 at*;by_cases h24:f<24
   ·cases d1
    ·cases d2
     ·have HG:Hid (∀i,i<f+1->T3 p m i=true):=by
       intro i hi;rcases Nat.lt_or_ge i f with h|h
       ·exact a0.out i h
       ·obtain rfl:i=f:=by omega
        rw[HK.out];simp[h24]
      go_wp2
      go_round
      case rel=>exact⟨f+1,by omega,by go_num,HG⟩
      case measure=>simp[intOf];omega
     ·have HG:Hid (∀i,i<f+1->T3 p m i=true):=by
       intro i hi;rcases Nat.lt_or_ge i f with h|h
       ·exact a0.out i h
       ·obtain rfl:i=f:=by omega
        rw[HK.out];simp[h24]
      go_wp2
      go_round
      case rel=>exact⟨f+1,by omega,by go_num,HG⟩
      case measure=>simp[intOf];omega
    ·cases d2
     ·have HG:Hid (∀i,i<f+1->T3 p m i=true):=by
       intro i hi;rcases Nat.lt_or_ge i f with h|h
       ·exact a0.out i h
       ·obtain rfl:i=f:=by omega
        rw[HK.out];simp[h24]
      go_wp2
      go_round
      case rel=>exact⟨f+1,by omega,by go_num,HG⟩
      case measure=>simp[intOf];omega
     ·have hf:=Ke (p:=p) (m:=m) (i:=f) (by rw[HK.out];simp[h24]);have HF:=hI hf;clear hf;go_wp2;go_ret;exact⟨by rw[HF.out];rfl,bel⟩
   ·cases d1
    ·cases d2
     ·have HG:Hid (∀i,i<f+1->T3 p m i=true):=by
       intro i hi;rcases Nat.lt_or_ge i f with h|h
       ·exact a0.out i h
       ·obtain rfl:i=f:=by omega
        rw[HK.out];simp[h24]
      go_wp2
      go_round
      case rel=>exact⟨f+1,by omega,by go_num,HG⟩
      case measure=>simp[intOf];omega
     ·have hf:=Ke (p:=p) (m:=m) (i:=f) (by rw[HK.out];simp[h24]);have HF:=hI hf;clear hf;go_wp2;go_ret;exact⟨by rw[HF.out];rfl,bel⟩
    ·cases d2
     ·have hf:=Ke (p:=p) (m:=m) (i:=f) (by rw[HK.out];simp[h24]);have HF:=hI hf;clear hf;go_wp2;go_ret;exact⟨by rw[HF.out];rfl,bel⟩
     ·have hf:=Ke (p:=p) (m:=m) (i:=f) (by rw[HK.out];simp[h24]);have HF:=hI hf;clear hf;go_wp2;go_ret;exact⟨by rw[HF.out];rfl,bel⟩
  ·obtain rfl:f=32:=by omega
   have hf:=Abk a0.out;have HF:=hI hf;clear hf;go_wp2;go_ret;exact⟨by rw[HF.out];rfl,bel⟩
def Ahs (p:Int)(f:Nat)(on:Bool):Int:=if on then bits .or .u32 (bits .andNot .u32 p (2^f%4294967296)) (2^f%4294967296)else bits .andNot .u32 p (2^f%4294967296)
theorem Alv (f:Nat)(hf:f<32)(i:Nat):(bv (2^f%4294967296)).getLsbD i=decide (i=f):=by
 have e:((2:Int)^f%4294967296)=((2^f:Nat):Int):=by
  have h1:2^f<=2^31:=Nat.pow_le_pow_right (by decide) (by omega);have h2:(2:Nat)^31=2147483648:=by decide
  have h3:((2:Int)^f)=((2^f:Nat):Int):=by simp
  rw[h3];generalize 2^f=q at*;omega
 rw[e,←BitVec.testBit_toNat,Ln _ (by
  have h1:2^f<=2^31:=Nat.pow_le_pow_right (by decide) (by omega);have h2:(2:Nat)^31=2147483648:=by decide
  omega),Nat.testBit_two_pow]
 exact decide_eq_decide.2 ⟨Eq.symm,Eq.symm⟩
theorem Aht (p:Int)(f:Nat)(hf:f<32)(on:Bool)(i:Nat):(bv (Ahs p f on)).getLsbD i=if i=f then on else(bv p).getLsbD i:=by
 unfold Ahs;have hb:=Alv f hf i;cases on
 ·rw[if_neg (by decide),F4,G0,BitVec.getLsbD_and,BitVec.getLsbD_not,hb];by_cases h:i=f
  ·simp[h]
  ·by_cases hi:i<32
   ·simp[h,hi]
   ·rw[BitVec.getLsbD_of_ge (bv p) i (by omega)];simp[h]
 ·rw[if_pos rfl,Lh,G0,F4,G0,BitVec.getLsbD_or,BitVec.getLsbD_and,BitVec.getLsbD_not,hb];by_cases h:i=f
  ·simp[h]
  ·by_cases hi:i<32
   ·simp[h,hi]
   ·rw[BitVec.getLsbD_of_ge (bv p) i (by omega)];simp[h]
theorem Ahu (p:Int)(f:Nat)(on:Bool):U32 (Ahs p f on):=by
 unfold Ahs;split
 ·rw[Lh];exact Ac1 _
 ·rw[F4];exact Ac1 _
theorem Ahv (s f set:Int):Ft s f set=toI (bv (Ft s f set)):=by
 have:Ft s f set=toI ((bv (bits .andNot .u32 s set)) ||| (bv (bits .and .u32 f set))):=Lh _ _
 rw[this,Alu]
theorem Wu (s f set:Int)(i:Nat):(bv (Ft s f set)).getLsbD i=if(bv set).getLsbD i then(bv f).getLsbD i else(bv s).getLsbD i:=by
 rw[Ab4,BitVec.getLsbD_or,BitVec.getLsbD_and,BitVec.getLsbD_and,BitVec.getLsbD_not];by_cases hi:i<32
 ·cases(bv set).getLsbD i<;>simp[hi]
 ·rw[BitVec.getLsbD_of_ge (bv s) i (by omega),BitVec.getLsbD_of_ge (bv f) i (by omega)];simp
def T7 (s t:Int)(set:Int)(f:Nat)(x:Int):Prop:=U32 x∧∀i,(bv x).getLsbD i=if i<f then(bv (Ft s t set)).getLsbD i else(bv s).getLsbD i
theorem T7.start {s t set:Int}(h:U32 s):T7 s t set 0 s:=⟨h,fun i=>by rw[if_neg (by omega)]⟩
theorem T7.done {s t set x:Int}(h:T7 s t set 24 x)(hs:∀i,24<=i->(bv set).getLsbD i=false):x=Ft s t set:=by
 rw[Ahv,←Ahq h.1];congr 1;refine BitVec.eq_of_getLsbD_eq fun i hi=> ?_
 rw[h.2 i];by_cases h24:i<24
 ·rw[if_pos h24]
 ·rw[if_neg h24,Wu,hs i (by omega),if_neg (by decide)]
theorem T7.put {s t set x:Int}{f:Nat}(h:T7 s t set f x)(hf:f<32){on:Bool}(hs:(bv set).getLsbD f=true)(ho:(bv t).getLsbD f=on):T7 s t set (f+1) (Ahs x f on):=by
 refine⟨Ahu _ _ _,fun i=> ?_⟩
 rw[Aht x f hf on i];by_cases h1:i=f
 ·subst h1;rw[if_pos rfl,if_pos (by omega),Wu,hs,if_pos rfl,ho]
 ·rw[if_neg h1,h.2 i];by_cases h2:i<f
  ·rw[if_pos h2,if_pos (by omega)]
  ·rw[if_neg h2,if_neg (by omega)]
theorem T7.skip {s t set x:Int}{f:Nat}(h:T7 s t set f x)(hs:(bv set).getLsbD f=false):T7 s t set (f+1) x:=by
 refine⟨h.1,fun i=> ?_⟩
 rw[h.2 i];by_cases h1:i=f
 ·subst h1;rw[if_neg (by omega),if_pos (by omega),Wu,hs,if_neg (by decide)]
 ·by_cases h2:i<f
  ·rw[if_pos h2,if_pos (by omega)]
  ·rw[if_neg h2,if_neg (by omega)]
def Amu (s:Snd):Prop:=U32 s.1/\U32 s.2
def Jw (ws:List Snd):Prop:=∀s∈ws,Amu s
theorem Ac3 {x:Int}(h:U32 x):(x<16777216)↔∀i,24<=i->(bv x).getLsbD i=false:=by
 rw[←Xf]
 have:=Ahq h
 unfold toI at this;omega
theorem Zc {p m:Int}(hp:U32 p)(hm:U32 m):Co p m=(bits .and .u32 p m==0 && (decide (p<16777216) && decide (m<16777216))):=by
 rw[Bool.eq_iff_iff,Mp,Bool.and_eq_true,Bool.and_eq_true,beq_iff_eq,decide_eq_true_eq,decide_eq_true_eq,Ac3 hp,Ac3 hm,Mo,Gf];simp only[BitVec.getLsbD_and];exact⟨fun h=>⟨fun i=>(h i).1,fun i hi=>((h i).2 hi).1,fun i hi=>((h i).2 hi).2⟩,fun h i=>⟨h.1 i,fun hi=>⟨h.2.1 i hi,h.2.2 i hi⟩⟩⟩
theorem F1 (p m:Int)(w:World)(hp:U32 p)(hm:U32 m):
  Calls Tryz.prog 124 #[Ed p m] w fun e w'=>e= .returned (.bool (Co p m))/\Below w.heap.size w w':=by
 have H:=hI (Zc hp hm);clear hp hm;obtain⟨d1,a2⟩:∃d1,(bits .and .u32 p m==0)=d1:=⟨_,rfl⟩;obtain⟨d2,a1⟩:∃d2,decide (p<16777216)=d2:=⟨_,rfl⟩;obtain⟨d3,a0⟩:∃d3,decide (m<16777216)=d3:=⟨_,rfl⟩;have H1:Hid (Co p m=(d1 && (d2 && d3))):=by show _=_;rw[H.out,a2,a1,a0]
 clear H;cases d1
 ·clear a1 a0;go_enter Tryz.func124,Tryz.ntmps124;go_wp2;go_ret;exact⟨by rw[H1.out];rfl,bel⟩
 ·cases d2
  ·clear a0;go_enter Tryz.func124,Tryz.ntmps124;go_wp2;go_ret;exact⟨by rw[H1.out];rfl,bel⟩
  ·go_enter Tryz.func124,Tryz.ntmps124;go_wp2;go_ret;exact⟨by rw[H1.out];rfl,bel⟩
end Go.Proofs.YtaglfmlgbcmakaaGreatDoor
