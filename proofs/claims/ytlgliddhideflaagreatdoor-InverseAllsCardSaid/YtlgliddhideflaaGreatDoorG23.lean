/-
  ablautref01: Valid, Get, Satisfies.
  ablautref01: put, Change, Take.
  ablautref02: Valid, Check, Copy.
-/
import Derived.Test.YtlgliddhideflaaGreatDoorG21
set_option linter.all false
set_option maxRecDepth 100000
set_option maxHeartbeats 4000000
namespace Go.Proofs.YtlgliddhideflaaGreatDoor
open Go.RowKit Go.Shelf
def U32 (x:Int):Prop:=0<=x/\x<=4294967295
theorem U32.nat {x:Int}(h:U32 x):∃n:Nat,x=n/\n<4294967296:=⟨x.toNat,by have:=h.1;omega,by have:=h.2;omega⟩
theorem Ng (n:Nat)(h:n<4294967296):(bv (n:Int)).toNat=n:=by
 unfold bv;rw[BitVec.ofInt_natCast,BitVec.toNat_ofNat,Nat.mod_eq_of_lt (by omega)]
def toI (x:BitVec 32):Int:=(x.toNat:Int)
theorem Ae9 (x:BitVec 32):U32 (toI x):=⟨by unfold toI;omega,by have:=x.isLt;unfold toI;omega⟩
theorem Ana (x:BitVec 32):bv (toI x)=x:=Fi x
theorem Sp {x:Int}(h:U32 x):toI (bv x)=x:=by
 obtain⟨n,rfl,hn⟩:=h.nat;unfold toI;rw[Ng n hn]
theorem Nh {x:Int}(h:U32 x)(f:Nat)(hf:f<32):(bits .and .u32 (x/2^f) 1==1)=(bv x).getLsbD f:=by
 obtain⟨n,rfl,hn⟩:=h.nat
 have e1:((n:Int)/2^f)=((n/2^f:Nat):Int):=by
  rw[Int.natCast_ediv];simp
 have hq:n/2^f<4294967296:=Nat.lt_of_le_of_lt (Nat.div_le_self _ _) hn;rw[e1,Le,BitVec.toNat_and,Ng _ hq,show bv 1=1#32 from rfl,BitVec.toNat_ofNat,show 1%2^32=1 from rfl,Nat.and_one_is_mod,←BitVec.testBit_toNat,Ng n hn,Nat.testBit_eq_decide_div_mod_eq];generalize n/2^f=q;have h4:q%2=0\/q%2=1:=by omega
 rcases h4 with h4|h4<;>rw[h4]<;>rfl
def Xl (p m:Int)(i:Nat):Bool:= !((bv p).getLsbD i && (bv m).getLsbD i) && (decide (i<24)|| !((bv p).getLsbD i||(bv m).getLsbD i))
theorem Adq {p m:Int}(h:∀i,i<32->Xl p m i=true):Br p m=true:=by
 rw[Di];intro i;by_cases hi:i<32
 ·have h1:=h i hi;unfold Xl at h1
  revert h1
  cases(bv p).getLsbD i<;>cases(bv m).getLsbD i<;>simp<;>omega
 ·rw[BitVec.getLsbD_of_ge _ _ (by omega),BitVec.getLsbD_of_ge _ _ (by omega)];exact⟨rfl,fun _=>⟨rfl,rfl⟩⟩
theorem Md {p m:Int}{i:Nat}(h:Xl p m i=false):Br p m=false:=by
 cases hv:Br p m
 ·rfl
 ·have h1:=(Di p m).1 hv i;unfold Xl at h;obtain⟨h2,h3⟩:=h1;by_cases hi:i<24
  ·rw[h2,decide_eq_true hi]at h;simp at h
  ·obtain⟨h4,h5⟩:=h3 (by omega);rw[h4,h5]at h;simp at h
theorem E6 (p m:Int)(w:World)(hp:U32 p)(hm:U32 m):
  Calls Tryz.prog 225 #[C6 p m] w fun e w'=>e= .returned (.bool (Br p m))/\Below w.heap.size w w':=by
 have HP:=hI hp;clear hp;have HM:=hI hm;clear hm;go_enter Tryz.func225,Tryz.ntmps225;go_wp2
 go_loop [3] (fun i=>∃f:Nat,f<=32/\i= .int .i64 f/\Hid (∀i,i<f->Xl p m i=true)) (fun i=>32-(intOf i).toNat)
 case atStart=>exact⟨0,by omega,rfl,fun i hi=>by omega⟩
 case round=>
  obtain⟨f,hf,rfl,a0⟩:=hrel;by_cases hlt:f<32
  ·have h1:=Nh HP.out f hlt;have h2:=Nh HM.out f hlt;have HK:Hid (Xl p m f=(!((bv p).getLsbD f && (bv m).getLsbD f) && (decide (f<24)|| !((bv p).getLsbD f||(bv m).getLsbD f)))):=rfl;generalize(bv p).getLsbD f=d1 at*;generalize(bv m).getLsbD f=d2 at*;by_cases h24:f<24
   ·cases d1
    ·cases d2
     ·have HG:Hid (∀i,i<f+1->Xl p m i=true):=by
       intro i hi;rcases Nat.lt_or_ge i f with h|h
       ·exact a0.out i h
       ·obtain rfl:i=f:=by omega
        rw[HK.out];simp[h24]
      go_wp2
      go_round
      case rel=>exact⟨f+1,by omega,by go_num,HG⟩
      case measure=>simp[intOf];omega
     ·have HG:Hid (∀i,i<f+1->Xl p m i=true):=by
       intro i hi;rcases Nat.lt_or_ge i f with h|h
       ·exact a0.out i h
       ·obtain rfl:i=f:=by omega
        rw[HK.out];simp[h24]
      go_wp2
      go_round
      case rel=>exact⟨f+1,by omega,by go_num,HG⟩
      case measure=>simp[intOf];omega
    ·cases d2
     ·have HG:Hid (∀i,i<f+1->Xl p m i=true):=by
       intro i hi;rcases Nat.lt_or_ge i f with h|h
       ·exact a0.out i h
       ·obtain rfl:i=f:=by omega
        rw[HK.out];simp[h24]
      go_wp2
      go_round
      case rel=>exact⟨f+1,by omega,by go_num,HG⟩
      case measure=>simp[intOf];omega
     ·have hf:=Md (p:=p) (m:=m) (i:=f) (by rw[HK.out];simp[h24]);have HF:=hI hf;clear hf;go_wp2;go_ret;exact⟨by rw[HF.out];rfl,bel⟩
   ·cases d1
    ·cases d2
     ·have HG:Hid (∀i,i<f+1->Xl p m i=true):=by
       intro i hi;rcases Nat.lt_or_ge i f with h|h
       ·exact a0.out i h
       ·obtain rfl:i=f:=by omega
        rw[HK.out];simp[h24]
      go_wp2
      go_round
      case rel=>exact⟨f+1,by omega,by go_num,HG⟩
      case measure=>simp[intOf];omega
     ·have hf:=Md (p:=p) (m:=m) (i:=f) (by rw[HK.out];simp[h24]);have HF:=hI hf;clear hf;go_wp2;go_ret;exact⟨by rw[HF.out];rfl,bel⟩
    ·cases d2
     ·have hf:=Md (p:=p) (m:=m) (i:=f) (by rw[HK.out];simp[h24]);have HF:=hI hf;clear hf;go_wp2;go_ret;exact⟨by rw[HF.out];rfl,bel⟩
     ·have hf:=Md (p:=p) (m:=m) (i:=f) (by rw[HK.out];simp[h24]);have HF:=hI hf;clear hf;go_wp2;go_ret;exact⟨by rw[HF.out];rfl,bel⟩
  ·obtain rfl:f=32:=by omega
   have hf:=Adq a0.out;have HF:=hI hf;clear hf;go_wp2;go_ret;exact⟨by rw[HF.out];rfl,bel⟩
def Ez (p m:Int)(f:Nat):Int:=if(bv p).getLsbD f then 1 else if(bv m).getLsbD f then-1 else 0
theorem Abn (f:Nat)(w:World)(hf:f<24):Calls Tryz.prog 293 #[.int .i64 f] w fun e w'=>e= .returned (.bool true)/\w'=w:=by
 have h1:decide ((0:Int)<=f)=true:=decide_eq_true (by omega);have h2:decide ((f:Int)<24)=true:=decide_eq_true (by omega);go_enter Tryz.func293,Tryz.ntmps293;go_wp2;go_ret;exact⟨rfl,rfl⟩
theorem Ni (p m:Int)(f:Nat)(w:World)(hp:U32 p)(hm:U32 m)(hv:Br p m=true)(hf:f<24):
  Calls Tryz.prog 276 #[C6 p m, .int .i64 f] w fun e w'=>e= .returned (.int .i64 (Ez p m f))/\Below w.heap.size w w':=by
 have h1:=Nh hp f (by omega);have h2:=Nh hm f (by omega);have HG:Hid (Ez p m f=if(bv p).getLsbD f then 1 else if(bv m).getLsbD f then-1 else 0):=rfl;have HP:=hI hp;clear hp;have HM:=hI hm;clear hm;have HV:=hI hv;clear hv;generalize(bv p).getLsbD f=d1 at*;generalize(bv m).getLsbD f=d2 at*;go_enter Tryz.func276,Tryz.ntmps276;go_wp2_with fail;refine(E6 p m _ HP.out HM.out).mono ?_;rintro e w1 ⟨rfl,a0⟩;rw[HV.out];have a2:=a0.size;simp only[World.size_alloc]at a2;have a3:=(a0.cell (p:=⟨w.heap.size,0,none⟩) (by simp)).trans (Cd (v:= .int .u32 p) rfl);have a4:=(a0.cell (p:=⟨w.heap.size,1,none⟩) (by simp)).trans (Cd (v:= .int .u32 m) rfl);have a1:Below w.heap.size w w1:=Below.step (by assumption) (by simp) bel;clear a0;go_wp2_with fail;refine(Abn f w1 hf).mono ?_;rintro e w2 ⟨rfl,rfl⟩;cases d1
 ·cases d2
  ·go_wp2;go_ret;exact⟨by rw[HG.out];rfl,a1⟩
  ·go_wp2;go_ret;exact⟨by rw[HG.out];rfl,a1⟩
 ·go_wp2;go_ret;exact⟨by rw[HG.out];rfl,a1⟩
theorem Alq {p m p' m':Int}(hv:Br p m=true)(hv':Br p' m'=true)(h:∀f,f<24->Ez p' m' f=0\/Ez p m f=Ez p' m' f):F8 p m p' m'=true:=by
 have o:=(Di p m).1 hv;have o':=(Di p' m').1 hv';unfold F8;rw[hv,hv',D0,D0]
 have h1:((bv p' &&& ~~~ bv p).toNat:Int)=0:=by
  rw[Ei];intro i;rw[BitVec.getLsbD_and,BitVec.getLsbD_not];by_cases hi:i<24
  ·have h2:=h i hi;unfold Ez at h2;cases hp':(bv p').getLsbD i
   ·rfl
   ·rw[hp',if_pos rfl]at h2;cases hp:(bv p).getLsbD i
    ·rw[hp,if_neg (by decide)]at h2;split at h2<;>omega
    ·simp
  ·rw[((o' i).2 (by omega)).1];rfl
 have h3:((bv m' &&& ~~~ bv m).toNat:Int)=0:=by
  rw[Ei];intro i;rw[BitVec.getLsbD_and,BitVec.getLsbD_not];by_cases hi:i<24
  ·have h2:=h i hi;unfold Ez at h2;cases hm':(bv m').getLsbD i
   ·rfl
   ·have h4:(bv p').getLsbD i=false:=by have:=(o' i).1;rw[hm']at this;simpa using this
    rw[h4,hm',if_neg (by decide),if_pos rfl]at h2;cases hm:(bv m).getLsbD i
    ·rw[hm]at h2;split at h2
     ·omega
     ·rw[if_neg (by decide)]at h2;omega
    ·simp
  ·rw[((o' i).2 (by omega)).2];rfl
 rw[h1,h3];rfl
theorem Alr {p m p' m':Int}{f:Nat}(hv:Br p m=true)(h0:Ez p' m' f≠0)(h1:Ez p m f≠Ez p' m' f):F8 p m p' m'=false:=by
 have o:=(Di p m).1 hv;cases hs:F8 p m p' m'
 ·rfl
 ·unfold F8 at hs;rw[D0,D0]at hs;simp only[Bool.and_eq_true,beq_iff_eq]at hs;obtain⟨⟨_,h2⟩,h3⟩:=hs;rw[Ei]at h2 h3;have a:=h2 f;have b:=h3 f;rw[BitVec.getLsbD_and,BitVec.getLsbD_not]at a b;have c:=(o f).1;by_cases hf:f<32
  ·unfold Ez at h0 h1
   revert a b c h0 h1
   cases(bv p).getLsbD f<;>cases(bv m).getLsbD f<;>cases(bv p').getLsbD f<;>cases(bv m').getLsbD f<;>simp[hf]
  ·unfold Ez at h0;rw[BitVec.getLsbD_of_ge _ _ (by omega),BitVec.getLsbD_of_ge _ _ (by omega)]at h0;simp at h0
theorem Als (p m p' m':Int)(w:World)(hp:U32 p)(hm:U32 m)(hp':U32 p')(hm':U32 m'):
  Calls Tryz.prog 255 #[C6 p m,C6 p' m'] w fun e w'=>e= .returned (.bool (F8 p m p' m'))/\Below w.heap.size w w':=by
 have HP:=hI hp;clear hp;have HM:=hI hm;clear hm;have d0:=hI hp';clear hp';have b9:=hI hm';clear hm';go_enter Tryz.func255,Tryz.ntmps255;go_wp2_with fail;refine(E6 p m _ HP.out HM.out).mono ?_;rintro e w1 ⟨rfl,a6⟩;have f1:=a6.size;simp only[World.size_alloc]at f1;have a4:=(a6.cell (p:=⟨w.heap.size,0,none⟩) (by simp;omega)).trans (show _=some (.int .u32 p)by rw[Bn (by simp)];exact Cd rfl);have a5:=(a6.cell (p:=⟨w.heap.size,1,none⟩) (by simp;omega)).trans (show _=some (.int .u32 m)by rw[Bn (by simp)];exact Cd rfl);have b2:=(a6.cell (p:=⟨w.heap.size+1,0,none⟩) (by simp)).trans (show _=some (.int .u32 p')by rw[show w.heap.size+1=(w.alloc (.cells #[.int .u32 p, .int .u32 m] 24)).heap.size by simp];exact Cd rfl);have b3:=(a6.cell (p:=⟨w.heap.size+1,1,none⟩) (by simp)).trans (show _=some (.int .u32 m')by rw[show w.heap.size+1=(w.alloc (.cells #[.int .u32 p, .int .u32 m] 24)).heap.size by simp];exact Cd rfl);have b6:Below w.heap.size w w1:=Below.step (by assumption) (by simp;omega) bel;clear a6;obtain⟨v1,b0⟩:∃v1,v1=Br p m:=⟨_,rfl⟩;rw[←b0];cases v1
 ·have hf:F8 p m p' m'=false:=by unfold F8;rw[←b0];rfl
  have HF:=hI hf;clear hf b0;go_wp2;go_ret;exact⟨by rw[HF.out];rfl,b6⟩
 have b5:=hI b0;clear b0;go_wp2_with fail;refine(E6 p' m' _ d0.out b9.out).mono ?_;rintro e w2 ⟨rfl,a3⟩;have f4:=a3.size;have a0:=(a3.cell (p:=⟨w.heap.size,0,none⟩) (by show w.heap.size<_;omega)).trans a4;have a1:=(a3.cell (p:=⟨w.heap.size,1,none⟩) (by show w.heap.size<_;omega)).trans a5;have a9:=(a3.cell (p:=⟨w.heap.size+1,0,none⟩) (by show w.heap.size+1<_;omega)).trans b2;have a7:=(a3.cell (p:=⟨w.heap.size+1,1,none⟩) (by show w.heap.size+1<_;omega)).trans b3;have a8:=b6.trans (a3.mono b6.size);clear a3 a4 a5 b2 b3;obtain⟨v2,b1⟩:∃v2,v2=Br p' m':=⟨_,rfl⟩;rw[←b1];cases v2
 ·have hf:F8 p m p' m'=false:=by unfold F8;rw[←b1,←b5.out];rfl
  have HF:=hI hf;clear hf b1;go_wp2;go_ret;exact⟨by rw[HF.out];rfl,a8⟩
 have d2:=hI b1;clear b1;have d9:=hI a0;have d4:=hI a1;have f0:=hI a9;have d7:=hI a7;clear a0 a1 a9 a7;go_wp2
 go_loopw [5] (fun i wr=>∃f:Nat,f<=24/\i= .int .i64 f/\Hid (∀j,j<f->Ez p' m' j=0\/Ez p m j=Ez p' m' j)/\Below w2.heap.size w2 wr) (fun i _=>24-(intOf i).toNat)
 case atStart=>exact⟨0,by omega,rfl,fun i hi=>by omega,Below.refl _ _⟩
 case round=>
  obtain⟨f,hf,rfl,a2,hB⟩:=hrel;have d5:=hB.size;have a4:=(hB.cell (p:=⟨w.heap.size,0,none⟩) (by show w.heap.size<_;omega)).trans d9.out;have a5:=(hB.cell (p:=⟨w.heap.size,1,none⟩) (by show w.heap.size<_;omega)).trans d4.out;have b2:=(hB.cell (p:=⟨w.heap.size+1,0,none⟩) (by show w.heap.size+1<_;omega)).trans f0.out;have b3:=(hB.cell (p:=⟨w.heap.size+1,1,none⟩) (by show w.heap.size+1<_;omega)).trans d7.out;by_cases hlt:f<24
  ·have d6:(f:Int)<24:=by omega
   go_wp2_with fail;refine(Ni p' m' f wr d0.out b9.out d2.out.symm hlt).mono ?_;rintro e w3 ⟨rfl,b4⟩;have f2:=b4.size;have a0:=(b4.cell (p:=⟨w.heap.size,0,none⟩) (by show w.heap.size<_;omega)).trans a4;have a1:=(b4.cell (p:=⟨w.heap.size,1,none⟩) (by show w.heap.size<_;omega)).trans a5;have b7:=hB.trans (b4.mono d5);clear b4 a4 a5 b2 b3;obtain⟨g,hg⟩:∃g,g=Ez p' m' f:=⟨_,rfl⟩;rw[←hg];by_cases h0:g=0
   ·have HG:Hid (∀j,j<f+1->Ez p' m' j=0\/Ez p m j=Ez p' m' j):=by
     intro j hj;rcases Nat.lt_or_ge j f with h|h
     ·exact a2.out j h
     ·obtain rfl:j=f:=by omega
      exact .inl (hg.symm.trans h0)
    clear hg;subst h0;go_wp2
    go_roundw
    case rel=>exact⟨f+1,by omega,by go_num,HG,b7⟩
    case measure=>simp[intOf];omega
   ·have f3:(g !=0)=true:=by simpa using h0
    have d8:=hI h0;clear h0;have b8:=hI hg;clear hg;go_wp2_with fail;refine(Ni p m f w3 HP.out HM.out b5.out.symm hlt).mono ?_;rintro e w4 ⟨rfl,d1⟩;have d3:=b7.trans (d1.mono b7.size);clear d1 a0 a1;obtain⟨k,hk⟩:∃k,k=Ez p m f:=⟨_,rfl⟩;rw[←hk];by_cases h1:k=g
    ·have HG:Hid (∀j,j<f+1->Ez p' m' j=0\/Ez p m j=Ez p' m' j):=by
      intro j hj;rcases Nat.lt_or_ge j f with h|h
      ·exact a2.out j h
      ·obtain rfl:j=f:=by omega
       exact .inr (hk.symm.trans (h1.trans b8.out))
     clear hk;subst h1;have h2:(k !=k)=false:=by simp
     go_wp2
     go_roundw
     case rel=>exact⟨f+1,by omega,by go_num,HG,d3⟩
     case measure=>simp[intOf];omega
    ·have hf:F8 p m p' m'=false:=Alr (f:=f) b5.out.symm (by rw[←b8.out];exact d8.out) (by rw[←hk,←b8.out];exact h1);have HF:=hI hf;clear hf hk;have h2:(k !=g)=true:=by simpa using h1
     clear h1;go_wp2;go_ret;exact⟨by rw[HF.out];rfl,a8.trans (d3.mono a8.size)⟩
  ·obtain rfl:f=24:=by omega
   have hf:=Alq b5.out.symm d2.out.symm a2.out;have HF:=hI hf;clear hf a4 a5 b2 b3;go_wp2;go_ret;exact⟨by rw[HF.out];rfl,a8.trans (hB.mono a8.size)⟩
def Kd (p:Int)(f:Nat)(on:Bool):Int:=if on then bits .or .u32 (bits .andNot .u32 p (2^f%4294967296)) (2^f%4294967296)else bits .andNot .u32 p (2^f%4294967296)
theorem Zs (p m:Int)(f:Nat)(v:Int)(w:World)(hf:f<24):
  Calls Tryz.prog 279 #[C6 p m, .int .i64 f, .int .i64 v] w fun e w'=>e= .returned (C6 (Kd p f (v==1)) (Kd m f (v== -1)))/\Below w.heap.size w w':=by
 by_cases h1:v=1
 ·subst h1;go_enter Tryz.func279,Tryz.ntmps279;go_wp2;exact bodyPost_ret (v:=C6 (Kd p f true) (Kd m f false)) (by simp[results,Tryz.results279,go_sem,Kd]) rfl ⟨rfl,bel⟩
 ·by_cases h2:v= -1
  ·subst h2;go_enter Tryz.func279,Tryz.ntmps279;go_wp2;exact bodyPost_ret (v:=C6 (Kd p f false) (Kd m f true)) (by simp[results,Tryz.results279,go_sem,Kd]) rfl ⟨rfl,bel⟩
  ·have a0:(v==1)=false:=by simpa using h1
   have a1:(v== -1)=false:=by simpa using h2
   rw[a0,a1];clear h1 h2;go_enter Tryz.func279,Tryz.ntmps279;go_wp2;exact bodyPost_ret (v:=C6 (Kd p f false) (Kd m f false)) (by simp[results,Tryz.results279,go_sem,Kd]) rfl ⟨rfl,bel⟩
theorem Anb (f:Nat)(hf:f<32)(i:Nat):(bv (2^f%4294967296)).getLsbD i=decide (i=f):=by
 have e:((2:Int)^f%4294967296)=((2^f:Nat):Int):=by
  have h1:2^f<=2^31:=Nat.pow_le_pow_right (by decide) (by omega);have h2:(2:Nat)^31=2147483648:=by decide
  have h3:((2:Int)^f)=((2^f:Nat):Int):=by simp
  rw[h3];generalize 2^f=q at*;omega
 rw[e,←BitVec.testBit_toNat,Ng _ (by
  have h1:2^f<=2^31:=Nat.pow_le_pow_right (by decide) (by omega);have h2:(2:Nat)^31=2147483648:=by decide
  omega),Nat.testBit_two_pow]
 exact decide_eq_decide.2 ⟨Eq.symm,Eq.symm⟩
theorem Ajm (p:Int)(f:Nat)(hf:f<32)(on:Bool)(i:Nat):(bv (Kd p f on)).getLsbD i=if i=f then on else(bv p).getLsbD i:=by
 unfold Kd;have hb:=Anb f hf i;cases on
 ·rw[if_neg (by decide),D0,Fi,BitVec.getLsbD_and,BitVec.getLsbD_not,hb];by_cases h:i=f
  ·simp[h]
  ·by_cases hi:i<32
   ·simp[h,hi]
   ·rw[BitVec.getLsbD_of_ge (bv p) i (by omega)];simp[h]
 ·rw[if_pos rfl,Jl,Fi,D0,Fi,BitVec.getLsbD_or,BitVec.getLsbD_and,BitVec.getLsbD_not,hb];by_cases h:i=f
  ·simp[h]
  ·by_cases hi:i<32
   ·simp[h,hi]
   ·rw[BitVec.getLsbD_of_ge (bv p) i (by omega)];simp[h]
theorem Ajn (p:Int)(f:Nat)(on:Bool):U32 (Kd p f on):=by
 unfold Kd;split
 ·rw[Jl];exact Ae9 _
 ·rw[D0];exact Ae9 _
theorem Ajo (s f set:Int):E8 s f set=toI (bv (E8 s f set)):=by
 have:E8 s f set=toI ((bv (bits .andNot .u32 s set)) ||| (bv (bits .and .u32 f set))):=Jl _ _
 rw[this,Ana]
theorem Zt (s f set:Int)(i:Nat):(bv (E8 s f set)).getLsbD i=if(bv set).getLsbD i then(bv f).getLsbD i else(bv s).getLsbD i:=by
 rw[Aeq,BitVec.getLsbD_or,BitVec.getLsbD_and,BitVec.getLsbD_and,BitVec.getLsbD_not];by_cases hi:i<32
 ·cases(bv set).getLsbD i<;>simp[hi]
 ·rw[BitVec.getLsbD_of_ge (bv s) i (by omega),BitVec.getLsbD_of_ge (bv f) i (by omega)];simp
def Mr (s t:Int)(set:Int)(f:Nat)(x:Int):Prop:=U32 x∧∀i,(bv x).getLsbD i=if i<f then(bv (E8 s t set)).getLsbD i else(bv s).getLsbD i
theorem Mr.start {s t set:Int}(h:U32 s):Mr s t set 0 s:=⟨h,fun i=>by rw[if_neg (by omega)]⟩
theorem Mr.done {s t set x:Int}(h:Mr s t set 24 x)(hs:∀i,24<=i->(bv set).getLsbD i=false):x=E8 s t set:=by
 rw[Ajo,←Sp h.1];congr 1;refine BitVec.eq_of_getLsbD_eq fun i hi=> ?_
 rw[h.2 i];by_cases h24:i<24
 ·rw[if_pos h24]
 ·rw[if_neg h24,Zt,hs i (by omega),if_neg (by decide)]
theorem Mr.put {s t set x:Int}{f:Nat}(h:Mr s t set f x)(hf:f<32){on:Bool}(hs:(bv set).getLsbD f=true)(ho:(bv t).getLsbD f=on):Mr s t set (f+1) (Kd x f on):=by
 refine⟨Ajn _ _ _,fun i=> ?_⟩
 rw[Ajm x f hf on i];by_cases h1:i=f
 ·subst h1;rw[if_pos rfl,if_pos (by omega),Zt,hs,if_pos rfl,ho]
 ·rw[if_neg h1,h.2 i];by_cases h2:i<f
  ·rw[if_pos h2,if_pos (by omega)]
  ·rw[if_neg h2,if_neg (by omega)]
theorem Mr.skip {s t set x:Int}{f:Nat}(h:Mr s t set f x)(hs:(bv set).getLsbD f=false):Mr s t set (f+1) x:=by
 refine⟨h.1,fun i=> ?_⟩
 rw[h.2 i];by_cases h1:i=f
 ·subst h1;rw[if_neg (by omega),if_pos (by omega),Zt,hs,if_neg (by decide)]
 ·by_cases h2:i<f
  ·rw[if_pos h2,if_pos (by omega)]
  ·rw[if_neg h2,if_neg (by omega)]
theorem Abx {p m:Int}{f:Nat}:(Ez p m f==1)=(bv p).getLsbD f:=by
 unfold Ez;cases(bv p).getLsbD f<;>cases(bv m).getLsbD f<;>rfl
theorem Yl {p m:Int}{f:Nat}(hv:Br p m=true):(Ez p m f== -1)=(bv m).getLsbD f:=by
 have o:=((Di p m).1 hv f).1
 revert o
 unfold Ez;cases(bv p).getLsbD f<;>cases(bv m).getLsbD f<;>simp
theorem Wc {p m:Int}{f:Nat}:(Ez p m f=0)↔(bv p).getLsbD f=false/\(bv m).getLsbD f=false:=by
 unfold Ez;cases(bv p).getLsbD f<;>cases(bv m).getLsbD f<;>simp
theorem Aby:(Tryz.prog.info? 24).map (·.size)=some 2:=by kernel_rfl
theorem Zu {w:World}{b:Nat}{x y:Int}{t:TypeId}{fr:Nat×Nat}(h:w.heap[b]? =some (.cells #[.int .u32 x, .int .u32 y] t fr)):(loadVar 24 ⟨b,0,none⟩).run Tryz.prog w= .ok (C6 x y) w:=
 run_loadVar_row w b t 24 #[.int .u32 x, .int .u32 y] fr _ h Tryz.underlying24 rfl Aby
theorem Mh {o:Oper}{a:Act}{w:World}{K:Act->World->Prop}{Q:Exit->Act->World->Prop}(x y:Operand)(ho:o.op= .store 24 x y)
  (b:Nat) (p m:Int) (hx:a.eval x= .pointer (some ⟨b,0,none⟩)) (hy:a.eval y=C6 p m) {p0 m0:Value} {t:TypeId} (hr:w.heap[b]? =some (.cells #[p0,m0] t (0,0)))
  (h:∀W,W.heap[b]? =some (.cells #[.int .u32 p, .int .u32 m] t (0,0))->Aj (fun k=>k=b) w W->W.heap.size=w.heap.size->K (a.put o.dst undef) W):o.wp Tryz.prog a w K Q:=
 wp_store_row 24 x y ho b #[.int .u32 p, .int .u32 m] hx hy t _ hr Aby rfl (by simp[Value.oneCell'])
  (h _ (setRow_heap w b _ _ t _ hr) ⟨rfl,rfl,rfl,by simp[World.setRow],fun k _ hk=>setRow_other w b k _ hk⟩ (by simp[World.setRow]))
theorem Hr {ops:Array Oper}{rest:List Oper}{o:Oper}{a:Act}{w:World}{Q:Exit->Act->World->Prop}(hgd:o.guard=none)(x y:Operand)(ho:o.op= .store 24 x y)
  (b:Nat) (p m:Int) (hx:a.eval x= .pointer (some ⟨b,0,none⟩)) (hy:a.eval y=C6 p m) {p0 m0:Value} {t:TypeId} (hr:w.heap[b]? =some (.cells #[p0,m0] t (0,0)))
  (h:∀W,W.heap[b]? =some (.cells #[.int .u32 p, .int .u32 m] t (0,0))->Aj (fun k=>k=b) w W->W.heap.size=w.heap.size->wpList Tryz.prog ops Q rest (a.put o.dst undef) W):wpList Tryz.prog ops Q (o::rest) a w:=
 wpList_plain hgd fun _ hK=>Mh x y ho b p m hx hy hr fun W h1 h2 h3=>hK _ _ (h W h1 h2 h3)
theorem Mp {fn:Func}{p q:Tmp}(h:fn.results= #[.cell p 24, .tmp q])(tmps:Array Value)(w:World)(b:Nat)(x y:Int)(v:Value){t:TypeId}{fr:Nat×Nat}(hp:tmps.getD p undef= .pointer (some ⟨b,0,none⟩))(hq:tmps.getD q undef=v)(hr:w.heap[b]? =some (.cells #[.int .u32 x, .int .u32 y] t fr)):
  (results fn tmps).run Tryz.prog w= .ok (.tuple #[C6 x y,v]) w:=by
 have a1:tmps[p]?.getD undef= .pointer (some ⟨b,0,none⟩):=by simpa using hp
 have a0:tmps[q]?.getD undef=v:=by simpa using hq
 have hl:=Zu hr;simp[results,h,a1,a0,asAddr,hl]
theorem Ajp (p m p' m' mask:Int)(w:World)(hp:U32 p)(hm:U32 m)(hp':U32 p')(hm':U32 m')(hk:U32 mask)(h1:Br p m=true)(h2:Br p' m'=true)(h3:mask<=16777215):
  Calls Tryz.prog 259 #[C6 p m,C6 p' m', .int .u32 mask] w (Zj w (Gq (p,m) (p',m') mask)):=by
 have b8:decide (16777215<mask)=false:=by simpa using h3
 have HR:Hid (Gq (p,m) (p',m') mask=(E8 p p' mask,E8 m m' mask)):=by show _=_;unfold Gq;simp[h1,h2,h3]
 have a8:Hid (∀i,24<=i->(bv mask).getLsbD i=false):=by
  refine(Rm (bv mask)).1 ?_
  have:=Sp hk
  unfold toI at this;omega
 have HP:=hI hp;clear hp;have HM:=hI hm;clear hm;have d5:=hI hp';clear hp';have b9:=hI hm';clear hm';have HK:=hI hk;clear hk;have H1:=hI h1;clear h1;have H2:=hI h2;clear h2;clear h3;go_enter Tryz.func259,Tryz.ntmps259;go_wp2_with fail;have k0:(((w.alloc (.cells #[.int .u32 p, .int .u32 m] 24)).alloc (.cells #[.int .u32 p', .int .u32 m'] 24)).alloc (.cells #[.int .u32 0, .int .u32 0] 24)).heap[w.heap.size]? =some (.cells #[.int .u32 p, .int .u32 m] 24 (0,0)):=hpt;have k1:(((w.alloc (.cells #[.int .u32 p, .int .u32 m] 24)).alloc (.cells #[.int .u32 p', .int .u32 m'] 24)).alloc (.cells #[.int .u32 0, .int .u32 0] 24)).heap[w.heap.size+1]? =some (.cells #[.int .u32 p', .int .u32 m'] 24 (0,0)):=hpt;have k2:(((w.alloc (.cells #[.int .u32 p, .int .u32 m] 24)).alloc (.cells #[.int .u32 p', .int .u32 m'] 24)).alloc (.cells #[.int .u32 0, .int .u32 0] 24)).heap[w.heap.size+1+1]? =some (.cells #[.int .u32 0, .int .u32 0] 24 (0,0)):=hpt;have kB:Below w.heap.size w (((w.alloc (.cells #[.int .u32 p, .int .u32 m] 24)).alloc (.cells #[.int .u32 p', .int .u32 m'] 24)).alloc (.cells #[.int .u32 0, .int .u32 0] 24)):=bel;generalize(((w.alloc (.cells #[.int .u32 p, .int .u32 m] 24)).alloc (.cells #[.int .u32 p', .int .u32 m'] 24)).alloc (.cells #[.int .u32 0, .int .u32 0] 24))=V0 at*;refine(E6 p m _ HP.out HM.out).mono ?_;rintro e w1 ⟨rfl,b4⟩;rw[H1.out];have k0':=(b4.block _ (lt_of_block k0)).trans k0;have k1':=(b4.block _ (lt_of_block k1)).trans k1;have k2':=(b4.block _ (lt_of_block k2)).trans k2;have kB':=kB.trans (b4.mono kB.size);have d0:=Ab (j:=0) (v:= .int .u32 p') k1' rfl;have d1:=Ab (j:=1) (v:= .int .u32 m') k1' rfl;clear b4 k0 k1 k2 kB;have K0:=hI k0';have K1:=hI k1';have K2:=hI k2';have KB:=hI kB';clear k0' k1' k2' kB';go_wp2_with fail;refine(E6 p' m' _ d5.out b9.out).mono ?_;rintro e w2 ⟨rfl,a9⟩;rw[H2.out];have k0':=(a9.block _ (lt_of_block K0.out)).trans K0.out;have k1':=(a9.block _ (lt_of_block K1.out)).trans K1.out;have k2':=(a9.block _ (lt_of_block K2.out)).trans K2.out;have kB':=KB.out.trans (a9.mono KB.out.size);have c0:=Ab (j:=0) (v:= .int .u32 p) k0' rfl;have c1:=Ab (j:=1) (v:= .int .u32 m) k0' rfl;clear a9 d0 d1;have K0:=hI k0';have K1:=hI k1';have K2:=hI k2';have KB:=hI kB';have l1:=lt_of_block k1';have l2:=lt_of_block k2';clear k0' k1' k2' kB';go_wp2;have k3:(w2.alloc (.cells #[.int .u32 p, .int .u32 m] 24)).heap[w2.heap.size]? =some (.cells #[.int .u32 p, .int .u32 m] 24 (0,0)):=Ak rfl;have b7:Below w2.heap.size w2 (w2.alloc (.cells #[.int .u32 p, .int .u32 m] 24)):=bel;have k1':=(b7.block _ (lt_of_block K1.out)).trans K1.out;have k2':=(b7.block _ (lt_of_block K2.out)).trans K2.out;have kB':=KB.out.trans (b7.mono KB.out.size);have hsz:=KB.out.size;generalize(w2.alloc (.cells #[.int .u32 p, .int .u32 m] 24))=V3 at*;obtain⟨b3,d2⟩:∃b3,b3=w2.heap.size:=⟨_,rfl⟩;rw[←d2]at k3 ⊢;have lb3:w.heap.size+1+1<b3:=by omega
 clear d2 b7 c0 c1;have L3:=lt_of_block k3;have K3:=hI k3;clear k3;have K1:=hI k1';have K2:=hI k2';have KB:=hI kB';clear k1' k2' kB' K0
 go_loopw [9] (fun i wr=>∃(f:Nat) (x y:Int),f<=24/\i= .int .i64 f/\Hid (wr.heap[b3]? =some (.cells #[.int .u32 x, .int .u32 y] 24 (0,0)))/\Hid (Mr p p' mask f x)/\Hid (Mr m m' mask f y)/\Hid (Aj (fun k=>k=b3) V3 wr)) (fun i _=>24-(intOf i).toNat)
 case atStart=>exact⟨0,p,m,by omega,rfl,K3.out,Mr.start HP.out,Mr.start HM.out,Aj.refl _ _⟩
 case round=>
  obtain⟨f,x,y,hf,rfl,h3,hx,hy,hK⟩:=hrel;by_cases hlt:f<24
  ·have f2:(f:Int)<24:=by omega
   have d8:=Nh HK.out f (by omega);obtain⟨d,hd⟩:∃d,d=(bv mask).getLsbD f:=⟨_,rfl⟩;rw[←hd]at d8;cases d
   ·have a2:=hx.out.skip hd.symm;have a3:=hy.out.skip hd.symm;have b0:=hI a2;have b2:=hI a3;clear a2 a3 hd;go_wp2
    go_roundw
    case rel=>exact⟨f+1,x,y,by omega,by go_num,h3,b0,b2,hK⟩
    case measure=>simp[intOf];omega
   ·have b6:=(hK.out.block _ (lt_of_block K1.out) (by omega)).trans K1.out;have a0:=Ab (j:=0) (v:= .int .u32 p') b6 rfl;have a1:=Ab (j:=1) (v:= .int .u32 m') b6 rfl;have e0:=Ab (j:=0) (v:= .int .u32 x) h3.out rfl;have e1:=Ab (j:=1) (v:= .int .u32 y) h3.out rfl;have l3:=lt_of_block h3.out;have a2:=hx.out.put (by omega) hd.symm Abx.symm (f:=f) (t:=p') (on:=Ez p' m' f==1);have a3:=hy.out.put (by omega) hd.symm (Yl H2.out).symm (f:=f) (t:=m') (on:=Ez p' m' f== -1);have b0:=hI a2;have b2:=hI a3;have L1:=lt_of_block b6;have f0:=h3;clear a2 a3 hd b6 hx hy h3;go_wp2;refine Bj (fun W'=>W'.cell? ⟨b3,0,none⟩=some (.int .u32 x)/\W'.cell? ⟨b3,1,none⟩=some (.int .u32 y)/\W'.cell? ⟨w.heap.size+1,0,none⟩=some (.int .u32 p')/\W'.cell? ⟨w.heap.size+1,1,none⟩=some (.int .u32 m')) (by kernel_rfl) ⟨e0,e1,a0,a1⟩ (fun hHeld=> ?_)
    (refine' Aa 0 rfl ?_;(try simp only[Act.put,nY,nX]));(refine' Aa 1 rfl ?_;(try simp only[Act.put,nY,nX]));(refine' Aa 2 rfl ?_;(try simp only[Act.put,nY,nX]));(refine' Aa 3 rfl ?_;(try simp only[Act.put,nY,nX]))
    (refine Aqq 4 rfl (fun K' hK'=> ?_);simp only[nY];go_simp)
    refine(Ni p' m' f _ d5.out b9.out H2.out hlt).mono ?_;rintro e w4 ⟨rfl,b1⟩;have a5:Below wr.heap.size wr w4:=(Below.refl wr.heap.size wr).drew.trans b1
    have a7:w4.cell? ⟨b3,0,none⟩=some (.int .u32 x)/\w4.cell? ⟨b3,1,none⟩=some (.int .u32 y)/\w4.cell? ⟨w.heap.size+1,0,none⟩=some (.int .u32 p')/\w4.cell? ⟨w.heap.size+1,1,none⟩=some (.int .u32 m'):=
     ⟨(a5.cell (p:=⟨b3,0,none⟩) l3).trans e0,(a5.cell (p:=⟨b3,1,none⟩) l3).trans e1,(a5.cell (p:=⟨w.heap.size+1,0,none⟩) L1).trans a0,(a5.cell (p:=⟨w.heap.size+1,1,none⟩) L1).trans a1⟩
    refine hK' _ _ ⟨.inr a7,fun _=> ?_⟩
    clear hK' K' b1 hHeld e0 e1 a0 a1
    (try simp only[Act.put,nY,nX])
    (refine Aqq 5 rfl (fun K' hK'=> ?_);simp only[nY];go_simp)
    refine(Zs x y f _ w4 hlt).mono ?_;rintro e w5 ⟨rfl,a4⟩;have d7:=a5.size;have f1:=a4.size;have a6:Below wr.heap.size wr w5:=a5.trans (a4.mono d7)
    have d4:w5.cell? ⟨b3,0,none⟩=some (.int .u32 x)/\w5.cell? ⟨b3,1,none⟩=some (.int .u32 y)/\w5.cell? ⟨w.heap.size+1,0,none⟩=some (.int .u32 p')/\w5.cell? ⟨w.heap.size+1,1,none⟩=some (.int .u32 m'):=
     ⟨(a4.cell (p:=⟨b3,0,none⟩) (by show b3<_;omega)).trans a7.1,(a4.cell (p:=⟨b3,1,none⟩) (by show b3<_;omega)).trans a7.2.1,(a4.cell (p:=⟨w.heap.size+1,0,none⟩) (by show w.heap.size+1<_;omega)).trans a7.2.2.1,(a4.cell (p:=⟨w.heap.size+1,1,none⟩) (by show w.heap.size+1<_;omega)).trans a7.2.2.2⟩
    refine hK' _ _ ⟨.inr d4,fun _=> ?_⟩
    clear hK' K' a7 a5 a4 d7 f1;have b8:=(a6.block b3 l3).trans f0.out;have d3:Aj (fun k=>k=b3) V3 w5:=hK.out.below a6 rr
    (try simp only[Act.put,nY,nX])
    refine Aqq 6 rfl (fun K' hK'=> ?_);rw[if_pos (by rfl)];refine Mh (.tmp 8) (.tmp 37) (by rfl) b3 (Kd x f (Ez p' m' f==1)) (Kd y f (Ez p' m' f== -1)) (by rfl) (by rfl) b8 ?_;intro W6 h6 b5 d6;have f3:=d3.trans b5;refine hK' _ _ ⟨.inl (by kernel_rfl),fun _=>Be (by kernel_rfl) ?_ _⟩
    clear hK' K' d4 d6 b5 d3 a6 b8;have H6:=hI h6;clear h6;go_wp2
    go_roundw
    case rel=>exact⟨f+1,_,_,by omega,by go_num,H6.out,b0,b2,f3⟩
    case measure=>simp[intOf];omega
  ·obtain rfl:f=24:=by omega
   have a2:=hx.out.done a8.out;have a3:=hy.out.done a8.out;have f4:=(hK.out.block _ (lt_of_block K2.out) (by omega)).trans K2.out;have e0:=Ab (j:=0) (v:= .int .u32 x) h3.out rfl;have e1:=Ab (j:=1) (v:= .int .u32 y) h3.out rfl;have b0:=hI a2;have b2:=hI a3;clear a2 a3 hx hy;go_wp2_with(refine Hr rfl (.tmp 6) (.tmp 38) rfl (w.heap.size+1+1) x y rfl rfl f4 ?_;intro W6 h6 b5 d6);refine bodyPost_ret (Mp Tryz.results259 _ _ (w.heap.size+1+1) x y (.int .i64 0) rfl rfl h6) rfl ⟨0,by rw[HR.out,b0.out,b2.out], ?_⟩;exact(KB.out.trans (hK.out.to_below (fun k hk=>by have d9:k=b3:=hk;omega) KB.out.size)).trans (b5.to_below (fun k hk=>by have d9:k=w.heap.size+1+1:=hk;omega) (by have:=hK.out.size;have:=KB.out.size;omega))
theorem Ajq {p' m' clear:Int}(f:Nat):(bv (bits .or .u32 clear (bits .or .u32 p' m'))).getLsbD f=((bv clear).getLsbD f||((bv p').getLsbD f||(bv m').getLsbD f)):=by
 rw[Jl,Fi,Jl,Fi,BitVec.getLsbD_or,BitVec.getLsbD_or]
theorem Agl {p' m' clear:Int}(h:bits .and .u32 clear (bits .or .u32 p' m')=0)(f:Nat)(hc:(bv clear).getLsbD f=true):(bv p').getLsbD f=false/\(bv m').getLsbD f=false:=by
 rw[Le,Jl,Fi,Ei]at h;have h1:=h f;rw[BitVec.getLsbD_and,BitVec.getLsbD_or,hc]at h1;simpa using h1
theorem Ad0 (p m clear p' m':Int)(w:World)(hp:U32 p)(hm:U32 m)(hp':U32 p')(hm':U32 m')(hk:U32 clear)(h1:Br p m=true)(h2:Br p' m'=true)(h3:clear<=16777215)(h4:bits .and .u32 clear (bits .or .u32 p' m')=0):
  Calls Tryz.prog 258 #[C6 p m, .int .u32 clear,C6 p' m'] w (Zj w (Dx (p,m) clear (p',m'))):=by
 obtain⟨S,hS⟩:∃S,S=bits .or .u32 clear (bits .or .u32 p' m'):=⟨_,rfl⟩;have HR:Hid (Dx (p,m) clear (p',m')=(E8 p p' S,E8 m m' S)):=by show _=_;unfold Dx Jt;simp[h1,h2,h3,h4,hS]
 have b8:Hid (∀f,(bv S).getLsbD f=((bv clear).getLsbD f||((bv p').getLsbD f||(bv m').getLsbD f))):=by show∀f,_=_;intro f;rw[hS];exact Ajq f
 have g7:Hid (∀f,(bv clear).getLsbD f=true->(bv p').getLsbD f=false/\(bv m').getLsbD f=false):=Agl h4
 have b9:Hid (∀i,24<=i->(bv S).getLsbD i=false):=by
  intro i hi
  have e1:(bv clear).getLsbD i=false:=by
   refine(Rm (bv clear)).1 ?_ i hi
   have:=Sp hk
   unfold toI at this;omega
  have e2:=((Di p' m').1 h2 i).2 hi;rw[b8.out,e1,e2.1,e2.2];rfl
 have f8:decide (16777215<clear)=false:=by simpa using h3
 have i2:(bits .and .u32 clear (bits .or .u32 p' m') !=0)=false:=by simpa using h4
 clear hS h4;have HP:=hI hp;clear hp;have HM:=hI hm;clear hm;have d7:=hI hp';clear hp';have d6:=hI hm';clear hm';have HK:=hI hk;clear hk;have H1:=hI h1;clear h1;have H2:=hI h2;clear h2;clear h3;go_enter Tryz.func258,Tryz.ntmps258;go_wp2_with fail;have k0:(((w.alloc (.cells #[.int .u32 p, .int .u32 m] 24)).alloc (.cells #[.int .u32 p', .int .u32 m'] 24)).alloc (.cells #[.int .u32 0, .int .u32 0] 24)).heap[w.heap.size]? =some (.cells #[.int .u32 p, .int .u32 m] 24 (0,0)):=hpt;have k1:(((w.alloc (.cells #[.int .u32 p, .int .u32 m] 24)).alloc (.cells #[.int .u32 p', .int .u32 m'] 24)).alloc (.cells #[.int .u32 0, .int .u32 0] 24)).heap[w.heap.size+1]? =some (.cells #[.int .u32 p', .int .u32 m'] 24 (0,0)):=hpt;have k2:(((w.alloc (.cells #[.int .u32 p, .int .u32 m] 24)).alloc (.cells #[.int .u32 p', .int .u32 m'] 24)).alloc (.cells #[.int .u32 0, .int .u32 0] 24)).heap[w.heap.size+1+1]? =some (.cells #[.int .u32 0, .int .u32 0] 24 (0,0)):=hpt;have kB:Below w.heap.size w (((w.alloc (.cells #[.int .u32 p, .int .u32 m] 24)).alloc (.cells #[.int .u32 p', .int .u32 m'] 24)).alloc (.cells #[.int .u32 0, .int .u32 0] 24)):=bel;generalize(((w.alloc (.cells #[.int .u32 p, .int .u32 m] 24)).alloc (.cells #[.int .u32 p', .int .u32 m'] 24)).alloc (.cells #[.int .u32 0, .int .u32 0] 24))=V0 at*;refine(E6 p m _ HP.out HM.out).mono ?_;rintro e w1 ⟨rfl,d2⟩;rw[H1.out];have k0':=(d2.block _ (lt_of_block k0)).trans k0;have k1':=(d2.block _ (lt_of_block k1)).trans k1;have k2':=(d2.block _ (lt_of_block k2)).trans k2;have kB':=kB.trans (d2.mono kB.size);have d0:=Ab (j:=0) (v:= .int .u32 p') k1' rfl;have d1:=Ab (j:=1) (v:= .int .u32 m') k1' rfl;clear d2 k0 k1 k2 kB;have K0:=hI k0';have K1:=hI k1';have K2:=hI k2';have KB:=hI kB';clear k0' k1' k2' kB';go_wp2_with fail;refine(E6 p' m' _ d7.out d6.out).mono ?_;rintro e w2 ⟨rfl,b7⟩;rw[H2.out];have k0':=(b7.block _ (lt_of_block K0.out)).trans K0.out;have k1':=(b7.block _ (lt_of_block K1.out)).trans K1.out;have k2':=(b7.block _ (lt_of_block K2.out)).trans K2.out;have kB':=KB.out.trans (b7.mono KB.out.size);have c0:=Ab (j:=0) (v:= .int .u32 p) k0' rfl;have c1:=Ab (j:=1) (v:= .int .u32 m) k0' rfl;have c2:=Ab (j:=0) (v:= .int .u32 p') k1' rfl;have c3:=Ab (j:=1) (v:= .int .u32 m') k1' rfl;clear b7 d0 d1;have K0:=hI k0';have K1:=hI k1';have K2:=hI k2';have KB:=hI kB';have l1:=lt_of_block k1';have l2:=lt_of_block k2';clear k0' k1' k2' kB';go_wp2;have k3:(w2.alloc (.cells #[.int .u32 p, .int .u32 m] 24)).heap[w2.heap.size]? =some (.cells #[.int .u32 p, .int .u32 m] 24 (0,0)):=Ak rfl;have d5:Below w2.heap.size w2 (w2.alloc (.cells #[.int .u32 p, .int .u32 m] 24)):=bel;have k1':=(d5.block _ (lt_of_block K1.out)).trans K1.out;have k2':=(d5.block _ (lt_of_block K2.out)).trans K2.out;have kB':=KB.out.trans (d5.mono KB.out.size);have hsz:=KB.out.size;generalize(w2.alloc (.cells #[.int .u32 p, .int .u32 m] 24))=V3 at*;obtain⟨b3,g2⟩:∃b3,b3=w2.heap.size:=⟨_,rfl⟩;rw[←g2]at k3 ⊢;have lb3:w.heap.size+1+1<b3:=by omega
 clear g2 d5 c0 c1 c2 c3 i2;have L3:=lt_of_block k3;have K3:=hI k3;clear k3;have K1:=hI k1';have K2:=hI k2';have KB:=hI kB';clear k1' k2' kB' K0
 go_loopw [9] (fun i wr=>∃(f:Nat) (x y:Int),f<=24/\i= .int .i64 f/\Hid (wr.heap[b3]? =some (.cells #[.int .u32 x, .int .u32 y] 24 (0,0)))/\Hid (Mr p p' S f x)/\Hid (Mr m m' S f y)/\Hid (Aj (fun k=>k=b3) V3 wr)) (fun i _=>24-(intOf i).toNat)
 case atStart=>exact⟨0,p,m,by omega,rfl,K3.out,Mr.start HP.out,Mr.start HM.out,Aj.refl _ _⟩
 case round=>
  obtain⟨f,x,y,hf,rfl,h3,hx,hy,hK⟩:=hrel;by_cases hlt:f<24
  ·have g5:(f:Int)<24:=by omega
   have g8:=Nh HK.out f (by omega);obtain⟨d,hd⟩:∃d,d=(bv clear).getLsbD f:=⟨_,rfl⟩;rw[←hd]at g8;have a4:=b8.out f;have d4:=(hK.out.block _ (lt_of_block K1.out) (by omega)).trans K1.out;have a0:=Ab (j:=0) (v:= .int .u32 p') d4 rfl;have a1:=Ab (j:=1) (v:= .int .u32 m') d4 rfl;have e0:=Ab (j:=0) (v:= .int .u32 x) h3.out rfl;have e1:=Ab (j:=1) (v:= .int .u32 y) h3.out rfl;have l3:=lt_of_block h3.out;have L1:=lt_of_block d4;have i3:=hI d4;clear d4;cases d
   ·-- nothing is cleared
    rw[←hd,Bool.false_or]at a4;have f5:=hI a4;clear a4 hd;go_wp2_with fail;refine(Ni p' m' f wr d7.out d6.out H2.out hlt).mono ?_;rintro e wg ⟨rfl,a2⟩;have b5:Aj (fun k=>k=b3) V3 wg:=hK.out.below a2 rr;have i7:=a2.size;have f1:=(a2.cell (p:=⟨b3,0,none⟩) l3).trans e0;have d8:=(a2.cell (p:=⟨b3,1,none⟩) l3).trans e1;have a0':=(a2.cell (p:=⟨w.heap.size+1,0,none⟩) L1).trans a0;have a1':=(a2.cell (p:=⟨w.heap.size+1,1,none⟩) L1).trans a1;have b0:=(a2.block b3 l3).trans h3.out;clear a2 e0 e1 a0 a1;obtain⟨g,hg⟩:∃g,g=Ez p' m' f:=⟨_,rfl⟩;rw[←hg];by_cases a7:g=0
    ·have hn:=Wc.1 (hg.symm.trans a7);have a3:=hx.out.skip (by rw[f5.out,hn.1,hn.2];rfl);have a5:=hy.out.skip (by rw[f5.out,hn.1,hn.2];rfl);have b1:=hI a3;have b2:=hI a5;have i6:=hI b5;have i4:=hI b0;clear a3 a5 hn hg b5 b0 hx hy hK h3 f1 d8 a0' a1';subst a7;go_wp2
     go_roundw
     case rel=>exact⟨f+1,x,y,by omega,by go_num,i4,b1,b2,i6⟩
     case measure=>simp[intOf];omega
    ·have f7:(bv S).getLsbD f=true:=by
      rw[f5.out];cases hp1:(bv p').getLsbD f
      ·cases hm1:(bv m').getLsbD f
       ·exact absurd (hg.trans (Wc.2 ⟨hp1,hm1⟩)) a7
       ·rfl
      ·rfl
     have a3:=hx.out.put (by omega) f7 Abx.symm (f:=f) (t:=p') (on:=Ez p' m' f==1);have a5:=hy.out.put (by omega) f7 (Yl H2.out).symm (f:=f) (t:=m') (on:=Ez p' m' f== -1);have b1:=hI a3;have b2:=hI a5;have i8:(g !=0)=true:=by simpa using a7
     have l3g:b3<wg.heap.size:=by omega
     have L1g:w.heap.size+1<wg.heap.size:=by omega
     have g9:=hI b0;clear a3 a5 f7 hg a7 hx hy h3 b0 hK;go_wp2;refine Bj (fun W'=>W'.cell? ⟨b3,0,none⟩=some (.int .u32 x)/\W'.cell? ⟨b3,1,none⟩=some (.int .u32 y)/\W'.cell? ⟨w.heap.size+1,0,none⟩=some (.int .u32 p')/\W'.cell? ⟨w.heap.size+1,1,none⟩=some (.int .u32 m')) (by kernel_rfl) ⟨f1,d8,a0',a1'⟩ (fun hHeld=> ?_)
     (refine' Aa 0 rfl ?_;(try simp only[Act.put,nY,nX]));(refine' Aa 1 rfl ?_;(try simp only[Act.put,nY,nX]));(refine' Aa 2 rfl ?_;(try simp only[Act.put,nY,nX]));(refine' Aa 3 rfl ?_;(try simp only[Act.put,nY,nX]))
     (refine Aqq 4 rfl (fun K' hK'=> ?_);simp only[nY];go_simp)
     refine(Ni p' m' f _ d7.out d6.out H2.out hlt).mono ?_;rintro e w4 ⟨rfl,d3⟩;have b4:Below wg.heap.size wg w4:=(Below.refl wg.heap.size wg).drew.trans d3
     have b6:w4.cell? ⟨b3,0,none⟩=some (.int .u32 x)/\w4.cell? ⟨b3,1,none⟩=some (.int .u32 y)/\w4.cell? ⟨w.heap.size+1,0,none⟩=some (.int .u32 p')/\w4.cell? ⟨w.heap.size+1,1,none⟩=some (.int .u32 m'):=
      ⟨(b4.cell (p:=⟨b3,0,none⟩) l3g).trans f1,(b4.cell (p:=⟨b3,1,none⟩) l3g).trans d8,(b4.cell (p:=⟨w.heap.size+1,0,none⟩) L1g).trans a0',(b4.cell (p:=⟨w.heap.size+1,1,none⟩) L1g).trans a1'⟩
     refine hK' _ _ ⟨.inr b6,fun _=> ?_⟩
     clear hK' K' d3 hHeld f1 d8 a0' a1'
     (try simp only[Act.put,nY,nX])
     (refine Aqq 5 rfl (fun K' hK'=> ?_);simp only[nY];go_simp)
     refine(Zs x y f _ w4 hlt).mono ?_;rintro e w5 ⟨rfl,a8⟩;have f9:=b4.size;have g4:=a8.size;have a9:Below wg.heap.size wg w5:=b4.trans (a8.mono f9)
     have g0:w5.cell? ⟨b3,0,none⟩=some (.int .u32 x)/\w5.cell? ⟨b3,1,none⟩=some (.int .u32 y)/\w5.cell? ⟨w.heap.size+1,0,none⟩=some (.int .u32 p')/\w5.cell? ⟨w.heap.size+1,1,none⟩=some (.int .u32 m'):=
      ⟨(a8.cell (p:=⟨b3,0,none⟩) (by show b3<_;omega)).trans b6.1,(a8.cell (p:=⟨b3,1,none⟩) (by show b3<_;omega)).trans b6.2.1,(a8.cell (p:=⟨w.heap.size+1,0,none⟩) (by show w.heap.size+1<_;omega)).trans b6.2.2.1,(a8.cell (p:=⟨w.heap.size+1,1,none⟩) (by show w.heap.size+1<_;omega)).trans b6.2.2.2⟩
     refine hK' _ _ ⟨.inr g0,fun _=> ?_⟩
     clear hK' K' b6 b4 a8 f9 g4;have f8:=(a9.block b3 l3g).trans g9.out;have g1:Aj (fun k=>k=b3) V3 w5:=b5.below a9 rr
     (try simp only[Act.put,nY,nX])
     refine Aqq 6 rfl (fun K' hK'=> ?_);rw[if_pos (by rfl)];refine Mh (.tmp 8) (.tmp 54) (by rfl) b3 (Kd x f (Ez p' m' f==1)) (Kd y f (Ez p' m' f== -1)) (by rfl) (by rfl) f8 ?_;intro W6 h6 a6 d9;have f0:=g1.trans a6;refine hK' _ _ ⟨.inl (by kernel_rfl),fun _=>Be (by kernel_rfl) ?_ _⟩
     clear hK' K' g0 d9 a6 g1 a9 f8;have H6:=hI h6;clear h6;go_wp2
     go_roundw
     case rel=>exact⟨f+1,_,_,by omega,by go_num,H6.out,b1,b2,f0⟩
     case measure=>simp[intOf];omega
   ·-- the bit is cleared
    have f2:=g7.out f hd.symm;have hS:(bv S).getLsbD f=true:=by rw[a4,←hd];rfl
    have a3:=hx.out.put (by omega) hS f2.1 (f:=f) (t:=p') (on:=false);have a5:=hy.out.put (by omega) hS f2.2 (f:=f) (t:=m') (on:=false);have b1:=hI a3;have b2:=hI a5;have a7:Ez p' m' f=0:=Wc.2 f2;have i0:=hI a7;clear a3 a5 hS f2 a4 hd a7 hx hy;go_wp2_with fail;refine(Zs x y f 0 wr hlt).mono ?_;rintro e wg ⟨rfl,a2⟩;have b5:Aj (fun k=>k=b3) V3 wg:=hK.out.below a2 rr;have b0:=(a2.block b3 l3).trans h3.out;have f4:=(a2.block (w.heap.size+1) L1).trans i3.out;have q1:((0:Int)==1)=false:=rfl;have q2:((0:Int)== -1)=false:=rfl;rw[q1,q2];clear a2 e0 e1 a0 a1 hK h3 q1 q2;go_wp2_with(refine Hr rfl (.tmp 8) (.tmp 44) rfl b3 (Kd x f false) (Kd y f false) rfl rfl b0 ?_;intro W6 h6 a6 d9;have f3:=(a6.block (w.heap.size+1) (lt_of_block f4) (by omega)).trans f4;have a0:=Ab (j:=0) (v:= .int .u32 p') f3 rfl;have a1:=Ab (j:=1) (v:= .int .u32 m') f3 rfl);have f0:=b5.trans a6;have H6:=hI h6;have g6:=hI f0;clear h6 a6 d9 f0 b5 b0 f4 f3;refine(Ni p' m' f W6 d7.out d6.out H2.out hlt).mono ?_;rintro e W7 ⟨rfl,f6⟩;rw[i0.out];have H7:=hI ((f6.block b3 (lt_of_block H6.out)).trans H6.out);have i5:=hI (g6.out.below f6 rr);clear f6 a0 a1;go_wp2
    go_roundw
    case rel=>exact⟨f+1,_,_,by omega,by go_num,H7,b1,b2,i5⟩
    case measure=>simp[intOf];omega
  ·obtain rfl:f=24:=by omega
   have a3:=hx.out.done b9.out;have a5:=hy.out.done b9.out;have i1:=(hK.out.block _ (lt_of_block K2.out) (by omega)).trans K2.out;have e0:=Ab (j:=0) (v:= .int .u32 x) h3.out rfl;have e1:=Ab (j:=1) (v:= .int .u32 y) h3.out rfl;have b1:=hI a3;have b2:=hI a5;clear a3 a5 hx hy;go_wp2_with(refine Hr rfl (.tmp 6) (.tmp 55) rfl (w.heap.size+1+1) x y rfl rfl i1 ?_;intro W6 h6 a6 d9);refine bodyPost_ret (Mp Tryz.results258 _ _ (w.heap.size+1+1) x y (.int .i64 0) rfl rfl h6) rfl ⟨0,by rw[HR.out,b1.out,b2.out], ?_⟩;exact(KB.out.trans (hK.out.to_below (fun k hk=>by have g3:k=b3:=hk;omega) KB.out.size)).trans (a6.to_below (fun k hk=>by have g3:k=w.heap.size+1+1:=hk;omega) (by have:=hK.out.size;have:=KB.out.size;omega))
def Wd (s:Snd):Prop:=U32 s.1/\U32 s.2
def Bq (ws:List Snd):Prop:=∀s∈ws,Wd s
theorem Zv {x:Int}(h:U32 x):(x<16777216)↔∀i,24<=i->(bv x).getLsbD i=false:=by
 rw[←Rm]
 have:=Sp h
 unfold toI at this;omega
theorem Xo (p m:Int):Ck p m=Br p m:=by rw[Bool.eq_iff_iff,Mk,Di]
theorem Abz {p m:Int}(hp:U32 p)(hm:U32 m):Ck p m=(bits .and .u32 p m==0 && (decide (p<16777216) && decide (m<16777216))):=by
 rw[Bool.eq_iff_iff,Mk,Bool.and_eq_true,Bool.and_eq_true,beq_iff_eq,decide_eq_true_eq,decide_eq_true_eq,Zv hp,Zv hm,Le,Ei];simp only[BitVec.getLsbD_and];exact⟨fun h=>⟨fun i=>(h i).1,fun i hi=>((h i).2 hi).1,fun i hi=>((h i).2 hi).2⟩,fun h i=>⟨h.1 i,fun hi=>⟨h.2.1 i hi,h.2.2 i hi⟩⟩⟩
theorem Fm (p m:Int)(w:World)(hp:U32 p)(hm:U32 m):
  Calls Tryz.prog 224 #[C6 p m] w fun e w'=>e= .returned (.bool (Ck p m))/\Below w.heap.size w w':=by
 have H:=hI (Abz hp hm);clear hp hm;obtain⟨d1,a2⟩:∃d1,(bits .and .u32 p m==0)=d1:=⟨_,rfl⟩;obtain⟨d2,a1⟩:∃d2,decide (p<16777216)=d2:=⟨_,rfl⟩;obtain⟨d3,a0⟩:∃d3,decide (m<16777216)=d3:=⟨_,rfl⟩;have H1:Hid (Ck p m=(d1 && (d2 && d3))):=by show _=_;rw[H.out,a2,a1,a0]
 clear H;cases d1
 ·clear a1 a0;go_enter Tryz.func224,Tryz.ntmps224;go_wp2;go_ret;exact⟨by rw[H1.out];rfl,bel⟩
 ·cases d2
  ·clear a0;go_enter Tryz.func224,Tryz.ntmps224;go_wp2;go_ret;exact⟨by rw[H1.out];rfl,bel⟩
  ·go_enter Tryz.func224,Tryz.ntmps224;go_wp2;go_ret;exact⟨by rw[H1.out];rfl,bel⟩
theorem Nl (A:Option Addr)(n c:Nat)(xs:List Snd)(w:World)(hx:Ad w A n c xs)(hu:Bq xs):
  Calls Tryz.prog 182 #[.slice A n c] w fun e w'=>e= .returned (.int .i64 (Bs xs))/\Below w.heap.size w w':=by
 by_cases h32:32<n
 ·have hv:Bs xs=11:=by unfold Bs;rw[if_pos (by rw[hx.len];exact h32)]
  have H:=hI hv;clear hv hu;have HX:=hI hx;clear hx;go_enter Tryz.func182,Tryz.ntmps182;go_wp2;go_ret;exact⟨by rw[H.out];rfl,bel⟩
 ·have hv:Bs xs=if xs.all (fun s=>Ck s.1 s.2)then 0 else 14:=by unfold Bs;rw[if_neg (by rw[hx.len];exact h32)]
  have H:=hI hv;clear hv;have HX:=hI hx;clear hx;have HU:=hI hu;clear hu;have hm:n<=32:=by omega
  go_enter Tryz.func182,Tryz.ntmps182;go_wp2
  go_loopw [3] (fun i wr=>∃k:Nat,k<=n/\i= .int .i64 k/\Hid ((xs.take k).all (fun s=>Ck s.1 s.2)=true)/\Below w.heap.size w wr) (fun i _=>n-(intOf i).toNat)
  case atStart=>exact⟨0,Nat.zero_le _,rfl,by simp[Hid],bel⟩
  case round=>
   obtain⟨k,hk,rfl,HA,hB⟩:=hrel;by_cases hlt:k<n
   ·obtain⟨b,off,p,m,rfl,hb,a0,a5,a6⟩:=(HX.out.below hB rr).at_ hlt;have a4:(k:Int)<(n:Int):=by omega
    have hu:=HU.out _ (List.mem_of_getElem? a0);have a1:=hI hu;clear hu;have HK:=hI a0;clear a0;have HS:=hI (Bb xs k (p,m) HK.out);go_wp2_with fail;refine(Fm p m wr a1.out.1 a1.out.2).mono ?_;rintro e w1 ⟨rfl,a3⟩;have a2:=hB.trans (a3.mono hB.size);clear a3 a5 a6;obtain⟨v,hv⟩:∃v,v=Ck p m:=⟨_,rfl⟩;rw[←hv];cases v
    ·have hf:xs.all (fun s=>Ck s.1 s.2)=false:=by
      rw[←List.take_append_drop (k+1) xs,HS.out];simp[←hv]
     have HF:=hI hf;clear hf hv;go_wp2;go_ret;exact⟨by rw[H.out,HF.out];rfl,a2⟩
    ·have HG:Hid ((xs.take (k+1)).all (fun s=>Ck s.1 s.2)=true):=by show _=_;rw[HS.out,List.all_append,HA.out];simp[←hv]
     clear hv;go_wp2
     go_roundw
     case rel=>exact⟨k+1,by omega,by go_num,HG,a2⟩
     case measure=>simp[intOf];omega
   ·obtain rfl:k=n:=by omega
    have hf:xs.all (fun s=>Ck s.1 s.2)=true:=by
     have:=HA.out;rwa[List.take_of_length_le (by rw[HX.out.len];exact rr)]at this
    have HF:=hI hf;clear hf;go_wp2;go_ret;exact⟨by rw[H.out,HF.out];rfl,hB⟩
theorem Ab0 (A:Option Addr)(n c:Nat)(xs:List Snd)(w:World)(hx:Ad w A n c xs)(hn:n<=4000):
  Calls Tryz.prog 127 #[.slice A n c] w (Er w xs):=by
 have HX:=hI hx;clear hx;go_enter Tryz.func127,Tryz.ntmps127;go_wp2
 go_loopw [3,4] (fun v i wr=>∃k:Nat,k<=n/\i= .int .i64 k/\Hid (wr.ownsRow w.heap.size 24 2 v k (Bl (xs.take k)))/\Below w.heap.size w wr) (fun _ i _=>n-(intOf i).toNat)
 case atStart=>exact⟨0,Nat.zero_le _,rfl,World.ownsRow_nil _ _ _ _,Below.refl _ _⟩
 case round=>
  obtain⟨k,hk,rfl,a1,hB⟩:=hrel;have a4:=hB.size;by_cases hlt:k<n
  ·obtain⟨b,off,p,m,rfl,hb,a3,a8,a9⟩:=(HX.out.below hB rr).at_ hlt;have a7:(k:Int)<(n:Int):=by omega
   have HS:=hI (Bb xs k (p,m) a3);clear a3;go_wp2_with(at_builtin;refine Cs rfl (.tmp 11) (.tmp 16) rfl w.heap.size u3 k (xs.take k) rfl (a1.out.alloc _) (some ⟨wr.heap.size,0,none⟩) 1 1 [(p,m)] rfl (E3 wr p m 24) (by omega) (by simp;omega) ?_;intro v' w9 a2 a5 _);have a6:Below w.heap.size w w9:=(hB.alloc a4 _).grown a5 (by simp;omega) (fun q hq=>(a1.out.lt _ hq).1)
   go_roundw
   case rel=>exact⟨k+1,by omega,by go_num,by show w9.ownsRow _ _ _ _ _ _;rw[HS.out];exact a2,a6⟩
   case measure=>simp[intOf];omega
  ·obtain rfl:k=n:=by omega
   have a0:=a1.out;rw[List.take_of_length_le (by rw[HX.out.len];exact rr)]at a0;go_wp2;go_ret;exact Er.of_own rfl a0 hB rr
end Go.Proofs.YtlgliddhideflaaGreatDoor
