/-
  ablautref01: Valid, Get, Satisfies.
  ablautref01: put, Change, Take.
  ablautref02: Valid, Check, Copy.
-/
import Derived.Test.YtaglfmlgbcmakaaGreatDoorG21
set_option linter.all false
set_option maxRecDepth 100000
set_option maxHeartbeats 4000000
namespace Go.Proofs.YtaglfmlgbcmakaaGreatDoor
open Go.RowKit Go.Shelf
def U32 (x:Int):Prop:=0<=x/\x<=4294967295
theorem U32.nat {x:Int}(h:U32 x):∃n:Nat,x=n/\n<4294967296:=⟨x.toNat,by have:=h.1;omega,by have:=h.2;omega⟩
theorem Mu (n:Nat)(h:n<4294967296):(bv (n:Int)).toNat=n:=by
 unfold bv;rw[BitVec.ofInt_natCast,BitVec.toNat_ofNat,Nat.mod_eq_of_lt (by omega)]
def toI (x:BitVec 32):Int:=(x.toNat:Int)
theorem Ac1 (x:BitVec 32):U32 (toI x):=⟨by unfold toI;omega,by have:=x.isLt;unfold toI;omega⟩
theorem Ama (x:BitVec 32):bv (toI x)=x:=Fu x
theorem Qm {x:Int}(h:U32 x):toI (bv x)=x:=by
 obtain⟨n,rfl,hn⟩:=h.nat;unfold toI;rw[Mu n hn]
theorem Mv {x:Int}(h:U32 x)(f:Nat)(hf:f<32):(bits .and .u32 (x/2^f) 1==1)=(bv x).getLsbD f:=by
 obtain⟨n,rfl,hn⟩:=h.nat
 have e1:((n:Int)/2^f)=((n/2^f:Nat):Int):=by
  rw[Int.natCast_ediv];simp
 have hq:n/2^f<4294967296:=Nat.lt_of_le_of_lt (Nat.div_le_self _ _) hn;rw[e1,Kr,BitVec.toNat_and,Mu _ hq,show bv 1=1#32 from rfl,BitVec.toNat_ofNat,show 1%2^32=1 from rfl,Nat.and_one_is_mod,←BitVec.testBit_toNat,Mu n hn,Nat.testBit_eq_decide_div_mod_eq];generalize n/2^f=q;have h4:q%2=0\/q%2=1:=by omega
 rcases h4 with h4|h4<;>rw[h4]<;>rfl
def Uq (p m:Int)(i:Nat):Bool:= !((bv p).getLsbD i && (bv m).getLsbD i) && (decide (i<24)|| !((bv p).getLsbD i||(bv m).getLsbD i))
theorem Abn {p m:Int}(h:∀i,i<32->Uq p m i=true):Bx p m=true:=by
 rw[Dc];intro i;by_cases hi:i<32
 ·have h1:=h i hi;unfold Uq at h1
  revert h1
  cases(bv p).getLsbD i<;>cases(bv m).getLsbD i<;>simp<;>omega
 ·rw[BitVec.getLsbD_of_ge _ _ (by omega),BitVec.getLsbD_of_ge _ _ (by omega)];exact⟨rfl,fun _=>⟨rfl,rfl⟩⟩
theorem Lo {p m:Int}{i:Nat}(h:Uq p m i=false):Bx p m=false:=by
 cases hv:Bx p m
 ·rfl
 ·have h1:=(Dc p m).1 hv i;unfold Uq at h;obtain⟨h2,h3⟩:=h1;by_cases hi:i<24
  ·rw[h2,decide_eq_true hi]at h;simp at h
  ·obtain⟨h4,h5⟩:=h3 (by omega);rw[h4,h5]at h;simp at h
theorem Fz (p m:Int)(w:World)(hp:U32 p)(hm:U32 m):
  Calls Tryz.prog 159 #[C7 p m] w fun e w'=>e= .returned (.bool (Bx p m))/\Below w.heap.size w w':=by
 have HP:=hI hp;clear hp;have HM:=hI hm;clear hm;go_enter Tryz.func159,Tryz.ntmps159;go_wp2
 go_loop [3] (fun i=>∃f:Nat,f<=32/\i= .int .i64 f/\Hid (∀i,i<f->Uq p m i=true)) (fun i=>32-(intOf i).toNat)
 case atStart=>exact⟨0,by omega,rfl,fun i hi=>by omega⟩
 case round=>
  obtain⟨f,hf,rfl,a0⟩:=hrel;by_cases hlt:f<32
  ·have h1:=Mv HP.out f hlt;have h2:=Mv HM.out f hlt;have HK:Hid (Uq p m f=(!((bv p).getLsbD f && (bv m).getLsbD f) && (decide (f<24)|| !((bv p).getLsbD f||(bv m).getLsbD f)))):=rfl;generalize(bv p).getLsbD f=d1 at*;generalize(bv m).getLsbD f=d2 at*;by_cases h24:f<24
   ·cases d1
    ·cases d2
     ·have HG:Hid (∀i,i<f+1->Uq p m i=true):=by
       intro i hi;rcases Nat.lt_or_ge i f with h|h
       ·exact a0.out i h
       ·obtain rfl:i=f:=by omega
        rw[HK.out];simp[h24]
      go_wp2
      go_round
      case rel=>exact⟨f+1,by omega,by go_num,HG⟩
      case measure=>simp[intOf];omega
     ·have HG:Hid (∀i,i<f+1->Uq p m i=true):=by
       intro i hi;rcases Nat.lt_or_ge i f with h|h
       ·exact a0.out i h
       ·obtain rfl:i=f:=by omega
        rw[HK.out];simp[h24]
      go_wp2
      go_round
      case rel=>exact⟨f+1,by omega,by go_num,HG⟩
      case measure=>simp[intOf];omega
    ·cases d2
     ·have HG:Hid (∀i,i<f+1->Uq p m i=true):=by
       intro i hi;rcases Nat.lt_or_ge i f with h|h
       ·exact a0.out i h
       ·obtain rfl:i=f:=by omega
        rw[HK.out];simp[h24]
      go_wp2
      go_round
      case rel=>exact⟨f+1,by omega,by go_num,HG⟩
      case measure=>simp[intOf];omega
     ·have hf:=Lo (p:=p) (m:=m) (i:=f) (by rw[HK.out];simp[h24]);have HF:=hI hf;clear hf;go_wp2;go_ret;exact⟨by rw[HF.out];rfl,bel⟩
   ·cases d1
    ·cases d2
     ·have HG:Hid (∀i,i<f+1->Uq p m i=true):=by
       intro i hi;rcases Nat.lt_or_ge i f with h|h
       ·exact a0.out i h
       ·obtain rfl:i=f:=by omega
        rw[HK.out];simp[h24]
      go_wp2
      go_round
      case rel=>exact⟨f+1,by omega,by go_num,HG⟩
      case measure=>simp[intOf];omega
     ·have hf:=Lo (p:=p) (m:=m) (i:=f) (by rw[HK.out];simp[h24]);have HF:=hI hf;clear hf;go_wp2;go_ret;exact⟨by rw[HF.out];rfl,bel⟩
    ·cases d2
     ·have hf:=Lo (p:=p) (m:=m) (i:=f) (by rw[HK.out];simp[h24]);have HF:=hI hf;clear hf;go_wp2;go_ret;exact⟨by rw[HF.out];rfl,bel⟩
     ·have hf:=Lo (p:=p) (m:=m) (i:=f) (by rw[HK.out];simp[h24]);have HF:=hI hf;clear hf;go_wp2;go_ret;exact⟨by rw[HF.out];rfl,bel⟩
  ·obtain rfl:f=32:=by omega
   have hf:=Abn a0.out;have HF:=hI hf;clear hf;go_wp2;go_ret;exact⟨by rw[HF.out];rfl,bel⟩
def E9 (p m:Int)(f:Nat):Int:=if(bv p).getLsbD f then 1 else if(bv m).getLsbD f then-1 else 0
theorem Zg (f:Nat)(w:World)(hf:f<24):Calls Tryz.prog 230 #[.int .i64 f] w fun e w'=>e= .returned (.bool true)/\w'=w:=by
 have h1:decide ((0:Int)<=f)=true:=decide_eq_true (by omega);have h2:decide ((f:Int)<24)=true:=decide_eq_true (by omega);go_enter Tryz.func230,Tryz.ntmps230;go_wp2;go_ret;exact⟨rfl,rfl⟩
theorem Mw (p m:Int)(f:Nat)(w:World)(hp:U32 p)(hm:U32 m)(hv:Bx p m=true)(hf:f<24):
  Calls Tryz.prog 221 #[C7 p m, .int .i64 f] w fun e w'=>e= .returned (.int .i64 (E9 p m f))/\Below w.heap.size w w':=by
 have h1:=Mv hp f (by omega);have h2:=Mv hm f (by omega);have HG:Hid (E9 p m f=if(bv p).getLsbD f then 1 else if(bv m).getLsbD f then-1 else 0):=rfl;have HP:=hI hp;clear hp;have HM:=hI hm;clear hm;have HV:=hI hv;clear hv;generalize(bv p).getLsbD f=d1 at*;generalize(bv m).getLsbD f=d2 at*;go_enter Tryz.func221,Tryz.ntmps221;go_wp2_with fail;refine(Fz p m _ HP.out HM.out).mono ?_;rintro e w1 ⟨rfl,a0⟩;rw[HV.out];have a2:=a0.size;simp only[World.size_alloc]at a2;have a3:=(a0.cell (p:=⟨w.heap.size,0,none⟩) (by simp)).trans (B8 (v:= .int .u32 p) rfl);have a4:=(a0.cell (p:=⟨w.heap.size,1,none⟩) (by simp)).trans (B8 (v:= .int .u32 m) rfl);have a1:Below w.heap.size w w1:=Below.step (by assumption) (by simp) bel;clear a0;go_wp2_with fail;refine(Zg f w1 hf).mono ?_;rintro e w2 ⟨rfl,rfl⟩;cases d1
 ·cases d2
  ·go_wp2;go_ret;exact⟨by rw[HG.out];rfl,a1⟩
  ·go_wp2;go_ret;exact⟨by rw[HG.out];rfl,a1⟩
 ·go_wp2;go_ret;exact⟨by rw[HG.out];rfl,a1⟩
theorem Akm {p m p' m':Int}(hv:Bx p m=true)(hv':Bx p' m'=true)(h:∀f,f<24->E9 p' m' f=0\/E9 p m f=E9 p' m' f):Gh p m p' m'=true:=by
 have o:=(Dc p m).1 hv;have o':=(Dc p' m').1 hv';unfold Gh;rw[hv,hv',Dx,Dx]
 have h1:((bv p' &&& ~~~ bv p).toNat:Int)=0:=by
  rw[Es];intro i;rw[BitVec.getLsbD_and,BitVec.getLsbD_not];by_cases hi:i<24
  ·have h2:=h i hi;unfold E9 at h2;cases hp':(bv p').getLsbD i
   ·rfl
   ·rw[hp',if_pos rfl]at h2;cases hp:(bv p).getLsbD i
    ·rw[hp,if_neg (by decide)]at h2;split at h2<;>omega
    ·simp
  ·rw[((o' i).2 (by omega)).1];rfl
 have h3:((bv m' &&& ~~~ bv m).toNat:Int)=0:=by
  rw[Es];intro i;rw[BitVec.getLsbD_and,BitVec.getLsbD_not];by_cases hi:i<24
  ·have h2:=h i hi;unfold E9 at h2;cases hm':(bv m').getLsbD i
   ·rfl
   ·have h4:(bv p').getLsbD i=false:=by have:=(o' i).1;rw[hm']at this;simpa using this
    rw[h4,hm',if_neg (by decide),if_pos rfl]at h2;cases hm:(bv m).getLsbD i
    ·rw[hm]at h2;split at h2
     ·omega
     ·rw[if_neg (by decide)]at h2;omega
    ·simp
  ·rw[((o' i).2 (by omega)).2];rfl
 rw[h1,h3];rfl
theorem Akn {p m p' m':Int}{f:Nat}(hv:Bx p m=true)(h0:E9 p' m' f≠0)(h1:E9 p m f≠E9 p' m' f):Gh p m p' m'=false:=by
 have o:=(Dc p m).1 hv;cases hs:Gh p m p' m'
 ·rfl
 ·unfold Gh at hs;rw[Dx,Dx]at hs;simp only[Bool.and_eq_true,beq_iff_eq]at hs;obtain⟨⟨_,h2⟩,h3⟩:=hs;rw[Es]at h2 h3;have a:=h2 f;have b:=h3 f;rw[BitVec.getLsbD_and,BitVec.getLsbD_not]at a b;have c:=(o f).1;by_cases hf:f<32
  ·unfold E9 at h0 h1
   revert a b c h0 h1
   cases(bv p).getLsbD f<;>cases(bv m).getLsbD f<;>cases(bv p').getLsbD f<;>cases(bv m').getLsbD f<;>simp[hf]
  ·unfold E9 at h0;rw[BitVec.getLsbD_of_ge _ _ (by omega),BitVec.getLsbD_of_ge _ _ (by omega)]at h0;simp at h0
theorem Ako (p m p' m':Int)(w:World)(hp:U32 p)(hm:U32 m)(hp':U32 p')(hm':U32 m'):
  Calls Tryz.prog 210 #[C7 p m,C7 p' m'] w fun e w'=>e= .returned (.bool (Gh p m p' m'))/\Below w.heap.size w w':=by
 have HP:=hI hp;clear hp;have HM:=hI hm;clear hm;have d2:=hI hp';clear hp';have d0:=hI hm';clear hm';go_enter Tryz.func210,Tryz.ntmps210;go_wp2_with fail;refine(Fz p m _ HP.out HM.out).mono ?_;rintro e w1 ⟨rfl,a6⟩;have d7:=a6.size;simp only[World.size_alloc]at d7;have a4:=(a6.cell (p:=⟨w.heap.size,0,none⟩) (by simp;omega)).trans (show _=some (.int .u32 p)by rw[Cz (by simp)];exact B8 rfl);have a5:=(a6.cell (p:=⟨w.heap.size,1,none⟩) (by simp;omega)).trans (show _=some (.int .u32 m)by rw[Cz (by simp)];exact B8 rfl);have b3:=(a6.cell (p:=⟨w.heap.size+1,0,none⟩) (by simp)).trans (show _=some (.int .u32 p')by rw[show w.heap.size+1=(w.alloc (.cells #[.int .u32 p, .int .u32 m] 49)).heap.size by simp];exact B8 rfl);have b0:=(a6.cell (p:=⟨w.heap.size+1,1,none⟩) (by simp)).trans (show _=some (.int .u32 m')by rw[show w.heap.size+1=(w.alloc (.cells #[.int .u32 p, .int .u32 m] 49)).heap.size by simp];exact B8 rfl);have b6:Below w.heap.size w w1:=Below.step (by assumption) (by simp;omega) bel;clear a6;obtain⟨v1,a7⟩:∃v1,v1=Bx p m:=⟨_,rfl⟩;rw[←a7];cases v1
 ·have hf:Gh p m p' m'=false:=by unfold Gh;rw[←a7];rfl
  have HF:=hI hf;clear hf a7;go_wp2;go_ret;exact⟨by rw[HF.out];rfl,b6⟩
 have b5:=hI a7;clear a7;go_wp2_with fail;refine(Fz p' m' _ d2.out d0.out).mono ?_;rintro e w2 ⟨rfl,a2⟩;have f3:=a2.size;have a1:=(a2.cell (p:=⟨w.heap.size,0,none⟩) (by show w.heap.size<_;omega)).trans a4;have a0:=(a2.cell (p:=⟨w.heap.size,1,none⟩) (by show w.heap.size<_;omega)).trans a5;have b2:=(a2.cell (p:=⟨w.heap.size+1,0,none⟩) (by show w.heap.size+1<_;omega)).trans b3;have a9:=(a2.cell (p:=⟨w.heap.size+1,1,none⟩) (by show w.heap.size+1<_;omega)).trans b0;have b1:=b6.trans (a2.mono b6.size);clear a2 a4 a5 b3 b0;obtain⟨v2,a8⟩:∃v2,v2=Bx p' m':=⟨_,rfl⟩;rw[←a8];cases v2
 ·have hf:Gh p m p' m'=false:=by unfold Gh;rw[←a8,←b5.out];rfl
  have HF:=hI hf;clear hf a8;go_wp2;go_ret;exact⟨by rw[HF.out];rfl,b1⟩
 have d1:=hI a8;clear a8;have d9:=hI a1;have d4:=hI a0;have d6:=hI b2;have f1:=hI a9;clear a1 a0 b2 a9;go_wp2
 go_loopw [5] (fun i wr=>∃f:Nat,f<=24/\i= .int .i64 f/\Hid (∀j,j<f->E9 p' m' j=0\/E9 p m j=E9 p' m' j)/\Below w2.heap.size w2 wr) (fun i _=>24-(intOf i).toNat)
 case atStart=>exact⟨0,by omega,rfl,fun i hi=>by omega,Below.refl _ _⟩
 case round=>
  obtain⟨f,hf,rfl,a3,hB⟩:=hrel;have d8:=hB.size;have a4:=(hB.cell (p:=⟨w.heap.size,0,none⟩) (by show w.heap.size<_;omega)).trans d9.out;have a5:=(hB.cell (p:=⟨w.heap.size,1,none⟩) (by show w.heap.size<_;omega)).trans d4.out;have b3:=(hB.cell (p:=⟨w.heap.size+1,0,none⟩) (by show w.heap.size+1<_;omega)).trans d6.out;have b0:=(hB.cell (p:=⟨w.heap.size+1,1,none⟩) (by show w.heap.size+1<_;omega)).trans f1.out;by_cases hlt:f<24
  ·have d5:(f:Int)<24:=by omega
   go_wp2_with fail;refine(Mw p' m' f wr d2.out d0.out d1.out.symm hlt).mono ?_;rintro e w3 ⟨rfl,b4⟩;have f2:=b4.size;have a1:=(b4.cell (p:=⟨w.heap.size,0,none⟩) (by show w.heap.size<_;omega)).trans a4;have a0:=(b4.cell (p:=⟨w.heap.size,1,none⟩) (by show w.heap.size<_;omega)).trans a5;have b8:=hB.trans (b4.mono d8);clear b4 a4 a5 b3 b0;obtain⟨g,hg⟩:∃g,g=E9 p' m' f:=⟨_,rfl⟩;rw[←hg];by_cases h0:g=0
   ·have HG:Hid (∀j,j<f+1->E9 p' m' j=0\/E9 p m j=E9 p' m' j):=by
     intro j hj;rcases Nat.lt_or_ge j f with h|h
     ·exact a3.out j h
     ·obtain rfl:j=f:=by omega
      exact .inl (hg.symm.trans h0)
    clear hg;subst h0;go_wp2
    go_roundw
    case rel=>exact⟨f+1,by omega,by go_num,HG,b8⟩
    case measure=>simp[intOf];omega
   ·have f4:(g !=0)=true:=by simpa using h0
    have f0:=hI h0;clear h0;have b7:=hI hg;clear hg;go_wp2_with fail;refine(Mw p m f w3 HP.out HM.out b5.out.symm hlt).mono ?_;rintro e w4 ⟨rfl,d3⟩;have b9:=b8.trans (d3.mono b8.size);clear d3 a1 a0;obtain⟨k,hk⟩:∃k,k=E9 p m f:=⟨_,rfl⟩;rw[←hk];by_cases h1:k=g
    ·have HG:Hid (∀j,j<f+1->E9 p' m' j=0\/E9 p m j=E9 p' m' j):=by
      intro j hj;rcases Nat.lt_or_ge j f with h|h
      ·exact a3.out j h
      ·obtain rfl:j=f:=by omega
       exact .inr (hk.symm.trans (h1.trans b7.out))
     clear hk;subst h1;have h2:(k !=k)=false:=by simp
     go_wp2
     go_roundw
     case rel=>exact⟨f+1,by omega,by go_num,HG,b9⟩
     case measure=>simp[intOf];omega
    ·have hf:Gh p m p' m'=false:=Akn (f:=f) b5.out.symm (by rw[←b7.out];exact f0.out) (by rw[←hk,←b7.out];exact h1);have HF:=hI hf;clear hf hk;have h2:(k !=g)=true:=by simpa using h1
     clear h1;go_wp2;go_ret;exact⟨by rw[HF.out];rfl,b1.trans (b9.mono b1.size)⟩
  ·obtain rfl:f=24:=by omega
   have hf:=Akm b5.out.symm d1.out.symm a3.out;have HF:=hI hf;clear hf a4 a5 b3 b0;go_wp2;go_ret;exact⟨by rw[HF.out];rfl,b1.trans (hB.mono b1.size)⟩
def Kc (p:Int)(f:Nat)(on:Bool):Int:=if on then bits .or .u32 (bits .andNot .u32 p (2^f%4294967296)) (2^f%4294967296)else bits .andNot .u32 p (2^f%4294967296)
theorem Xb (p m:Int)(f:Nat)(v:Int)(w:World)(hf:f<24):
  Calls Tryz.prog 224 #[C7 p m, .int .i64 f, .int .i64 v] w fun e w'=>e= .returned (C7 (Kc p f (v==1)) (Kc m f (v== -1)))/\Below w.heap.size w w':=by
 by_cases h1:v=1
 ·subst h1;go_enter Tryz.func224,Tryz.ntmps224;go_wp2;exact bodyPost_ret (v:=C7 (Kc p f true) (Kc m f false)) (by simp[results,Tryz.results224,go_sem,Kc]) rfl ⟨rfl,bel⟩
 ·by_cases h2:v= -1
  ·subst h2;go_enter Tryz.func224,Tryz.ntmps224;go_wp2;exact bodyPost_ret (v:=C7 (Kc p f false) (Kc m f true)) (by simp[results,Tryz.results224,go_sem,Kc]) rfl ⟨rfl,bel⟩
  ·have a0:(v==1)=false:=by simpa using h1
   have a1:(v== -1)=false:=by simpa using h2
   rw[a0,a1];clear h1 h2;go_enter Tryz.func224,Tryz.ntmps224;go_wp2;exact bodyPost_ret (v:=C7 (Kc p f false) (Kc m f false)) (by simp[results,Tryz.results224,go_sem,Kc]) rfl ⟨rfl,bel⟩
theorem Amc (f:Nat)(hf:f<32)(i:Nat):(bv (2^f%4294967296)).getLsbD i=decide (i=f):=by
 have e:((2:Int)^f%4294967296)=((2^f:Nat):Int):=by
  have h1:2^f<=2^31:=Nat.pow_le_pow_right (by decide) (by omega);have h2:(2:Nat)^31=2147483648:=by decide
  have h3:((2:Int)^f)=((2^f:Nat):Int):=by simp
  rw[h3];generalize 2^f=q at*;omega
 rw[e,←BitVec.testBit_toNat,Mu _ (by
  have h1:2^f<=2^31:=Nat.pow_le_pow_right (by decide) (by omega);have h2:(2:Nat)^31=2147483648:=by decide
  omega),Nat.testBit_two_pow]
 exact decide_eq_decide.2 ⟨Eq.symm,Eq.symm⟩
theorem Ahy (p:Int)(f:Nat)(hf:f<32)(on:Bool)(i:Nat):(bv (Kc p f on)).getLsbD i=if i=f then on else(bv p).getLsbD i:=by
 unfold Kc;have hb:=Amc f hf i;cases on
 ·rw[if_neg (by decide),Dx,Fu,BitVec.getLsbD_and,BitVec.getLsbD_not,hb];by_cases h:i=f
  ·simp[h]
  ·by_cases hi:i<32
   ·simp[h,hi]
   ·rw[BitVec.getLsbD_of_ge (bv p) i (by omega)];simp[h]
 ·rw[if_pos rfl,Jf,Fu,Dx,Fu,BitVec.getLsbD_or,BitVec.getLsbD_and,BitVec.getLsbD_not,hb];by_cases h:i=f
  ·simp[h]
  ·by_cases hi:i<32
   ·simp[h,hi]
   ·rw[BitVec.getLsbD_of_ge (bv p) i (by omega)];simp[h]
theorem Ahz (p:Int)(f:Nat)(on:Bool):U32 (Kc p f on):=by
 unfold Kc;split
 ·rw[Jf];exact Ac1 _
 ·rw[Dx];exact Ac1 _
theorem Ah0 (s f set:Int):Ff s f set=toI (bv (Ff s f set)):=by
 have:Ff s f set=toI ((bv (bits .andNot .u32 s set)) ||| (bv (bits .and .u32 f set))):=Jf _ _
 rw[this,Ama]
theorem Xc (s f set:Int)(i:Nat):(bv (Ff s f set)).getLsbD i=if(bv set).getLsbD i then(bv f).getLsbD i else(bv s).getLsbD i:=by
 rw[Aci,BitVec.getLsbD_or,BitVec.getLsbD_and,BitVec.getLsbD_and,BitVec.getLsbD_not];by_cases hi:i<32
 ·cases(bv set).getLsbD i<;>simp[hi]
 ·rw[BitVec.getLsbD_of_ge (bv s) i (by omega),BitVec.getLsbD_of_ge (bv f) i (by omega)];simp
def L0 (s t:Int)(set:Int)(f:Nat)(x:Int):Prop:=U32 x∧∀i,(bv x).getLsbD i=if i<f then(bv (Ff s t set)).getLsbD i else(bv s).getLsbD i
theorem L0.start {s t set:Int}(h:U32 s):L0 s t set 0 s:=⟨h,fun i=>by rw[if_neg (by omega)]⟩
theorem L0.done {s t set x:Int}(h:L0 s t set 24 x)(hs:∀i,24<=i->(bv set).getLsbD i=false):x=Ff s t set:=by
 rw[Ah0,←Qm h.1];congr 1;refine BitVec.eq_of_getLsbD_eq fun i hi=> ?_
 rw[h.2 i];by_cases h24:i<24
 ·rw[if_pos h24]
 ·rw[if_neg h24,Xc,hs i (by omega),if_neg (by decide)]
theorem L0.put {s t set x:Int}{f:Nat}(h:L0 s t set f x)(hf:f<32){on:Bool}(hs:(bv set).getLsbD f=true)(ho:(bv t).getLsbD f=on):L0 s t set (f+1) (Kc x f on):=by
 refine⟨Ahz _ _ _,fun i=> ?_⟩
 rw[Ahy x f hf on i];by_cases h1:i=f
 ·subst h1;rw[if_pos rfl,if_pos (by omega),Xc,hs,if_pos rfl,ho]
 ·rw[if_neg h1,h.2 i];by_cases h2:i<f
  ·rw[if_pos h2,if_pos (by omega)]
  ·rw[if_neg h2,if_neg (by omega)]
theorem L0.skip {s t set x:Int}{f:Nat}(h:L0 s t set f x)(hs:(bv set).getLsbD f=false):L0 s t set (f+1) x:=by
 refine⟨h.1,fun i=> ?_⟩
 rw[h.2 i];by_cases h1:i=f
 ·subst h1;rw[if_neg (by omega),if_pos (by omega),Xc,hs,if_neg (by decide)]
 ·by_cases h2:i<f
  ·rw[if_pos h2,if_pos (by omega)]
  ·rw[if_neg h2,if_neg (by omega)]
theorem Zl {p m:Int}{f:Nat}:(E9 p m f==1)=(bv p).getLsbD f:=by
 unfold E9;cases(bv p).getLsbD f<;>cases(bv m).getLsbD f<;>rfl
theorem Vp {p m:Int}{f:Nat}(hv:Bx p m=true):(E9 p m f== -1)=(bv m).getLsbD f:=by
 have o:=((Dc p m).1 hv f).1
 revert o
 unfold E9;cases(bv p).getLsbD f<;>cases(bv m).getLsbD f<;>simp
theorem Tb {p m:Int}{f:Nat}:(E9 p m f=0)↔(bv p).getLsbD f=false/\(bv m).getLsbD f=false:=by
 unfold E9;cases(bv p).getLsbD f<;>cases(bv m).getLsbD f<;>simp
theorem Zm:(Tryz.prog.info? 49).map (·.size)=some 2:=by kernel_rfl
theorem Xd {w:World}{b:Nat}{x y:Int}{t:TypeId}{fr:Nat×Nat}(h:w.heap[b]? =some (.cells #[.int .u32 x, .int .u32 y] t fr)):(loadVar 49 ⟨b,0,none⟩).run Tryz.prog w= .ok (C7 x y) w:=
 run_loadVar_row w b t 49 #[.int .u32 x, .int .u32 y] fr _ h Tryz.underlying49 rfl Zm
theorem Lp {o:Oper}{a:Act}{w:World}{K:Act->World->Prop}{Q:Exit->Act->World->Prop}(x y:Operand)(ho:o.op= .store 49 x y)
  (b:Nat) (p m:Int) (hx:a.eval x= .pointer (some ⟨b,0,none⟩)) (hy:a.eval y=C7 p m) {p0 m0:Value} {t:TypeId} (hr:w.heap[b]? =some (.cells #[p0,m0] t (0,0)))
  (h:∀W,W.heap[b]? =some (.cells #[.int .u32 p, .int .u32 m] t (0,0))->Ba (fun k=>k=b) w W->W.heap.size=w.heap.size->K (a.put o.dst undef) W):o.wp Tryz.prog a w K Q:=
 wp_store_row 49 x y ho b #[.int .u32 p, .int .u32 m] hx hy t _ hr Zm rfl (by simp[Value.oneCell'])
  (h _ (setRow_heap w b _ _ t _ hr) ⟨rfl,rfl,rfl,by simp[World.setRow],fun k _ hk=>setRow_other w b k _ hk⟩ (by simp[World.setRow]))
theorem Hm {ops:Array Oper}{rest:List Oper}{o:Oper}{a:Act}{w:World}{Q:Exit->Act->World->Prop}(hgd:o.guard=none)(x y:Operand)(ho:o.op= .store 49 x y)
  (b:Nat) (p m:Int) (hx:a.eval x= .pointer (some ⟨b,0,none⟩)) (hy:a.eval y=C7 p m) {p0 m0:Value} {t:TypeId} (hr:w.heap[b]? =some (.cells #[p0,m0] t (0,0)))
  (h:∀W,W.heap[b]? =some (.cells #[.int .u32 p, .int .u32 m] t (0,0))->Ba (fun k=>k=b) w W->W.heap.size=w.heap.size->wpList Tryz.prog ops Q rest (a.put o.dst undef) W):wpList Tryz.prog ops Q (o::rest) a w:=
 wpList_plain hgd fun _ hK=>Lp x y ho b p m hx hy hr fun W h1 h2 h3=>hK _ _ (h W h1 h2 h3)
theorem Lw {fn:Func}{p q:Tmp}(h:fn.results= #[.cell p 49, .tmp q])(tmps:Array Value)(w:World)(b:Nat)(x y:Int)(v:Value){t:TypeId}{fr:Nat×Nat}(hp:tmps.getD p undef= .pointer (some ⟨b,0,none⟩))(hq:tmps.getD q undef=v)(hr:w.heap[b]? =some (.cells #[.int .u32 x, .int .u32 y] t fr)):
  (results fn tmps).run Tryz.prog w= .ok (.tuple #[C7 x y,v]) w:=by
 have a0:tmps[p]?.getD undef= .pointer (some ⟨b,0,none⟩):=by simpa using hp
 have a1:tmps[q]?.getD undef=v:=by simpa using hq
 have hl:=Xd hr;simp[results,h,a0,a1,asAddr,hl]
theorem Ah1 (p m p' m' mask:Int)(w:World)(hp:U32 p)(hm:U32 m)(hp':U32 p')(hm':U32 m')(hk:U32 mask)(h1:Bx p m=true)(h2:Bx p' m'=true)(h3:mask<=16777215):
  Calls Tryz.prog 214 #[C7 p m,C7 p' m', .int .u32 mask] w (Wo w (Gv (p,m) (p',m') mask)):=by
 have b8:decide (16777215<mask)=false:=by simpa using h3
 have HR:Hid (Gv (p,m) (p',m') mask=(Ff p p' mask,Ff m m' mask)):=by show _=_;unfold Gv;simp[h1,h2,h3]
 have b0:Hid (∀i,24<=i->(bv mask).getLsbD i=false):=by
  refine(P3 (bv mask)).1 ?_
  have:=Qm hk
  unfold toI at this;omega
 have HP:=hI hp;clear hp;have HM:=hI hm;clear hm;have d6:=hI hp';clear hp';have d4:=hI hm';clear hm';have HK:=hI hk;clear hk;have H1:=hI h1;clear h1;have H2:=hI h2;clear h2;clear h3;go_enter Tryz.func214,Tryz.ntmps214;go_wp2_with fail;have k0:(((w.alloc (.cells #[.int .u32 p, .int .u32 m] 49)).alloc (.cells #[.int .u32 p', .int .u32 m'] 49)).alloc (.cells #[.int .u32 0, .int .u32 0] 49)).heap[w.heap.size]? =some (.cells #[.int .u32 p, .int .u32 m] 49 (0,0)):=hpt;have k1:(((w.alloc (.cells #[.int .u32 p, .int .u32 m] 49)).alloc (.cells #[.int .u32 p', .int .u32 m'] 49)).alloc (.cells #[.int .u32 0, .int .u32 0] 49)).heap[w.heap.size+1]? =some (.cells #[.int .u32 p', .int .u32 m'] 49 (0,0)):=hpt;have k2:(((w.alloc (.cells #[.int .u32 p, .int .u32 m] 49)).alloc (.cells #[.int .u32 p', .int .u32 m'] 49)).alloc (.cells #[.int .u32 0, .int .u32 0] 49)).heap[w.heap.size+1+1]? =some (.cells #[.int .u32 0, .int .u32 0] 49 (0,0)):=hpt;have kB:Below w.heap.size w (((w.alloc (.cells #[.int .u32 p, .int .u32 m] 49)).alloc (.cells #[.int .u32 p', .int .u32 m'] 49)).alloc (.cells #[.int .u32 0, .int .u32 0] 49)):=bel;generalize(((w.alloc (.cells #[.int .u32 p, .int .u32 m] 49)).alloc (.cells #[.int .u32 p', .int .u32 m'] 49)).alloc (.cells #[.int .u32 0, .int .u32 0] 49))=V0 at*;refine(Fz p m _ HP.out HM.out).mono ?_;rintro e w1 ⟨rfl,b1⟩;rw[H1.out];have k0':=(b1.block _ (lt_of_block k0)).trans k0;have k1':=(b1.block _ (lt_of_block k1)).trans k1;have k2':=(b1.block _ (lt_of_block k2)).trans k2;have kB':=kB.trans (b1.mono kB.size);have d0:=Ad (j:=0) (v:= .int .u32 p') k1' rfl;have d1:=Ad (j:=1) (v:= .int .u32 m') k1' rfl;clear b1 k0 k1 k2 kB;have K0:=hI k0';have K1:=hI k1';have K2:=hI k2';have KB:=hI kB';clear k0' k1' k2' kB';go_wp2_with fail;refine(Fz p' m' _ d6.out d4.out).mono ?_;rintro e w2 ⟨rfl,a9⟩;rw[H2.out];have k0':=(a9.block _ (lt_of_block K0.out)).trans K0.out;have k1':=(a9.block _ (lt_of_block K1.out)).trans K1.out;have k2':=(a9.block _ (lt_of_block K2.out)).trans K2.out;have kB':=KB.out.trans (a9.mono KB.out.size);have c0:=Ad (j:=0) (v:= .int .u32 p) k0' rfl;have c1:=Ad (j:=1) (v:= .int .u32 m) k0' rfl;clear a9 d0 d1;have K0:=hI k0';have K1:=hI k1';have K2:=hI k2';have KB:=hI kB';have l1:=lt_of_block k1';have l2:=lt_of_block k2';clear k0' k1' k2' kB';go_wp2;have k3:(w2.alloc (.cells #[.int .u32 p, .int .u32 m] 49)).heap[w2.heap.size]? =some (.cells #[.int .u32 p, .int .u32 m] 49 (0,0)):=Am rfl;have b5:Below w2.heap.size w2 (w2.alloc (.cells #[.int .u32 p, .int .u32 m] 49)):=bel;have k1':=(b5.block _ (lt_of_block K1.out)).trans K1.out;have k2':=(b5.block _ (lt_of_block K2.out)).trans K2.out;have kB':=KB.out.trans (b5.mono KB.out.size);have hsz:=KB.out.size;generalize(w2.alloc (.cells #[.int .u32 p, .int .u32 m] 49))=V3 at*;obtain⟨b3,b9⟩:∃b3,b3=w2.heap.size:=⟨_,rfl⟩;rw[←b9]at k3 ⊢;have lb3:w.heap.size+1+1<b3:=by omega
 clear b9 b5 c0 c1;have L3:=lt_of_block k3;have K3:=hI k3;clear k3;have K1:=hI k1';have K2:=hI k2';have KB:=hI kB';clear k1' k2' kB' K0
 go_loopw [9] (fun i wr=>∃(f:Nat) (x y:Int),f<=24/\i= .int .i64 f/\Hid (wr.heap[b3]? =some (.cells #[.int .u32 x, .int .u32 y] 49 (0,0)))/\Hid (L0 p p' mask f x)/\Hid (L0 m m' mask f y)/\Hid (Ba (fun k=>k=b3) V3 wr)) (fun i _=>24-(intOf i).toNat)
 case atStart=>exact⟨0,p,m,by omega,rfl,K3.out,L0.start HP.out,L0.start HM.out,Ba.refl _ _⟩
 case round=>
  obtain⟨f,x,y,hf,rfl,h3,hx,hy,hK⟩:=hrel;by_cases hlt:f<24
  ·have d9:(f:Int)<24:=by omega
   have f2:=Mv HK.out f (by omega);obtain⟨d,hd⟩:∃d,d=(bv mask).getLsbD f:=⟨_,rfl⟩;rw[←hd]at f2;cases d
   ·have a3:=hx.out.skip hd.symm;have a2:=hy.out.skip hd.symm;have b4:=hI a3;have b2:=hI a2;clear a3 a2 hd;go_wp2
    go_roundw
    case rel=>exact⟨f+1,x,y,by omega,by go_num,h3,b4,b2,hK⟩
    case measure=>simp[intOf];omega
   ·have b6:=(hK.out.block _ (lt_of_block K1.out) (by omega)).trans K1.out;have a0:=Ad (j:=0) (v:= .int .u32 p') b6 rfl;have a1:=Ad (j:=1) (v:= .int .u32 m') b6 rfl;have e0:=Ad (j:=0) (v:= .int .u32 x) h3.out rfl;have e1:=Ad (j:=1) (v:= .int .u32 y) h3.out rfl;have l3:=lt_of_block h3.out;have a3:=hx.out.put (by omega) hd.symm Zl.symm (f:=f) (t:=p') (on:=E9 p' m' f==1);have a2:=hy.out.put (by omega) hd.symm (Vp H2.out).symm (f:=f) (t:=m') (on:=E9 p' m' f== -1);have b4:=hI a3;have b2:=hI a2;have L1:=lt_of_block b6;have f3:=h3;clear a3 a2 hd b6 hx hy h3;go_wp2;refine Bg (fun W'=>W'.cell? ⟨b3,0,none⟩=some (.int .u32 x)/\W'.cell? ⟨b3,1,none⟩=some (.int .u32 y)/\W'.cell? ⟨w.heap.size+1,0,none⟩=some (.int .u32 p')/\W'.cell? ⟨w.heap.size+1,1,none⟩=some (.int .u32 m')) (by kernel_rfl) ⟨e0,e1,a0,a1⟩ (fun hHeld=> ?_)
    (refine' Ae 0 rfl ?_;(try simp only[Act.put,nY,nX]));(refine' Ae 1 rfl ?_;(try simp only[Act.put,nY,nX]));(refine' Ae 2 rfl ?_;(try simp only[Act.put,nY,nX]));(refine' Ae 3 rfl ?_;(try simp only[Act.put,nY,nX]))
    (refine Anv 4 rfl (fun K' hK'=> ?_);simp only[nY];go_simp)
    refine(Mw p' m' f _ d6.out d4.out H2.out hlt).mono ?_;rintro e w4 ⟨rfl,a8⟩;have a6:Below wr.heap.size wr w4:=(Below.refl wr.heap.size wr).drew.trans a8
    have a7:w4.cell? ⟨b3,0,none⟩=some (.int .u32 x)/\w4.cell? ⟨b3,1,none⟩=some (.int .u32 y)/\w4.cell? ⟨w.heap.size+1,0,none⟩=some (.int .u32 p')/\w4.cell? ⟨w.heap.size+1,1,none⟩=some (.int .u32 m'):=
     ⟨(a6.cell (p:=⟨b3,0,none⟩) l3).trans e0,(a6.cell (p:=⟨b3,1,none⟩) l3).trans e1,(a6.cell (p:=⟨w.heap.size+1,0,none⟩) L1).trans a0,(a6.cell (p:=⟨w.heap.size+1,1,none⟩) L1).trans a1⟩
    refine hK' _ _ ⟨.inr a7,fun _=> ?_⟩
    clear hK' K' a8 hHeld e0 e1 a0 a1
    (try simp only[Act.put,nY,nX])
    (refine Anv 5 rfl (fun K' hK'=> ?_);simp only[nY];go_simp)
    refine(Xb x y f _ w4 hlt).mono ?_;rintro e w5 ⟨rfl,a4⟩;have d5:=a6.size;have d8:=a4.size;have a5:Below wr.heap.size wr w5:=a6.trans (a4.mono d5)
    have d7:w5.cell? ⟨b3,0,none⟩=some (.int .u32 x)/\w5.cell? ⟨b3,1,none⟩=some (.int .u32 y)/\w5.cell? ⟨w.heap.size+1,0,none⟩=some (.int .u32 p')/\w5.cell? ⟨w.heap.size+1,1,none⟩=some (.int .u32 m'):=
     ⟨(a4.cell (p:=⟨b3,0,none⟩) (by show b3<_;omega)).trans a7.1,(a4.cell (p:=⟨b3,1,none⟩) (by show b3<_;omega)).trans a7.2.1,(a4.cell (p:=⟨w.heap.size+1,0,none⟩) (by show w.heap.size+1<_;omega)).trans a7.2.2.1,(a4.cell (p:=⟨w.heap.size+1,1,none⟩) (by show w.heap.size+1<_;omega)).trans a7.2.2.2⟩
    refine hK' _ _ ⟨.inr d7,fun _=> ?_⟩
    clear hK' K' a7 a6 a4 d5 d8;have b8:=(a5.block b3 l3).trans f3.out;have d3:Ba (fun k=>k=b3) V3 w5:=hK.out.below a5 rr
    (try simp only[Act.put,nY,nX])
    refine Anv 6 rfl (fun K' hK'=> ?_);rw[if_pos (by rfl)];refine Lp (.tmp 8) (.tmp 37) (by rfl) b3 (Kc x f (E9 p' m' f==1)) (Kc y f (E9 p' m' f== -1)) (by rfl) (by rfl) b8 ?_;intro W6 h6 b7 d2;have f0:=d3.trans b7;refine hK' _ _ ⟨.inl (by kernel_rfl),fun _=>Bf (by kernel_rfl) ?_ _⟩
    clear hK' K' d7 d2 b7 d3 a5 b8;have H6:=hI h6;clear h6;go_wp2
    go_roundw
    case rel=>exact⟨f+1,_,_,by omega,by go_num,H6.out,b4,b2,f0⟩
    case measure=>simp[intOf];omega
  ·obtain rfl:f=24:=by omega
   have a3:=hx.out.done b0.out;have a2:=hy.out.done b0.out;have f4:=(hK.out.block _ (lt_of_block K2.out) (by omega)).trans K2.out;have e0:=Ad (j:=0) (v:= .int .u32 x) h3.out rfl;have e1:=Ad (j:=1) (v:= .int .u32 y) h3.out rfl;have b4:=hI a3;have b2:=hI a2;clear a3 a2 hx hy;go_wp2_with(refine Hm rfl (.tmp 6) (.tmp 38) rfl (w.heap.size+1+1) x y rfl rfl f4 ?_;intro W6 h6 b7 d2);refine bodyPost_ret (Lw Tryz.results214 _ _ (w.heap.size+1+1) x y (.int .i64 0) rfl rfl h6) rfl ⟨0,by rw[HR.out,b4.out,b2.out], ?_⟩;exact(KB.out.trans (hK.out.to_below (fun k hk=>by have f1:k=b3:=hk;omega) KB.out.size)).trans (b7.to_below (fun k hk=>by have f1:k=w.heap.size+1+1:=hk;omega) (by have:=hK.out.size;have:=KB.out.size;omega))
theorem Ah2 {p' m' clear:Int}(f:Nat):(bv (bits .or .u32 clear (bits .or .u32 p' m'))).getLsbD f=((bv clear).getLsbD f||((bv p').getLsbD f||(bv m').getLsbD f)):=by
 rw[Jf,Fu,Jf,Fu,BitVec.getLsbD_or,BitVec.getLsbD_or]
theorem Ad8 {p' m' clear:Int}(h:bits .and .u32 clear (bits .or .u32 p' m')=0)(f:Nat)(hc:(bv clear).getLsbD f=true):(bv p').getLsbD f=false/\(bv m').getLsbD f=false:=by
 rw[Kr,Jf,Fu,Es]at h;have h1:=h f;rw[BitVec.getLsbD_and,BitVec.getLsbD_or,hc]at h1;simpa using h1
theorem Abq (p m clear p' m':Int)(w:World)(hp:U32 p)(hm:U32 m)(hp':U32 p')(hm':U32 m')(hk:U32 clear)(h1:Bx p m=true)(h2:Bx p' m'=true)(h3:clear<=16777215)(h4:bits .and .u32 clear (bits .or .u32 p' m')=0):
  Calls Tryz.prog 213 #[C7 p m, .int .u32 clear,C7 p' m'] w (Wo w (Dp (p,m) clear (p',m'))):=by
 obtain⟨S,hS⟩:∃S,S=bits .or .u32 clear (bits .or .u32 p' m'):=⟨_,rfl⟩;have HR:Hid (Dp (p,m) clear (p',m')=(Ff p p' S,Ff m m' S)):=by show _=_;unfold Dp Jq;simp[h1,h2,h3,h4,hS]
 have d3:Hid (∀f,(bv S).getLsbD f=((bv clear).getLsbD f||((bv p').getLsbD f||(bv m').getLsbD f))):=by show∀f,_=_;intro f;rw[hS];exact Ah2 f
 have i2:Hid (∀f,(bv clear).getLsbD f=true->(bv p').getLsbD f=false/\(bv m').getLsbD f=false):=Ad8 h4
 have b7:Hid (∀i,24<=i->(bv S).getLsbD i=false):=by
  intro i hi
  have e1:(bv clear).getLsbD i=false:=by
   refine(P3 (bv clear)).1 ?_ i hi
   have:=Qm hk
   unfold toI at this;omega
  have e2:=((Dc p' m').1 h2 i).2 hi;rw[d3.out,e1,e2.1,e2.2];rfl
 have f6:decide (16777215<clear)=false:=by simpa using h3
 have i0:(bits .and .u32 clear (bits .or .u32 p' m') !=0)=false:=by simpa using h4
 clear hS h4;have HP:=hI hp;clear hp;have HM:=hI hm;clear hm;have f0:=hI hp';clear hp';have d7:=hI hm';clear hm';have HK:=hI hk;clear hk;have H1:=hI h1;clear h1;have H2:=hI h2;clear h2;clear h3;go_enter Tryz.func213,Tryz.ntmps213;go_wp2_with fail;have k0:(((w.alloc (.cells #[.int .u32 p, .int .u32 m] 49)).alloc (.cells #[.int .u32 p', .int .u32 m'] 49)).alloc (.cells #[.int .u32 0, .int .u32 0] 49)).heap[w.heap.size]? =some (.cells #[.int .u32 p, .int .u32 m] 49 (0,0)):=hpt;have k1:(((w.alloc (.cells #[.int .u32 p, .int .u32 m] 49)).alloc (.cells #[.int .u32 p', .int .u32 m'] 49)).alloc (.cells #[.int .u32 0, .int .u32 0] 49)).heap[w.heap.size+1]? =some (.cells #[.int .u32 p', .int .u32 m'] 49 (0,0)):=hpt;have k2:(((w.alloc (.cells #[.int .u32 p, .int .u32 m] 49)).alloc (.cells #[.int .u32 p', .int .u32 m'] 49)).alloc (.cells #[.int .u32 0, .int .u32 0] 49)).heap[w.heap.size+1+1]? =some (.cells #[.int .u32 0, .int .u32 0] 49 (0,0)):=hpt;have kB:Below w.heap.size w (((w.alloc (.cells #[.int .u32 p, .int .u32 m] 49)).alloc (.cells #[.int .u32 p', .int .u32 m'] 49)).alloc (.cells #[.int .u32 0, .int .u32 0] 49)):=bel;generalize(((w.alloc (.cells #[.int .u32 p, .int .u32 m] 49)).alloc (.cells #[.int .u32 p', .int .u32 m'] 49)).alloc (.cells #[.int .u32 0, .int .u32 0] 49))=V0 at*;refine(Fz p m _ HP.out HM.out).mono ?_;rintro e w1 ⟨rfl,d4⟩;rw[H1.out];have k0':=(d4.block _ (lt_of_block k0)).trans k0;have k1':=(d4.block _ (lt_of_block k1)).trans k1;have k2':=(d4.block _ (lt_of_block k2)).trans k2;have kB':=kB.trans (d4.mono kB.size);have d0:=Ad (j:=0) (v:= .int .u32 p') k1' rfl;have d1:=Ad (j:=1) (v:= .int .u32 m') k1' rfl;clear d4 k0 k1 k2 kB;have K0:=hI k0';have K1:=hI k1';have K2:=hI k2';have KB:=hI kB';clear k0' k1' k2' kB';go_wp2_with fail;refine(Fz p' m' _ f0.out d7.out).mono ?_;rintro e w2 ⟨rfl,d2⟩;rw[H2.out];have k0':=(d2.block _ (lt_of_block K0.out)).trans K0.out;have k1':=(d2.block _ (lt_of_block K1.out)).trans K1.out;have k2':=(d2.block _ (lt_of_block K2.out)).trans K2.out;have kB':=KB.out.trans (d2.mono KB.out.size);have c0:=Ad (j:=0) (v:= .int .u32 p) k0' rfl;have c1:=Ad (j:=1) (v:= .int .u32 m) k0' rfl;have c2:=Ad (j:=0) (v:= .int .u32 p') k1' rfl;have c3:=Ad (j:=1) (v:= .int .u32 m') k1' rfl;clear d2 d0 d1;have K0:=hI k0';have K1:=hI k1';have K2:=hI k2';have KB:=hI kB';have l1:=lt_of_block k1';have l2:=lt_of_block k2';clear k0' k1' k2' kB';go_wp2;have k3:(w2.alloc (.cells #[.int .u32 p, .int .u32 m] 49)).heap[w2.heap.size]? =some (.cells #[.int .u32 p, .int .u32 m] 49 (0,0)):=Am rfl;have f1:Below w2.heap.size w2 (w2.alloc (.cells #[.int .u32 p, .int .u32 m] 49)):=bel;have k1':=(f1.block _ (lt_of_block K1.out)).trans K1.out;have k2':=(f1.block _ (lt_of_block K2.out)).trans K2.out;have kB':=KB.out.trans (f1.mono KB.out.size);have hsz:=KB.out.size;generalize(w2.alloc (.cells #[.int .u32 p, .int .u32 m] 49))=V3 at*;obtain⟨b3,g1⟩:∃b3,b3=w2.heap.size:=⟨_,rfl⟩;rw[←g1]at k3 ⊢;have lb3:w.heap.size+1+1<b3:=by omega
 clear g1 f1 c0 c1 c2 c3 i0;have L3:=lt_of_block k3;have K3:=hI k3;clear k3;have K1:=hI k1';have K2:=hI k2';have KB:=hI kB';clear k1' k2' kB' K0
 go_loopw [9] (fun i wr=>∃(f:Nat) (x y:Int),f<=24/\i= .int .i64 f/\Hid (wr.heap[b3]? =some (.cells #[.int .u32 x, .int .u32 y] 49 (0,0)))/\Hid (L0 p p' S f x)/\Hid (L0 m m' S f y)/\Hid (Ba (fun k=>k=b3) V3 wr)) (fun i _=>24-(intOf i).toNat)
 case atStart=>exact⟨0,p,m,by omega,rfl,K3.out,L0.start HP.out,L0.start HM.out,Ba.refl _ _⟩
 case round=>
  obtain⟨f,x,y,hf,rfl,h3,hx,hy,hK⟩:=hrel;by_cases hlt:f<24
  ·have i4:(f:Int)<24:=by omega
   have g5:=Mv HK.out f (by omega);obtain⟨d,hd⟩:∃d,d=(bv clear).getLsbD f:=⟨_,rfl⟩;rw[←hd]at g5;have a4:=d3.out f;have b9:=(hK.out.block _ (lt_of_block K1.out) (by omega)).trans K1.out;have a0:=Ad (j:=0) (v:= .int .u32 p') b9 rfl;have a1:=Ad (j:=1) (v:= .int .u32 m') b9 rfl;have e0:=Ad (j:=0) (v:= .int .u32 x) h3.out rfl;have e1:=Ad (j:=1) (v:= .int .u32 y) h3.out rfl;have l3:=lt_of_block h3.out;have L1:=lt_of_block b9;have i3:=hI b9;clear b9;cases d
   ·-- nothing is cleared
    rw[←hd,Bool.false_or]at a4;have f7:=hI a4;clear a4 hd;go_wp2_with fail;refine(Mw p' m' f wr f0.out d7.out H2.out hlt).mono ?_;rintro e wg ⟨rfl,a2⟩;have b6:Ba (fun k=>k=b3) V3 wg:=hK.out.below a2 rr;have i8:=a2.size;have d9:=(a2.cell (p:=⟨b3,0,none⟩) l3).trans e0;have f2:=(a2.cell (p:=⟨b3,1,none⟩) l3).trans e1;have a0':=(a2.cell (p:=⟨w.heap.size+1,0,none⟩) L1).trans a0;have a1':=(a2.cell (p:=⟨w.heap.size+1,1,none⟩) L1).trans a1;have b2:=(a2.block b3 l3).trans h3.out;clear a2 e0 e1 a0 a1;obtain⟨g,hg⟩:∃g,g=E9 p' m' f:=⟨_,rfl⟩;rw[←hg];by_cases a6:g=0
    ·have hn:=Tb.1 (hg.symm.trans a6);have a5:=hx.out.skip (by rw[f7.out,hn.1,hn.2];rfl);have a3:=hy.out.skip (by rw[f7.out,hn.1,hn.2];rfl);have a9:=hI a5;have a8:=hI a3;have g9:=hI b6;have g3:=hI b2;clear a5 a3 hn hg b6 b2 hx hy hK h3 d9 f2 a0' a1';subst a6;go_wp2
     go_roundw
     case rel=>exact⟨f+1,x,y,by omega,by go_num,g3,a9,a8,g9⟩
     case measure=>simp[intOf];omega
    ·have f5:(bv S).getLsbD f=true:=by
      rw[f7.out];cases hp1:(bv p').getLsbD f
      ·cases hm1:(bv m').getLsbD f
       ·exact absurd (hg.trans (Tb.2 ⟨hp1,hm1⟩)) a6
       ·rfl
      ·rfl
     have a5:=hx.out.put (by omega) f5 Zl.symm (f:=f) (t:=p') (on:=E9 p' m' f==1);have a3:=hy.out.put (by omega) f5 (Vp H2.out).symm (f:=f) (t:=m') (on:=E9 p' m' f== -1);have a9:=hI a5;have a8:=hI a3;have i7:(g !=0)=true:=by simpa using a6
     have l3g:b3<wg.heap.size:=by omega
     have L1g:w.heap.size+1<wg.heap.size:=by omega
     have g7:=hI b2;clear a5 a3 f5 hg a6 hx hy h3 b2 hK;go_wp2;refine Bg (fun W'=>W'.cell? ⟨b3,0,none⟩=some (.int .u32 x)/\W'.cell? ⟨b3,1,none⟩=some (.int .u32 y)/\W'.cell? ⟨w.heap.size+1,0,none⟩=some (.int .u32 p')/\W'.cell? ⟨w.heap.size+1,1,none⟩=some (.int .u32 m')) (by kernel_rfl) ⟨d9,f2,a0',a1'⟩ (fun hHeld=> ?_)
     (refine' Ae 0 rfl ?_;(try simp only[Act.put,nY,nX]));(refine' Ae 1 rfl ?_;(try simp only[Act.put,nY,nX]));(refine' Ae 2 rfl ?_;(try simp only[Act.put,nY,nX]));(refine' Ae 3 rfl ?_;(try simp only[Act.put,nY,nX]))
     (refine Anv 4 rfl (fun K' hK'=> ?_);simp only[nY];go_simp)
     refine(Mw p' m' f _ f0.out d7.out H2.out hlt).mono ?_;rintro e w4 ⟨rfl,b8⟩;have b4:Below wg.heap.size wg w4:=(Below.refl wg.heap.size wg).drew.trans b8
     have b5:w4.cell? ⟨b3,0,none⟩=some (.int .u32 x)/\w4.cell? ⟨b3,1,none⟩=some (.int .u32 y)/\w4.cell? ⟨w.heap.size+1,0,none⟩=some (.int .u32 p')/\w4.cell? ⟨w.heap.size+1,1,none⟩=some (.int .u32 m'):=
      ⟨(b4.cell (p:=⟨b3,0,none⟩) l3g).trans d9,(b4.cell (p:=⟨b3,1,none⟩) l3g).trans f2,(b4.cell (p:=⟨w.heap.size+1,0,none⟩) L1g).trans a0',(b4.cell (p:=⟨w.heap.size+1,1,none⟩) L1g).trans a1'⟩
     refine hK' _ _ ⟨.inr b5,fun _=> ?_⟩
     clear hK' K' b8 hHeld d9 f2 a0' a1'
     (try simp only[Act.put,nY,nX])
     (refine Anv 5 rfl (fun K' hK'=> ?_);simp only[nY];go_simp)
     refine(Xb x y f _ w4 hlt).mono ?_;rintro e w5 ⟨rfl,b1⟩;have g2:=b4.size;have g6:=b1.size;have b0:Below wg.heap.size wg w5:=b4.trans (b1.mono g2)
     have f9:w5.cell? ⟨b3,0,none⟩=some (.int .u32 x)/\w5.cell? ⟨b3,1,none⟩=some (.int .u32 y)/\w5.cell? ⟨w.heap.size+1,0,none⟩=some (.int .u32 p')/\w5.cell? ⟨w.heap.size+1,1,none⟩=some (.int .u32 m'):=
      ⟨(b1.cell (p:=⟨b3,0,none⟩) (by show b3<_;omega)).trans b5.1,(b1.cell (p:=⟨b3,1,none⟩) (by show b3<_;omega)).trans b5.2.1,(b1.cell (p:=⟨w.heap.size+1,0,none⟩) (by show w.heap.size+1<_;omega)).trans b5.2.2.1,(b1.cell (p:=⟨w.heap.size+1,1,none⟩) (by show w.heap.size+1<_;omega)).trans b5.2.2.2⟩
     refine hK' _ _ ⟨.inr f9,fun _=> ?_⟩
     clear hK' K' b5 b4 b1 g2 g6;have f6:=(b0.block b3 l3g).trans g7.out;have g0:Ba (fun k=>k=b3) V3 w5:=b6.below b0 rr
     (try simp only[Act.put,nY,nX])
     refine Anv 6 rfl (fun K' hK'=> ?_);rw[if_pos (by rfl)];refine Lp (.tmp 8) (.tmp 54) (by rfl) b3 (Kc x f (E9 p' m' f==1)) (Kc y f (E9 p' m' f== -1)) (by rfl) (by rfl) f6 ?_;intro W6 h6 a7 d5;have d6:=g0.trans a7;refine hK' _ _ ⟨.inl (by kernel_rfl),fun _=>Bf (by kernel_rfl) ?_ _⟩
     clear hK' K' f9 d5 a7 g0 b0 f6;have H6:=hI h6;clear h6;go_wp2
     go_roundw
     case rel=>exact⟨f+1,_,_,by omega,by go_num,H6.out,a9,a8,d6⟩
     case measure=>simp[intOf];omega
   ·-- the bit is cleared
    have d8:=i2.out f hd.symm;have hS:(bv S).getLsbD f=true:=by rw[a4,←hd];rfl
    have a5:=hx.out.put (by omega) hS d8.1 (f:=f) (t:=p') (on:=false);have a3:=hy.out.put (by omega) hS d8.2 (f:=f) (t:=m') (on:=false);have a9:=hI a5;have a8:=hI a3;have a6:E9 p' m' f=0:=Tb.2 d8;have g8:=hI a6;clear a5 a3 hS d8 a4 hd a6 hx hy;go_wp2_with fail;refine(Xb x y f 0 wr hlt).mono ?_;rintro e wg ⟨rfl,a2⟩;have b6:Ba (fun k=>k=b3) V3 wg:=hK.out.below a2 rr;have b2:=(a2.block b3 l3).trans h3.out;have f4:=(a2.block (w.heap.size+1) L1).trans i3.out;have q1:((0:Int)==1)=false:=rfl;have q2:((0:Int)== -1)=false:=rfl;rw[q1,q2];clear a2 e0 e1 a0 a1 hK h3 q1 q2;go_wp2_with(refine Hm rfl (.tmp 8) (.tmp 44) rfl b3 (Kc x f false) (Kc y f false) rfl rfl b2 ?_;intro W6 h6 a7 d5;have f3:=(a7.block (w.heap.size+1) (lt_of_block f4) (by omega)).trans f4;have a0:=Ad (j:=0) (v:= .int .u32 p') f3 rfl;have a1:=Ad (j:=1) (v:= .int .u32 m') f3 rfl);have d6:=b6.trans a7;have H6:=hI h6;have i5:=hI d6;clear h6 a7 d5 d6 b6 b2 f4 f3;refine(Mw p' m' f W6 f0.out d7.out H2.out hlt).mono ?_;rintro e W7 ⟨rfl,f8⟩;rw[g8.out];have H7:=hI ((f8.block b3 (lt_of_block H6.out)).trans H6.out);have i1:=hI (i5.out.below f8 rr);clear f8 a0 a1;go_wp2
    go_roundw
    case rel=>exact⟨f+1,_,_,by omega,by go_num,H7,a9,a8,i1⟩
    case measure=>simp[intOf];omega
  ·obtain rfl:f=24:=by omega
   have a5:=hx.out.done b7.out;have a3:=hy.out.done b7.out;have i6:=(hK.out.block _ (lt_of_block K2.out) (by omega)).trans K2.out;have e0:=Ad (j:=0) (v:= .int .u32 x) h3.out rfl;have e1:=Ad (j:=1) (v:= .int .u32 y) h3.out rfl;have a9:=hI a5;have a8:=hI a3;clear a5 a3 hx hy;go_wp2_with(refine Hm rfl (.tmp 6) (.tmp 55) rfl (w.heap.size+1+1) x y rfl rfl i6 ?_;intro W6 h6 a7 d5);refine bodyPost_ret (Lw Tryz.results213 _ _ (w.heap.size+1+1) x y (.int .i64 0) rfl rfl h6) rfl ⟨0,by rw[HR.out,a9.out,a8.out], ?_⟩;exact(KB.out.trans (hK.out.to_below (fun k hk=>by have g4:k=b3:=hk;omega) KB.out.size)).trans (a7.to_below (fun k hk=>by have g4:k=w.heap.size+1+1:=hk;omega) (by have:=hK.out.size;have:=KB.out.size;omega))
def Tc (s:Snd):Prop:=U32 s.1/\U32 s.2
def Ck (ws:List Snd):Prop:=∀s∈ws,Tc s
theorem Xe {x:Int}(h:U32 x):(x<16777216)↔∀i,24<=i->(bv x).getLsbD i=false:=by
 rw[←P3]
 have:=Qm h
 unfold toI at this;omega
theorem Zn {p m:Int}(hp:U32 p)(hm:U32 m):Cg p m=(bits .and .u32 p m==0 && (decide (p<16777216) && decide (m<16777216))):=by
 rw[Bool.eq_iff_iff,Ny,Bool.and_eq_true,Bool.and_eq_true,beq_iff_eq,decide_eq_true_eq,decide_eq_true_eq,Xe hp,Xe hm,Kr,Es];simp only[BitVec.getLsbD_and];exact⟨fun h=>⟨fun i=>(h i).1,fun i hi=>((h i).2 hi).1,fun i hi=>((h i).2 hi).2⟩,fun h i=>⟨h.1 i,fun hi=>⟨h.2.1 i hi,h.2.2 i hi⟩⟩⟩
theorem F0 (p m:Int)(w:World)(hp:U32 p)(hm:U32 m):
  Calls Tryz.prog 124 #[C7 p m] w fun e w'=>e= .returned (.bool (Cg p m))/\Below w.heap.size w w':=by
 have H:=hI (Zn hp hm);clear hp hm;obtain⟨d1,a2⟩:∃d1,(bits .and .u32 p m==0)=d1:=⟨_,rfl⟩;obtain⟨d2,a1⟩:∃d2,decide (p<16777216)=d2:=⟨_,rfl⟩;obtain⟨d3,a0⟩:∃d3,decide (m<16777216)=d3:=⟨_,rfl⟩;have H1:Hid (Cg p m=(d1 && (d2 && d3))):=by show _=_;rw[H.out,a2,a1,a0]
 clear H;cases d1
 ·clear a1 a0;go_enter Tryz.func124,Tryz.ntmps124;go_wp2;go_ret;exact⟨by rw[H1.out];rfl,bel⟩
 ·cases d2
  ·clear a0;go_enter Tryz.func124,Tryz.ntmps124;go_wp2;go_ret;exact⟨by rw[H1.out];rfl,bel⟩
  ·go_enter Tryz.func124,Tryz.ntmps124;go_wp2;go_ret;exact⟨by rw[H1.out];rfl,bel⟩
theorem Mx (A:Option Addr)(n c:Nat)(xs:List Snd)(w:World)(hx:Ak w A n c xs)(hu:Ck xs):
  Calls Tryz.prog 85 #[.slice A n c] w fun e w'=>e= .returned (.int .i64 (B4 xs))/\Below w.heap.size w w':=by
 by_cases h32:32<n
 ·have hv:B4 xs=11:=by unfold B4;rw[if_pos (by rw[hx.len];exact h32)]
  have H:=hI hv;clear hv hu;have HX:=hI hx;clear hx;go_enter Tryz.func85,Tryz.ntmps85;go_wp2;go_ret;exact⟨by rw[H.out];rfl,bel⟩
 ·have hv:B4 xs=if xs.all (fun s=>Cg s.1 s.2)then 0 else 14:=by unfold B4;rw[if_neg (by rw[hx.len];exact h32)]
  have H:=hI hv;clear hv;have HX:=hI hx;clear hx;have HU:=hI hu;clear hu;have hm:n<=32:=by omega
  go_enter Tryz.func85,Tryz.ntmps85;go_wp2
  go_loopw [3] (fun i wr=>∃k:Nat,k<=n/\i= .int .i64 k/\Hid ((xs.take k).all (fun s=>Cg s.1 s.2)=true)/\Below w.heap.size w wr) (fun i _=>n-(intOf i).toNat)
  case atStart=>exact⟨0,Nat.zero_le _,rfl,by simp[Hid],bel⟩
  case round=>
   obtain⟨k,hk,rfl,HA,hB⟩:=hrel;by_cases hlt:k<n
   ·obtain⟨b,off,p,m,rfl,hb,a0,a4,a6⟩:=(HX.out.below hB rr).at_ hlt;have a5:(k:Int)<(n:Int):=by omega
    have hu:=HU.out _ (List.mem_of_getElem? a0);have a1:=hI hu;clear hu;have HK:=hI a0;clear a0;have HS:=hI (Bd xs k (p,m) HK.out);go_wp2_with fail;refine(F0 p m wr a1.out.1 a1.out.2).mono ?_;rintro e w1 ⟨rfl,a3⟩;have a2:=hB.trans (a3.mono hB.size);clear a3 a4 a6;obtain⟨v,hv⟩:∃v,v=Cg p m:=⟨_,rfl⟩;rw[←hv];cases v
    ·have hf:xs.all (fun s=>Cg s.1 s.2)=false:=by
      rw[←List.take_append_drop (k+1) xs,HS.out];simp[←hv]
     have HF:=hI hf;clear hf hv;go_wp2;go_ret;exact⟨by rw[H.out,HF.out];rfl,a2⟩
    ·have HG:Hid ((xs.take (k+1)).all (fun s=>Cg s.1 s.2)=true):=by show _=_;rw[HS.out,List.all_append,HA.out];simp[←hv]
     clear hv;go_wp2
     go_roundw
     case rel=>exact⟨k+1,by omega,by go_num,HG,a2⟩
     case measure=>simp[intOf];omega
   ·obtain rfl:k=n:=by omega
    have hf:xs.all (fun s=>Cg s.1 s.2)=true:=by
     have:=HA.out;rwa[List.take_of_length_le (by rw[HX.out.len];exact rr)]at this
    have HF:=hI hf;clear hf;go_wp2;go_ret;exact⟨by rw[H.out,HF.out];rfl,hB⟩
theorem Ah3 (A:Option Addr)(n c:Nat)(xs:List Snd)(w:World)(hx:Ak w A n c xs)(hn:n<=4000):
  Calls Tryz.prog 161 #[.slice A n c] w (E8 w xs):=by
 have HX:=hI hx;clear hx;go_enter Tryz.func161,Tryz.ntmps161;go_wp2
 go_loopw [3,4] (fun v i wr=>∃k:Nat,k<=n/\i= .int .i64 k/\Hid (wr.ownsRow w.heap.size 49 2 v k (B6 (xs.take k)))/\Below w.heap.size w wr) (fun _ i _=>n-(intOf i).toNat)
 case atStart=>exact⟨0,Nat.zero_le _,rfl,World.ownsRow_nil _ _ _ _,Below.refl _ _⟩
 case round=>
  obtain⟨k,hk,rfl,a1,hB⟩:=hrel;have a6:=hB.size;by_cases hlt:k<n
  ·obtain⟨b,off,p,m,rfl,hb,a3,a8,a9⟩:=(HX.out.below hB rr).at_ hlt;have a4:(k:Int)<(n:Int):=by omega
   have HS:=hI (Bd xs k (p,m) a3);clear a3;go_wp2_with(at_builtin;refine D1 rfl (.tmp 11) (.tmp 16) rfl w.heap.size u3 k (xs.take k) rfl (a1.out.alloc _) (some ⟨wr.heap.size,0,none⟩) 1 1 [(p,m)] rfl (Jz wr p m 49) (by omega) (by simp;omega) ?_;intro v' w9 a2 a7 _);have a5:Below w.heap.size w w9:=(hB.alloc a6 _).grown a7 (by simp;omega) (fun q hq=>(a1.out.lt _ hq).1)
   go_roundw
   case rel=>exact⟨k+1,by omega,by go_num,by show w9.ownsRow _ _ _ _ _ _;rw[HS.out];exact a2,a5⟩
   case measure=>simp[intOf];omega
  ·obtain rfl:k=n:=by omega
   have a0:=a1.out;rw[List.take_of_length_le (by rw[HX.out.len];exact rr)]at a0;go_wp2;go_ret;exact E8.of_own rfl a0 hB rr
end Go.Proofs.YtaglfmlgbcmakaaGreatDoor
