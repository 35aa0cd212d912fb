/-
  ablautref06: node, walk, Check.
  ablautref06: walk, Check.
  Relations as tables, in plain words: what the relation of a pattern has at a place.
  ablautref06: same, follow, join, equal, satisfies.
-/
import Derived.Test.YtaglfmlgbcmakaaGreatDoorG23
import Derived.Test.YtaglfmlgbcmakaaGreatDoorH06
set_option linter.all false
set_option maxRecDepth 100000
set_option maxHeartbeats 4000000
namespace Go.Proofs.YtaglfmlgbcmakaaGreatDoor
open Go.RowKit Go.Shelf
theorem Anh (isp ism:Int)(neg:Bool)(lo hi:Int)(A:Option Addr)(n c:Nat)(w:World)(hn:n<=9223372036854775807):
  Calls Tryz.prog 190 #[Fc ⟨0,isp,ism,neg,lo,hi⟩ A n c] w fun e w'=>e= .returned (.int .i64 (Af ⟨0,isp,ism,neg,lo,hi⟩ n))/\Below w.heap.size w w':=by
 by_cases hz1:isp=0
 case neg=>
  have a4:(isp==0)=false:=by simpa using hz1
  have a0:(isp !=0)=true:=by simpa using hz1
  clear hz1;have HF:Hid (Af ⟨0,isp,ism,neg,lo,hi⟩ n=2):=by show _=_;simp[Af, *];try omega
  go_enter Tryz.func190,Tryz.ntmps190;go_wp2;go_ret;exact⟨by rw[HF.out];rfl,bel⟩
 subst hz1;by_cases hz2:ism=0
 case neg=>
  have a4:(ism==0)=false:=by simpa using hz2
  have a0:(ism !=0)=true:=by simpa using hz2
  clear hz2;have HF:Hid (Af ⟨0,0,ism,neg,lo,hi⟩ n=2):=by show _=_;simp[Af, *];try omega
  go_enter Tryz.func190,Tryz.ntmps190;go_wp2;go_ret;exact⟨by rw[HF.out];rfl,bel⟩
 subst hz2;cases neg
 case true=>have HF:Hid (Af ⟨0,0,0,true,lo,hi⟩ n=2):=by show _=_;simp[Af, *];try omega
            go_enter Tryz.func190,Tryz.ntmps190;go_wp2;go_ret;exact⟨by rw[HF.out];rfl,bel⟩
 by_cases h0:0<n
 ·have HF:Hid (Af ⟨0,0,0,false,lo,hi⟩ n=2):=by show _=_;simp[Af, *];try omega
  go_enter Tryz.func190,Tryz.ntmps190;go_wp2;go_ret;exact⟨by rw[HF.out];rfl,bel⟩
 obtain rfl:n=0:=by omega
 clear h0;by_cases h1:lo=0
 case neg=>
  have a6:(lo !=0)=true:=by simpa using h1
  have HF:Hid (Af ⟨0,0,0,false,lo,hi⟩ 0=2):=by show _=_;simp[Af, *];try omega
  go_enter Tryz.func190,Tryz.ntmps190;go_wp2;go_ret;exact⟨by rw[HF.out];rfl,bel⟩
 subst h1;by_cases h2:hi=0
 case neg=>
  have a5:(hi !=0)=true:=by simpa using h2
  have HF:Hid (Af ⟨0,0,0,false,0,hi⟩ 0=2):=by show _=_;simp[Af, *];try omega
  go_enter Tryz.func190,Tryz.ntmps190;go_wp2;go_ret;exact⟨by rw[HF.out];rfl,bel⟩
 subst h2;have HF:Hid (Af ⟨0,0,0,false,0,0⟩ 0=0):=by show _=_;simp[Af, *];try omega
 have a1:U32 0:=⟨by decide,by decide⟩;have HU:=hI a1;clear a1;go_enter Tryz.func190,Tryz.ntmps190;go_wp2_with fail;refine(F0 0 0 _ HU.out HU.out).mono ?_;rintro e w1 ⟨rfl,a2⟩;rw[Ee];have a3:Below w.heap.size w w1:=Below.step (by assumption) (by simp) bel;clear a2;go_wp2;go_ret;exact⟨by rw[HF.out];rfl,a3⟩
theorem Ani (isp ism:Int)(neg:Bool)(lo hi:Int)(A:Option Addr)(n c:Nat)(w:World)(hn:n<=9223372036854775807):
  Calls Tryz.prog 190 #[Fc ⟨2,isp,ism,neg,lo,hi⟩ A n c] w fun e w'=>e= .returned (.int .i64 (Af ⟨2,isp,ism,neg,lo,hi⟩ n))/\Below w.heap.size w w':=by
 by_cases hz1:isp=0
 case neg=>
  have a4:(isp==0)=false:=by simpa using hz1
  have a0:(isp !=0)=true:=by simpa using hz1
  clear hz1;have HF:Hid (Af ⟨2,isp,ism,neg,lo,hi⟩ n=2):=by show _=_;simp[Af, *];try omega
  go_enter Tryz.func190,Tryz.ntmps190;go_wp2;go_ret;exact⟨by rw[HF.out];rfl,bel⟩
 subst hz1;by_cases hz2:ism=0
 case neg=>
  have a4:(ism==0)=false:=by simpa using hz2
  have a0:(ism !=0)=true:=by simpa using hz2
  clear hz2;have HF:Hid (Af ⟨2,0,ism,neg,lo,hi⟩ n=2):=by show _=_;simp[Af, *];try omega
  go_enter Tryz.func190,Tryz.ntmps190;go_wp2;go_ret;exact⟨by rw[HF.out];rfl,bel⟩
 subst hz2;cases neg
 case true=>have HF:Hid (Af ⟨2,0,0,true,lo,hi⟩ n=2):=by show _=_;simp[Af, *];try omega
            go_enter Tryz.func190,Tryz.ntmps190;go_wp2;go_ret;exact⟨by rw[HF.out];rfl,bel⟩
 by_cases h0:0<n
 ·have HF:Hid (Af ⟨2,0,0,false,lo,hi⟩ n=2):=by show _=_;simp[Af, *];try omega
  go_enter Tryz.func190,Tryz.ntmps190;go_wp2;go_ret;exact⟨by rw[HF.out];rfl,bel⟩
 obtain rfl:n=0:=by omega
 clear h0;by_cases h1:lo=0
 case neg=>
  have a6:(lo !=0)=true:=by simpa using h1
  have HF:Hid (Af ⟨2,0,0,false,lo,hi⟩ 0=2):=by show _=_;simp[Af, *];try omega
  go_enter Tryz.func190,Tryz.ntmps190;go_wp2;go_ret;exact⟨by rw[HF.out];rfl,bel⟩
 subst h1;by_cases h2:hi=0
 case neg=>
  have a5:(hi !=0)=true:=by simpa using h2
  have HF:Hid (Af ⟨2,0,0,false,0,hi⟩ 0=2):=by show _=_;simp[Af, *];try omega
  go_enter Tryz.func190,Tryz.ntmps190;go_wp2;go_ret;exact⟨by rw[HF.out];rfl,bel⟩
 subst h2;have HF:Hid (Af ⟨2,0,0,false,0,0⟩ 0=0):=by show _=_;simp[Af, *];try omega
 have a1:U32 0:=⟨by decide,by decide⟩;have HU:=hI a1;clear a1;go_enter Tryz.func190,Tryz.ntmps190;go_wp2_with fail;refine(F0 0 0 _ HU.out HU.out).mono ?_;rintro e w1 ⟨rfl,a2⟩;rw[Ee];have a3:Below w.heap.size w w1:=Below.step (by assumption) (by simp) bel;clear a2;go_wp2;go_ret;exact⟨by rw[HF.out];rfl,a3⟩
theorem Anj (isp ism:Int)(neg:Bool)(lo hi:Int)(A:Option Addr)(n c:Nat)(w:World)(hn:n<=9223372036854775807):
  Calls Tryz.prog 190 #[Fc ⟨6,isp,ism,neg,lo,hi⟩ A n c] w fun e w'=>e= .returned (.int .i64 (Af ⟨6,isp,ism,neg,lo,hi⟩ n))/\Below w.heap.size w w':=by
 by_cases hz1:isp=0
 case neg=>
  have a4:(isp==0)=false:=by simpa using hz1
  have a0:(isp !=0)=true:=by simpa using hz1
  clear hz1;have HF:Hid (Af ⟨6,isp,ism,neg,lo,hi⟩ n=2):=by show _=_;simp[Af, *];try omega
  go_enter Tryz.func190,Tryz.ntmps190;go_wp2;go_ret;exact⟨by rw[HF.out];rfl,bel⟩
 subst hz1;by_cases hz2:ism=0
 case neg=>
  have a4:(ism==0)=false:=by simpa using hz2
  have a0:(ism !=0)=true:=by simpa using hz2
  clear hz2;have HF:Hid (Af ⟨6,0,ism,neg,lo,hi⟩ n=2):=by show _=_;simp[Af, *];try omega
  go_enter Tryz.func190,Tryz.ntmps190;go_wp2;go_ret;exact⟨by rw[HF.out];rfl,bel⟩
 subst hz2;cases neg
 case true=>have HF:Hid (Af ⟨6,0,0,true,lo,hi⟩ n=2):=by show _=_;simp[Af, *];try omega
            go_enter Tryz.func190,Tryz.ntmps190;go_wp2;go_ret;exact⟨by rw[HF.out];rfl,bel⟩
 by_cases h0:0<n
 ·have HF:Hid (Af ⟨6,0,0,false,lo,hi⟩ n=2):=by show _=_;simp[Af, *];try omega
  go_enter Tryz.func190,Tryz.ntmps190;go_wp2;go_ret;exact⟨by rw[HF.out];rfl,bel⟩
 obtain rfl:n=0:=by omega
 clear h0;by_cases h1:lo=0
 case neg=>
  have a6:(lo !=0)=true:=by simpa using h1
  have HF:Hid (Af ⟨6,0,0,false,lo,hi⟩ 0=2):=by show _=_;simp[Af, *];try omega
  go_enter Tryz.func190,Tryz.ntmps190;go_wp2;go_ret;exact⟨by rw[HF.out];rfl,bel⟩
 subst h1;by_cases h2:hi=0
 case neg=>
  have a5:(hi !=0)=true:=by simpa using h2
  have HF:Hid (Af ⟨6,0,0,false,0,hi⟩ 0=2):=by show _=_;simp[Af, *];try omega
  go_enter Tryz.func190,Tryz.ntmps190;go_wp2;go_ret;exact⟨by rw[HF.out];rfl,bel⟩
 subst h2;have HF:Hid (Af ⟨6,0,0,false,0,0⟩ 0=0):=by show _=_;simp[Af, *];try omega
 have a1:U32 0:=⟨by decide,by decide⟩;have HU:=hI a1;clear a1;go_enter Tryz.func190,Tryz.ntmps190;go_wp2_with fail;refine(F0 0 0 _ HU.out HU.out).mono ?_;rintro e w1 ⟨rfl,a2⟩;rw[Ee];have a3:Below w.heap.size w w1:=Below.step (by assumption) (by simp) bel;clear a2;go_wp2;go_ret;exact⟨by rw[HF.out];rfl,a3⟩
theorem Ank (isp ism:Int)(neg:Bool)(lo hi:Int)(A:Option Addr)(n c:Nat)(w:World)(hn:n<=9223372036854775807):
  Calls Tryz.prog 190 #[Fc ⟨3,isp,ism,neg,lo,hi⟩ A n c] w fun e w'=>e= .returned (.int .i64 (Af ⟨3,isp,ism,neg,lo,hi⟩ n))/\Below w.heap.size w w':=by
 by_cases hz1:isp=0
 case neg=>
  have a4:(isp==0)=false:=by simpa using hz1
  have a0:(isp !=0)=true:=by simpa using hz1
  clear hz1;have HF:Hid (Af ⟨3,isp,ism,neg,lo,hi⟩ n=2):=by show _=_;simp[Af, *];try omega
  go_enter Tryz.func190,Tryz.ntmps190;go_wp2;go_ret;exact⟨by rw[HF.out];rfl,bel⟩
 subst hz1;by_cases hz2:ism=0
 case neg=>
  have a4:(ism==0)=false:=by simpa using hz2
  have a0:(ism !=0)=true:=by simpa using hz2
  clear hz2;have HF:Hid (Af ⟨3,0,ism,neg,lo,hi⟩ n=2):=by show _=_;simp[Af, *];try omega
  go_enter Tryz.func190,Tryz.ntmps190;go_wp2;go_ret;exact⟨by rw[HF.out];rfl,bel⟩
 subst hz2;cases neg
 case true=>have HF:Hid (Af ⟨3,0,0,true,lo,hi⟩ n=2):=by show _=_;simp[Af, *];try omega
            go_enter Tryz.func190,Tryz.ntmps190;go_wp2;go_ret;exact⟨by rw[HF.out];rfl,bel⟩
 by_cases h1:lo=0
 case neg=>
  have a6:(lo !=0)=true:=by simpa using h1
  have HF:Hid (Af ⟨3,0,0,false,lo,hi⟩ n=2):=by show _=_;simp[Af, *];try omega
  go_enter Tryz.func190,Tryz.ntmps190;go_wp2;go_ret;exact⟨by rw[HF.out];rfl,bel⟩
 subst h1;by_cases h2:hi=0
 case neg=>
  have a5:(hi !=0)=true:=by simpa using h2
  have HF:Hid (Af ⟨3,0,0,false,0,hi⟩ n=2):=by show _=_;simp[Af, *];try omega
  go_enter Tryz.func190,Tryz.ntmps190;go_wp2;go_ret;exact⟨by rw[HF.out];rfl,bel⟩
 subst h2;have HF:Hid (Af ⟨3,0,0,false,0,0⟩ n=0):=by show _=_;simp[Af, *];try omega
 have a1:U32 0:=⟨by decide,by decide⟩;have HU:=hI a1;clear a1;go_enter Tryz.func190,Tryz.ntmps190;go_wp2_with fail;refine(F0 0 0 _ HU.out HU.out).mono ?_;rintro e w1 ⟨rfl,a2⟩;rw[Ee];have a3:Below w.heap.size w w1:=Below.step (by assumption) (by simp) bel;clear a2;go_wp2;go_ret;exact⟨by rw[HF.out];rfl,a3⟩
theorem Anl (isp ism:Int)(neg:Bool)(lo hi:Int)(A:Option Addr)(n c:Nat)(w:World)(hn:n<=9223372036854775807):
  Calls Tryz.prog 190 #[Fc ⟨4,isp,ism,neg,lo,hi⟩ A n c] w fun e w'=>e= .returned (.int .i64 (Af ⟨4,isp,ism,neg,lo,hi⟩ n))/\Below w.heap.size w w':=by
 by_cases hz1:isp=0
 case neg=>
  have a4:(isp==0)=false:=by simpa using hz1
  have a0:(isp !=0)=true:=by simpa using hz1
  clear hz1;have HF:Hid (Af ⟨4,isp,ism,neg,lo,hi⟩ n=2):=by show _=_;simp[Af, *];try omega
  go_enter Tryz.func190,Tryz.ntmps190;go_wp2;go_ret;exact⟨by rw[HF.out];rfl,bel⟩
 subst hz1;by_cases hz2:ism=0
 case neg=>
  have a4:(ism==0)=false:=by simpa using hz2
  have a0:(ism !=0)=true:=by simpa using hz2
  clear hz2;have HF:Hid (Af ⟨4,0,ism,neg,lo,hi⟩ n=2):=by show _=_;simp[Af, *];try omega
  go_enter Tryz.func190,Tryz.ntmps190;go_wp2;go_ret;exact⟨by rw[HF.out];rfl,bel⟩
 subst hz2;cases neg
 case true=>have HF:Hid (Af ⟨4,0,0,true,lo,hi⟩ n=2):=by show _=_;simp[Af, *];try omega
            go_enter Tryz.func190,Tryz.ntmps190;go_wp2;go_ret;exact⟨by rw[HF.out];rfl,bel⟩
 by_cases h1:lo=0
 case neg=>
  have a6:(lo !=0)=true:=by simpa using h1
  have HF:Hid (Af ⟨4,0,0,false,lo,hi⟩ n=2):=by show _=_;simp[Af, *];try omega
  go_enter Tryz.func190,Tryz.ntmps190;go_wp2;go_ret;exact⟨by rw[HF.out];rfl,bel⟩
 subst h1;by_cases h2:hi=0
 case neg=>
  have a5:(hi !=0)=true:=by simpa using h2
  have HF:Hid (Af ⟨4,0,0,false,0,hi⟩ n=2):=by show _=_;simp[Af, *];try omega
  go_enter Tryz.func190,Tryz.ntmps190;go_wp2;go_ret;exact⟨by rw[HF.out];rfl,bel⟩
 subst h2;have HF:Hid (Af ⟨4,0,0,false,0,0⟩ n=0):=by show _=_;simp[Af, *];try omega
 have a1:U32 0:=⟨by decide,by decide⟩;have HU:=hI a1;clear a1;go_enter Tryz.func190,Tryz.ntmps190;go_wp2_with fail;refine(F0 0 0 _ HU.out HU.out).mono ?_;rintro e w1 ⟨rfl,a2⟩;rw[Ee];have a3:Below w.heap.size w w1:=Below.step (by assumption) (by simp) bel;clear a2;go_wp2;go_ret;exact⟨by rw[HF.out];rfl,a3⟩
theorem Anm (isp ism:Int)(neg:Bool)(lo hi:Int)(A:Option Addr)(n c:Nat)(w:World)(hn:n<=9223372036854775807)(hp:U32 isp)(hm:U32 ism):
  Calls Tryz.prog 190 #[Fc ⟨1,isp,ism,neg,lo,hi⟩ A n c] w fun e w'=>e= .returned (.int .i64 (Af ⟨1,isp,ism,neg,lo,hi⟩ n))/\Below w.heap.size w w':=by
 have HP:=hI hp;clear hp;have HM:=hI hm;clear hm;by_cases h0:0<n
 ·have HF:Hid (Af ⟨1,isp,ism,neg,lo,hi⟩ n=2):=by show _=_;simp[Af, *];try omega
  go_enter Tryz.func190,Tryz.ntmps190;go_wp2;go_ret;exact⟨by rw[HF.out];rfl,bel⟩
 obtain rfl:n=0:=by omega
 clear h0;by_cases h1:lo=0
 case neg=>
  have a3:(lo !=0)=true:=by simpa using h1
  have HF:Hid (Af ⟨1,isp,ism,neg,lo,hi⟩ 0=2):=by show _=_;simp[Af, *];try omega
  go_enter Tryz.func190,Tryz.ntmps190;go_wp2;go_ret;exact⟨by rw[HF.out];rfl,bel⟩
 subst h1;by_cases h2:hi=0
 case neg=>
  have a2:(hi !=0)=true:=by simpa using h2
  have HF:Hid (Af ⟨1,isp,ism,neg,0,hi⟩ 0=2):=by show _=_;simp[Af, *];try omega
  go_enter Tryz.func190,Tryz.ntmps190;go_wp2;go_ret;exact⟨by rw[HF.out];rfl,bel⟩
 subst h2;have HF:Hid (Af ⟨1,isp,ism,neg,0,0⟩ 0=if Cg isp ism then 0 else 14):=by show _=_;simp[Af]
 go_enter Tryz.func190,Tryz.ntmps190;go_wp2_with fail;refine(F0 isp ism _ HP.out HM.out).mono ?_;rintro e w1 ⟨rfl,a1⟩;have a0:Below w.heap.size w w1:=Below.step (by assumption) (by simp) bel;clear a1;obtain⟨v,hv⟩:∃v,v=Cg isp ism:=⟨_,rfl⟩;rw[←hv];have HV:=hI hv;clear hv;cases v
 ·go_wp2;go_ret;exact⟨by rw[HF.out,←HV.out];rfl,a0⟩
 ·go_wp2;go_ret;exact⟨by rw[HF.out,←HV.out];rfl,a0⟩
theorem Ann (isp ism:Int)(neg:Bool)(lo hi:Int)(A:Option Addr)(n c:Nat)(w:World)(hn:n<=9223372036854775807):
  Calls Tryz.prog 190 #[Fc ⟨5,isp,ism,neg,lo,hi⟩ A n c] w fun e w'=>e= .returned (.int .i64 (Af ⟨5,isp,ism,neg,lo,hi⟩ n))/\Below w.heap.size w w':=by
 by_cases hz1:isp=0
 case neg=>
  have a8:(isp==0)=false:=by simpa using hz1
  have a1:(isp !=0)=true:=by simpa using hz1
  clear hz1;have HF:Hid (Af ⟨5,isp,ism,neg,lo,hi⟩ n=2):=by show _=_;simp[Af, *];try omega
  go_enter Tryz.func190,Tryz.ntmps190;go_wp2;go_ret;exact⟨by rw[HF.out];rfl,bel⟩
 subst hz1;by_cases hz2:ism=0
 case neg=>
  have a8:(ism==0)=false:=by simpa using hz2
  have a1:(ism !=0)=true:=by simpa using hz2
  clear hz2;have HF:Hid (Af ⟨5,0,ism,neg,lo,hi⟩ n=2):=by show _=_;simp[Af, *];try omega
  go_enter Tryz.func190,Tryz.ntmps190;go_wp2;go_ret;exact⟨by rw[HF.out];rfl,bel⟩
 subst hz2;cases neg
 case true=>have HF:Hid (Af ⟨5,0,0,true,lo,hi⟩ n=2):=by show _=_;simp[Af, *];try omega
            go_enter Tryz.func190,Tryz.ntmps190;go_wp2;go_ret;exact⟨by rw[HF.out];rfl,bel⟩
 by_cases h1:n=1
 case neg=>
  have b1:((n:Int) !=1)=true:=by simp;omega
  have a7:(n !=1)=true:=by simpa using h1
  have HF:Hid (Af ⟨5,0,0,false,lo,hi⟩ n=2):=by show _=_;simp[Af, *];try omega
  go_enter Tryz.func190,Tryz.ntmps190;go_wp2;go_ret;exact⟨by rw[HF.out];rfl,bel⟩
 subst h1;by_cases h2:lo<0
 ·have a6:decide (lo<0)=true:=decide_eq_true h2;have HF:Hid (Af ⟨5,0,0,false,lo,hi⟩ 1=2):=by show _=_;simp[Af, *];try omega
  go_enter Tryz.func190,Tryz.ntmps190;go_wp2;go_ret;exact⟨by rw[HF.out];rfl,bel⟩
 have a6:decide (lo<0)=false:=decide_eq_false h2;by_cases h3:32<lo
 ·have a9:decide (32<lo)=true:=decide_eq_true h3;have HF:Hid (Af ⟨5,0,0,false,lo,hi⟩ 1=2):=by show _=_;simp[Af, *];try omega
  go_enter Tryz.func190,Tryz.ntmps190;go_wp2;go_ret;exact⟨by rw[HF.out];rfl,bel⟩
 have a9:decide (32<lo)=false:=decide_eq_false h3;by_cases h4:hi= -1
 ·subst h4;have HF:Hid (Af ⟨5,0,0,false,lo,(-1)⟩ 1=0):=by show _=_;simp[Af, *];try omega
  have a0:U32 0:=⟨by decide,by decide⟩;have HU:=hI a0;clear a0;go_enter Tryz.func190,Tryz.ntmps190;go_wp2_with fail;refine(F0 0 0 _ HU.out HU.out).mono ?_;rintro e w1 ⟨rfl,a3⟩;rw[Ee];have a2:Below w.heap.size w w1:=Below.step (by assumption) (by simp) bel;clear a3;go_wp2;go_ret;exact⟨by rw[HF.out];rfl,a2⟩
 have b0:(hi != -1)=true:=by simpa using h4
 by_cases h5:hi<lo
 ·have a4:decide (hi<lo)=true:=decide_eq_true h5;have HF:Hid (Af ⟨5,0,0,false,lo,hi⟩ 1=2):=by show _=_;simp[Af, *];try omega
  go_enter Tryz.func190,Tryz.ntmps190;go_wp2;go_ret;exact⟨by rw[HF.out];rfl,bel⟩
 have a4:decide (hi<lo)=false:=decide_eq_false h5;by_cases h6:32<hi
 ·have a5:decide (32<hi)=true:=decide_eq_true h6;have HF:Hid (Af ⟨5,0,0,false,lo,hi⟩ 1=2):=by show _=_;simp[Af, *];try omega
  go_enter Tryz.func190,Tryz.ntmps190;go_wp2;go_ret;exact⟨by rw[HF.out];rfl,bel⟩
 have a5:decide (32<hi)=false:=decide_eq_false h6;have HF:Hid (Af ⟨5,0,0,false,lo,hi⟩ 1=0):=by show _=_;simp[Af, *];try omega
 have a0:U32 0:=⟨by decide,by decide⟩;have HU:=hI a0;clear a0;go_enter Tryz.func190,Tryz.ntmps190;go_wp2_with fail;refine(F0 0 0 _ HU.out HU.out).mono ?_;rintro e w1 ⟨rfl,a3⟩;rw[Ee];have a2:Below w.heap.size w w1:=Below.step (by assumption) (by simp) bel;clear a3;go_wp2;go_ret;exact⟨by rw[HF.out];rfl,a2⟩
theorem Akq (k:Nd)(A:Option Addr)(n c:Nat)(w:World)(hk:k.kind<0\/6<k.kind):
  Calls Tryz.prog 190 #[Fc k A n c] w fun e w'=>e= .returned (.int .i64 (Af k n))/\Below w.heap.size w w':=by
 obtain⟨kind,isp,ism,neg,lo,hi⟩:=k;have a0:kind<0\/6<kind:=hk
 have HF:Hid (Af ⟨kind,isp,ism,neg,lo,hi⟩ n=2):=by
  show _=_;unfold Af;dsimp only;rw[if_neg (by omega),if_neg (by omega),if_neg (by omega),if_neg (by omega)]
 clear hk;rcases a0 with h|h
 ·go_enter Tryz.func190,Tryz.ntmps190;go_wp2;go_ret;exact⟨by rw[HF.out];rfl,bel⟩
 ·have h':¬kind<0:=by omega
  go_enter Tryz.func190,Tryz.ntmps190;go_wp2;go_ret;exact⟨by rw[HF.out];rfl,bel⟩
def NdU (k:Nd):Prop:=U32 k.isp/\U32 k.ism
def FoU:Fo->Prop
 | .nil=>True
 | .node k ch nx=>NdU k/\FoU ch/\FoU nx
theorem Amf (k:Nd)(A:Option Addr)(n c:Nat)(w:World)(hn:n<=9223372036854775807)(hu:NdU k):
  Calls Tryz.prog 190 #[Fc k A n c] w fun e w'=>e= .returned (.int .i64 (Af k n))/\Below w.heap.size w w':=by
 by_cases h:k.kind<0\/6<k.kind
 ·exact Akq k A n c w h
 ·obtain⟨kind,isp,ism,neg,lo,hi⟩:=k;dsimp only at h;rcases(by omega:kind=0\/kind=1\/kind=2\/kind=3\/kind=4\/kind=5\/kind=6)with rfl|rfl|rfl|rfl|rfl|rfl|rfl
  ·exact Anh isp ism neg lo hi A n c w hn
  ·exact Anm isp ism neg lo hi A n c w hn hu.1 hu.2
  ·exact Ani isp ism neg lo hi A n c w hn
  ·exact Ank isp ism neg lo hi A n c w hn
  ·exact Anl isp ism neg lo hi A n c w hn
  ·exact Ann isp ism neg lo hi A n c w hn
  ·exact Anj isp ism neg lo hi A n c w hn
def Ds:Fo->Nat->Nat×Int
 | .nil,n=>(n,0)
 | .node k ch nx,n=>
  if n=40 then(n,12)else if Af k ch.len≠0 then(n,Af k ch.len)
  else if(Ds ch (n+1)).2≠0 then Ds ch (n+1)else Ds nx (Ds ch (n+1)).1
def Ga (k:Nd)(ch:Fo)(n:Nat):Nat×Int:=Ds (.node k ch .nil) n
theorem Aei (k:Nd)(ch nx:Fo)(n:Nat):Ds (.node k ch nx) n=if(Ga k ch n).2≠0 then Ga k ch n else Ds nx (Ga k ch n).1:=by
 unfold Ga;simp only[Ds];by_cases a1:n=40
 ·simp[a1]
 ·by_cases a2:Af k ch.len=0
  ·by_cases a3:(Ds ch (n+1)).2=0
   ·simp[a1,a2,a3]
   ·simp[a1,a2,a3]
  ·simp[a1,a2]
def Fo.drop:Nat->Fo->Fo
 |0,f=>f
 |_+1, .nil=> .nil
 |i+1, .node _ _ nx=>nx.drop i
theorem Fo.drop_get:∀(f:Fo) (i:Nat) (k:Nd) (ch:Fo),f.get i=some (k,ch)->f.drop i= .node k ch (f.drop (i+1))
 | .nil,i,k,ch,h=>by simp[Fo.get]at h
 | .node k0 ch0 nx,0,k,ch,h=>by
  obtain⟨rfl,rfl⟩:k0=k/\ch0=ch:=by simpa[Fo.get]using h
  cases nx<;>rfl
 | .node k0 ch0 nx,i+1,k,ch,h=>by
  have:=Fo.drop_get nx i k ch (by simpa[Fo.get]using h)
  simpa[Fo.drop]using this
theorem Fo.drop_len:∀f:Fo,f.drop f.len= .nil
 | .nil=>rfl
 | .node _ _ nx=>by simpa[Fo.drop,Fo.len]using Fo.drop_len nx
theorem FoU.get:∀(f:Fo) (i:Nat) (k:Nd) (ch:Fo),FoU f->f.get i=some (k,ch)->NdU k/\FoU ch
 | .nil,i,k,ch,_,h=>by simp[Fo.get]at h
 | .node k0 ch0 nx,0,k,ch,hu,h=>by
  obtain⟨rfl,rfl⟩:k0=k/\ch0=ch:=by simpa[Fo.get]using h
  exact⟨hu.1,hu.2.1⟩
 | .node k0 ch0 nx,i+1,k,ch,hu,h=>FoU.get nx i k ch hu.2.2 (by simpa[Fo.get]using h)
theorem Pq:∀(f:Fo) (n:Nat),n<=40->(Ds f n).1<=40
 | .nil,n,h=>h
 | .node k ch nx,n,h=>by
  rw[Ds];by_cases h1:n=40
  ·rw[if_pos h1];exact h
  ·rw[if_neg h1];split
   ·exact h
   ·have h2:=Pq ch (n+1) (by omega);split
    ·exact h2
    ·exact Pq nx _ h2
def Aks (k:Nd)(ch:Fo):Prop:=∀(w:World) (A:Option Addr) (n c m:Nat),FSl w A n c ch->NdU k->FoU ch->m<=40→
 Calls Tryz.prog 178 #[Fc k A n c, .int .i64 m] w fun e w'=>e= .returned (.tuple #[.int .i64 ((Ga k ch m).1:Nat), .int .i64 (Ga k ch m).2])/\Below w.heap.size w w'
theorem Vr (k:Nd)(ch:Fo)(ih:∀j k' ch',ch.get j=some (k',ch')->Aks k' ch'):Aks k ch:=by
 intro w A n c m hs hk hu hm;have hn:n<=9223372036854775807:=by have h1:=hs.1.2.1;have h2:=hs.1.2.2.1;unfold maxLen at h2;omega
 have a4:n=ch.len:=hs.1.1;have HI:=hI ih;clear ih;have HS:=hI hs;clear hs;have HU:=hI hu;clear hu;by_cases h40:m=40
 ·have HR:Hid (Ga k ch m=(m,12)):=by show _=_;unfold Ga;rw[Ds,if_pos h40]
  subst h40;obtain⟨kind,isp,ism,neg,lo,hi⟩:=k;go_enter Tryz.func178,Tryz.ntmps178;go_wp2
  go_ret2
  exact⟨by rw[HR.out];rfl,bel⟩
 have d3:m<40:=by omega
 have d4:((m:Int)==40)=false:=by simp;omega
 clear h40 hm;obtain⟨er,a5⟩:∃er,er=Af k ch.len:=⟨_,rfl⟩
 have HW:Hid (Ga k ch m=if er≠0 then(m,er)else if(Ds ch (m+1)).2≠0 then Ds ch (m+1)else((Ds ch (m+1)).1,0)):=by
  show _=_;unfold Ga;rw[Ds,if_neg (by omega),←a5];rfl
 have a0:=Amf k A n c;rw[a4]at a0;obtain⟨kind,isp,ism,neg,lo,hi⟩:=k;rw[←a5]at a0;have HC:=hI a0;clear a0 a5;subst a4;go_enter Tryz.func178,Tryz.ntmps178;go_wp2_with fail;have k0:(w.alloc (.cells #[.int .i64 kind, .int .u32 isp, .int .u32 ism, .bool neg, .int .i64 lo, .int .i64 hi, .slice A ch.len c] 52)).heap[w.heap.size]? =some (.cells #[.int .i64 kind, .int .u32 isp, .int .u32 ism, .bool neg, .int .i64 lo, .int .i64 hi, .slice A ch.len c] 52 (0,0)):=Am rfl;have kB:Below w.heap.size w (w.alloc (.cells #[.int .i64 kind, .int .u32 isp, .int .u32 ism, .bool neg, .int .i64 lo, .int .i64 hi, .slice A ch.len c] 52)):=bel;generalize(w.alloc (.cells #[.int .i64 kind, .int .u32 isp, .int .u32 ism, .bool neg, .int .i64 lo, .int .i64 hi, .slice A ch.len c] 52))=V0 at*;refine(HC.out V0 hn hk).mono ?_;rintro e w1 ⟨rfl,a1⟩;have k1:=hI ((a1.block _ (lt_of_block k0)).trans k0);have a2:=kB.trans (a1.mono kB.size);clear a1 kB k0 HC;by_cases h0:er=0
 case neg=>
  have h1:(er !=0)=true:=by simpa using h0
  have HR:Hid (Ga ⟨kind,isp,ism,neg,lo,hi⟩ ch m=(m,er)):=by show _=_;rw[HW.out,if_pos h0]
  clear h0;go_wp2
  go_ret2
  exact⟨by rw[HR.out];rfl,a2⟩
 subst h0;have b0:Hid (Ga ⟨kind,isp,ism,neg,lo,hi⟩ ch m=if(Ds ch (m+1)).2≠0 then Ds ch (m+1)else((Ds ch (m+1)).1,0)):=by show _=_;rw[HW.out,if_neg (by simp)]
 clear HW;have a9:=hI a2;clear a2;have b5:=a9.out.size;go_wp2
 go_loopw [7,8] (fun nv i wr=>∃(j q:Nat),i= .int .i64 j/\nv= .int .i64 q/\j<=ch.len/\q<=40/\Hid (Ds ch (m+1)=Ds (ch.drop j) q)/\Hid (wr.heap[w.heap.size]? =some (.cells #[.int .i64 kind, .int .u32 isp, .int .u32 ism, .bool neg, .int .i64 lo, .int .i64 hi, .slice A ch.len c] 52 (0,0)))/\Below w.heap.size w wr) (fun _ i _=>ch.len-(intOf i).toNat)
 case atStart=>exact⟨0,m+1,rfl,by go_num,Nat.zero_le _,by omega,rfl,k1,a9.out⟩
 case round=>
  obtain⟨j,q,rfl,rfl,hj,hq,a6,hb,hB⟩:=hrel;have b9:=hB.size;have b7:=Ad (j:=6) hb.out rfl;by_cases hlt:j<ch.len
  ·obtain⟨⟨k',ch'⟩,hg⟩:=ch.get_lt j hlt;obtain⟨b,off,A',n',c',hA,d2,⟨h0,h1,h2,h3,h4,h5,h6⟩,⟨rfl,b8⟩,a3,_⟩:=(HS.out.below hB rr).2.at_ ch _ 0 j k' ch' hg;obtain⟨a8,b1⟩:=FoU.get ch j k' ch' HU.out hg;have hd:=Fo.drop_get ch j k' ch' hg
   have HD:Hid (Ds (ch.drop j) q=if(Ga k' ch' q).2≠0 then Ga k' ch' q else Ds (ch.drop (j+1)) (Ga k' ch' q).1):=by
    show _=_;rw[hd];exact Aei _ _ _ _
   have a7:(Ga k' ch' q).1<=40:=Pq _ _ hq;have HG:=hI hg;clear hg hd;have b3:=hI a3;clear a3;have b2:=hI a8;clear a8;have d1:=hI b1;clear b1;subst hA;simp only[Nat.zero_add]at h0 h1 h2 h3 h4 h5 h6;go_wp2_with fail;refine(HI.out j k' ch' HG.out wr A' _ c' q ⟨⟨rfl,b8⟩,b3.out⟩ b2.out d1.out hq).mono ?_;rintro e w1 ⟨rfl,a1⟩;have b6:=hI ((a1.block w.heap.size (lt_of_block hb.out)).trans hb.out);have a2:=hB.trans (a1.mono b9);obtain⟨r,hr⟩:∃r,r=Ga k' ch' q:=⟨_,rfl⟩;rw[←hr]at HD a7 ⊢;clear a1 h0 h1 h2 h3 h4 h5 h6 b7 hr;obtain⟨r1,r2⟩:=r;by_cases hr2:r2=0
   ·have HN:Hid (Ds ch (m+1)=Ds (ch.drop (j+1)) r1):=by show _=_;rw[a6.out,HD.out,if_neg (by simpa using hr2)]
    have d0:r1<=40:=a7;clear a7;subst hr2;go_wp2
    go_roundw
    case rel=>exact⟨j+1,r1,by go_num,rfl,by omega,d0,HN,b6,a2⟩
    case measure=>simp[intOf];omega
   ·have HN:Hid (Ga ⟨kind,isp,ism,neg,lo,hi⟩ ch m=(r1,r2)):=by
     show _=_;have h1:Ds ch (m+1)=(r1,r2):=by rw[a6.out,HD.out,if_pos hr2]
     rw[b0.out,h1,if_pos hr2]
    have b4:(r2 !=0)=true:=by simpa using hr2
    clear hr2;go_wp2
    go_ret2
    exact⟨by rw[HN.out];rfl,a2⟩
  ·obtain rfl:j=ch.len:=by omega
   have HN:Hid (Ga ⟨kind,isp,ism,neg,lo,hi⟩ ch m=(q,0)):=by
    show _=_;have h1:Ds ch (m+1)=(q,0):=by rw[a6.out,Fo.drop_len];rfl
    rw[b0.out,h1,if_neg (by simp)]
   go_wp2
   go_ret2
   exact⟨by rw[HN.out];rfl,hB⟩
theorem Tl:∀(f:Fo) (j:Nat) (k:Nd) (ch:Fo),f.get j=some (k,ch)->Aks k ch
 | .node k0 ch0 nx,0,k,ch,hg=>by
  obtain⟨rfl,rfl⟩:k0=k/\ch0=ch:=by simpa[Fo.get]using hg
  exact Vr _ _ (Tl ch0)
 | .node k0 ch0 nx,j+1,k,ch,hg=>Tl nx j k ch (by simpa[Fo.get]using hg)
theorem Amo (k:Nd)(ch:Fo):Aks k ch:=Vr k ch (Tl ch)
theorem Rt:∀(f:Nat) (l l':List (Nd×Fo)),l.take (f+1)=l'.take (f+1)->Bv f l=Bv f l'
 |0,l,l',h=>by
  cases l with
  |nil=>cases l' with
   |nil=>rfl
   |cons b t=>simp at h
  |cons a s=>cases l' with
   |nil=>simp at h
   |cons b t=>rfl
 |f+1,l,l',h=>by
  cases l with
  |nil=>cases l' with
   |nil=>rfl
   |cons b t=>simp at h
  |cons a s=>cases l' with
   |nil=>simp at h
   |cons b t=>
    obtain⟨rfl,h2⟩:a=b/\s.take (f+1)=t.take (f+1):=by simpa using h
    obtain⟨k,ch⟩:=a;simp only[Bv];split
    ·refine Rt f _ _ ?_;rw[List.take_append,List.take_append];congr 1;have h3:=congrArg (List.take (f+1-(ch.list.take 41).length)) h2;rwa[List.take_take,List.take_take,Nat.min_eq_left (by omega)]at h3
    ·rfl
theorem Aej (f:Nat)(hf:f<=40)(l st:List (Nd×Fo)):Bv f (l.take 41++st)=Bv f (l++st):=by
 refine Rt f _ _ ?_;rw[List.take_append,List.take_append,List.take_take,Nat.min_eq_left (by omega)];congr 1;by_cases h:l.length<=41
 ·rw[List.take_of_length_le h]
 ·rw[List.length_take,Nat.min_eq_left (by omega),show f+1-41=0 by omega,show f+1-l.length=0 by omega]
theorem Nt:∀(f:Fo) (n:Nat) (st:List (Nd×Fo)),n<=40->Bv (40-n) (f.list++st)=if(Ds f n).2≠0 then(Ds f n).2 else Bv (40-(Ds f n).1) st
 | .nil,n,st,_=>by simp[Ds,Fo.list]
 | .node k ch nx,n,st,hn=>by
  rw[Fo.list,List.cons_append];simp only[Ds];by_cases h1:n=40
  ·subst h1;simp[Bv]
  ·rw[show 40-n=(40-(n+1))+1 by omega,Bv];by_cases h2:Af k ch.len=0
   ·rw[if_pos h2,Aej _ (by omega),Nt ch (n+1) _ (by omega)];by_cases h3:(Ds ch (n+1)).2=0
    ·simp only[h1,h2,h3,if_false,ne_eq,not_true_eq_false];exact Nt nx _ st (Pq _ _ (by omega))
    ·simp[h1,h2,h3]
   ·simp[h1,h2]
theorem Zt (k:Nd)(ch:Fo):Bv 40 [(k,ch)]=(Ga k ch 0).2:=by
 have h:=Nt (.node k ch .nil) 0 [] (by omega);rw[Fo.list,Fo.list,List.append_nil]at h;rw[show(40:Nat)=40-0 from rfl,h];unfold Ga;by_cases h1:(Ds (.node k ch .nil) 0).2=0
 ·rw[if_neg (by simpa using h1),h1];cases 40-(Ds (.node k ch .nil) 0).1<;>rfl
 ·rw[if_pos h1]
theorem Qq (k:Nd)(ch:Fo)(w:World)(A:Option Addr)(n c:Nat)(hs:FSl w A n c ch)(hk:NdU k)(hu:FoU ch):
  Calls Tryz.prog 158 #[Fc k A n c] w fun e w'=>e= .returned (.int .i64 (Bv 40 [(k,ch)]))/\Below w.heap.size w w':=by
 have HC:=hI (Zt k ch);have HW:=hI (Amo k ch);obtain⟨kind,isp,ism,neg,lo,hi⟩:=k;have HS:=hI hs;clear hs;have HU:=hI hu;clear hu;have HK:=hI hk;clear hk;go_enter Tryz.func158,Tryz.ntmps158;go_wp2_with fail;refine(HW.out _ A n c 0 (HS.out.below (B:=w.heap.size) bel rr) HK.out HU.out (by omega)).mono ?_;rintro e w1 ⟨rfl,a0⟩;have a1:Below w.heap.size w w1:=Below.step (by assumption) (by simp) bel;clear a0;go_wp2;go_ret;exact⟨by rw[HC.out];rfl,a1⟩
end Go.Proofs.YtaglfmlgbcmakaaGreatDoor
namespace Go.Proofs.YtaglfmlgbcmakaaGreatDoor
open Go.RowKit
def Bt (r:List Nat)(a b:Nat):Prop:=(r.getD a 0).testBit b=true
theorem Ac9:∀(y:List Nat) (s b:Nat),(G y s).testBit b=true↔∃m,s.testBit m=true/\(y.getD m 0).testBit b=true
 |[],s,b=>by simp[G]
 |v::ys,s,b=>by
  rw[G,Nat.testBit_or,Bool.or_eq_true,Ac9 ys];constructor
  ·rintro(h|⟨m,h1,h2⟩)
   ·by_cases h0:s%2=1
    ·rw[if_pos h0]at h;exact⟨0,by rw[Nat.testBit_zero];exact decide_eq_true h0,by simpa using h⟩
    ·rw[if_neg h0]at h;simp at h
   ·exact⟨m+1,by rw[Nat.testBit_succ];exact h1,by simpa using h2⟩
  ·rintro⟨m,h1,h2⟩
   cases m with
   |zero=>
    rw[Nat.testBit_zero]at h1;rw[if_pos (of_decide_eq_true h1)];exact .inl (by simpa using h2)
   |succ m=>exact .inr ⟨m,by rw[Nat.testBit_succ]at h1;exact h1,by simpa using h2⟩
theorem Jb (x y:List Nat)(a b:Nat):Bt (Cn x y) a b↔∃m,Bt x a m/\Bt y m b:=by
 unfold Bt
 have e:(Cn x y).getD a 0=G y (x.getD a 0):=by
  unfold Cn;rw[List.getD_eq_getElem?_getD,List.getD_eq_getElem?_getD,List.getElem?_map]
  cases x[a]? with
  |none=>simp[Aca]
  |some v=>rfl
 rw[e,Ac9]
theorem Tt {x y:List Nat}(h:x.length=y.length)(a b:Nat):Bt (orR x y) a b↔Bt x a b\/Bt y a b:=by
 unfold Bt
 have e:(orR x y).getD a 0=x.getD a 0 ||| y.getD a 0:=by
  unfold orR;rw[List.getD_eq_getElem?_getD,List.getD_eq_getElem?_getD,List.getD_eq_getElem?_getD,List.getElem?_zipWith];by_cases ha:a<x.length
  ·rw[List.getElem?_eq_getElem ha,List.getElem?_eq_getElem (show a<y.length by omega)];rfl
  ·rw[List.getElem?_eq_none (by omega),List.getElem?_eq_none (show y.length<=a by omega)];rfl
 rw[e,Nat.testBit_or,Bool.or_eq_true]
theorem P0 (f:Nat->Nat)(m a b:Nat):Bt ((List.range m).map f) a b↔a<m/\(f a).testBit b=true:=by
 unfold Bt;rw[List.getD_eq_getElem?_getD,List.getElem?_map];by_cases h:a<m
 ·rw[List.getElem?_range h];simp[h]
 ·rw[List.getElem?_eq_none (by simpa using h)];simp[h]
theorem Nx {n:Nat}(hn:n<=32)(a b:Nat):Bt (idR n) a b↔a=b/\a<=n:=by
 unfold idR;rw[P0];by_cases h:a<=n
 ·rw[if_pos h,Nat.testBit_two_pow];simp only[decide_eq_true_eq];exact⟨fun h1=>⟨h1.2,h⟩,fun h1=>⟨by omega,h1.1⟩⟩
 ·rw[if_neg h];simp;omega
theorem P1 (a b:Nat):¬Bt B1 a b:=by
 unfold Bt B1;rw[List.getD_eq_getElem?_getD,List.getElem?_replicate];split<;>simp
theorem K4 {a:Nat}(ha:a<=32)(x b:Nat):Bt (F9 a) x b↔x=a/\b=a:=by
 unfold F9;by_cases h:x=a
 ·subst h;unfold Bt;rw[List.getD_eq_getElem?_getD,List.getElem?_set_self (by show _<33;omega),Option.getD_some,Nat.testBit_two_pow];simp only[decide_eq_true_eq,true_and];exact eq_comm
 ·unfold Bt;rw[List.getD_eq_getElem?_getD,List.getElem?_set_ne (Ne.symm h),←List.getD_eq_getElem?_getD];exact⟨fun h1=>absurd h1 (P1 x b),fun h1=>absurd h1.1 h⟩
theorem Xo (p m:Int)(neg:Bool){ws:List Snd}(hn:ws.length<=32)(a b:Nat):Bt (Sa p m neg ws) a b↔∃s,ws[a]? =some s/\M2 p m neg s=true/\b=a+1:=by
 unfold Sa Jt;rw[P0];constructor
 ·rintro⟨h1,h2⟩;rw[if_pos h1]at h2
  cases hs:ws[a]? with
  |none=>rw[hs]at h2;simp at h2
  |some s=>
   rw[hs]at h2;dsimp only at h2;by_cases hh:M2 p m neg s=true
   ·rw[if_pos hh,Nat.testBit_two_pow]at h2;exact⟨s,rfl,hh,(of_decide_eq_true h2).symm⟩
   ·rw[if_neg hh]at h2;simp at h2
 ·rintro⟨s,hs,hh,rfl⟩;have hl:=(List.getElem?_eq_some_iff.1 hs).1;refine⟨by omega, ?_⟩;rw[if_pos (by omega),hs];dsimp only;rw[if_pos hh,Nat.testBit_two_pow];simp
def It (R:Nat->Nat->Prop):Nat->Nat->Nat->Prop
 |0,a,b=>a=b
 |k+1,a,b=>∃m,R a m/\It R k m b
theorem G8 {R:Nat->Nat->Prop}:∀(i j a b:Nat),It R (i+j) a b↔∃m,It R i a m/\It R j m b
 |0,j,a,b=>by simp[It]
 |i+1,j,a,b=>by
  rw[show i+1+j=(i+j)+1 by omega];simp only[It];constructor
  ·rintro⟨m,h1,h2⟩;obtain⟨q,h3,h4⟩:=(G8 i j m b).1 h2;exact⟨q,⟨m,h1,h3⟩,h4⟩
  ·rintro⟨q,⟨m,h1,h3⟩,h4⟩;exact⟨m,h1,(G8 i j m b).2 ⟨q,h3,h4⟩⟩
theorem Xp {R:Nat->Nat->Prop}{a b:Nat}:It R 1 a b↔R a b:=by
 simp only[It];exact⟨fun⟨m,h,e⟩=>e▸h,fun h=>⟨b,h,rfl⟩⟩
theorem Aiz {R S:Nat->Nat->Prop}(hS:∀a b,S a b↔∃m,R a m/\R m b):∀(k a b:Nat),It S k a b↔It R (2*k) a b
 |0,a,b=>Iff.rfl
 |k+1,a,b=>by
  rw[show 2*(k+1)=(2*k+1)+1 by omega];simp only[It];constructor
  ·rintro⟨m,h1,h2⟩;obtain⟨q,h3,h4⟩:=(hS a m).1 h1;exact⟨q,h3,m,h4,(Aiz hS k m b).1 h2⟩
  ·rintro⟨q,h3,m,h4,h2⟩;exact⟨m,(hS a m).2 ⟨q,h3,h4⟩,(Aiz hS k m b).2 h2⟩
theorem Ada:∀(f:Nat) (x:List Nat) (k:Nat) (out:List Nat) (a b:Nat),k<2^f->(Bt (Mm f x k out) a b↔∃m,Bt out a m/\It (Bt x) k m b)
 |0,x,k,out,a,b,h=>by
  obtain rfl:k=0:=by simpa using h
  simp[Mm,It]
 |f+1,x,k,out,a,b,h=>by
  rw[Mm];by_cases h0:k=0
  ·subst h0;simp[It]
  ·rw[if_neg h0,Ada f (Cn x x) (k/2) _ a b (Tn f k h)];have a0:∀m,It (Bt (Cn x x)) (k/2) m b↔It (Bt x) (2*(k/2)) m b:=fun m=>Aiz (fun a b=>Jb x x a b) _ _ _
   by_cases h1:k%2=1
   ·rw[if_pos h1];constructor
    ·rintro⟨m,h2,h3⟩;obtain⟨q,h4,h5⟩:=(Jb out x a m).1 h2;refine⟨q,h4, ?_⟩;rw[show k=1+2*(k/2)by omega,G8];exact⟨m,Xp.2 h5,(a0 m).1 h3⟩
    ·rintro⟨q,h4,h5⟩;rw[show k=1+2*(k/2)by omega,G8]at h5;obtain⟨m,h6,h7⟩:=h5;exact⟨m,(Jb out x a m).2 ⟨q,h4,Xp.1 h6⟩,(a0 m).2 h7⟩
   ·rw[if_neg h1];constructor
    ·rintro⟨m,h2,h3⟩;refine⟨m,h2, ?_⟩;rw[show k=2*(k/2)by omega];exact(a0 m).1 h3
    ·rintro⟨m,h2,h3⟩;refine⟨m,h2,(a0 m).2 ?_⟩;rw[show k=2*(k/2)by omega]at h3;exact h3
theorem Sn {n:Nat}(hn:n<=32)(x:List Nat)(k:Nat)(hk:k<128)(a b:Nat):Bt (J6 x k n) a b↔a<=n/\It (Bt x) k a b:=by
 unfold J6;rw[Ada 7 x k (idR n) a b (by simpa using hk)];constructor
 ·rintro⟨m,h1,h2⟩;obtain⟨rfl,h3⟩:=(Nx hn a m).1 h1;exact⟨h3,h2⟩
 ·rintro⟨h1,h2⟩;exact⟨a,(Nx hn a a).2 ⟨rfl,h1⟩,h2⟩
def Inn (R:Nat->Nat->Prop)(n:Nat):Prop:=∀a b,R a b->a<=b/\b<=n
theorem Qy {R:Nat->Nat->Prop}{n:Nat}(h:Inn R n):∀(k a b:Nat),It R k a b->a<=n->a<=b/\b<=n
 |0,a,b,e,ha=>by have e:a=b:=e;omega
 |k+1,a,b,⟨m,h1,h2⟩,ha=>by
  have h3:=h a m h1;have h4:=Qy h k m b h2 h3.2;omega
theorem Aab {R:Nat->Nat->Prop}{n:Nat}(h:Inn R n):∀(i a b:Nat),It R (i+1) a b->a<=n->b<a+(i+1)->It R i a b
 |0,a,b,h1,ha,hb=>by
  obtain⟨m,h2,h3⟩:=h1;have h3:m=b:=h3;subst h3
  have:=h a m h2
  show a=m;omega
 |i+1,a,b,⟨m,h2,h3⟩,ha,hb=>by
  have h4:=h a m h2;by_cases hm:m=a
  ·subst hm;exact h3
  ·exact⟨m,h2,Aab h i m b h3 h4.2 (by omega)⟩
theorem Ai0 {R:Nat->Nat->Prop}{n:Nat}(h:Inn R n):∀(i a b:Nat),It R i a b->a<=n→∃j,j<=n/\j<=i/\It R j a b
 |0,a,b,h1,ha=>⟨0,by omega,by omega,h1⟩
 |i+1,a,b,h1,ha=>by
  by_cases hi:i+1<=n
  ·exact⟨i+1,hi,by omega,h1⟩
  ·have hb:=Qy h _ _ _ h1 ha;obtain⟨j,h2,h3,h4⟩:=Ai0 h i a b (Aab h i a b h1 ha (by omega)) ha;exact⟨j,h2,by omega,h4⟩
theorem V7 {R S:Nat->Nat->Prop}{n:Nat}(h:Inn R n)(hS:∀a b,S a b↔R a b\/(a=b/\a<=n)):∀(e a b:Nat),a<=n->(It S e a b↔∃j,j<=e/\It R j a b)
 |0,a,b,ha=>⟨fun h=>⟨0,rr,h⟩,fun⟨j,h1,h2⟩=>by
  obtain rfl:j=0:=Nat.le_zero.1 h1;exact h2⟩
 |e+1,a,b,ha=>by
  simp only[It];constructor
  ·rintro⟨m,h1,h2⟩;rcases(hS a m).1 h1 with h3|⟨rfl,_⟩
   ·obtain⟨j,h4,h5⟩:=(V7 h hS e m b (h a m h3).2).1 h2;exact⟨j+1,by omega,m,h3,h5⟩
   ·obtain⟨j,h4,h5⟩:=(V7 h hS e a b ha).1 h2;exact⟨j,by omega,h5⟩
  ·rintro⟨j,h1,h2⟩
   cases j with
   |zero=>exact⟨a,(hS a a).2 (.inr ⟨rfl,ha⟩),(V7 h hS e a b ha).2 ⟨0,Nat.zero_le _,h2⟩⟩
   |succ j=>
    obtain⟨m,h3,h4⟩:=h2;exact⟨m,(hS a m).2 (.inl h3),(V7 h hS e m b (h a m h3).2).2 ⟨j,by omega,h4⟩⟩
theorem Adb {n:Nat}(hn:n<=32){r:List Nat}(hl:r.length=33)(h:Inn (Bt r) n){lo:Nat}{hi:Int}(h1:lo<128)(h2:F3 lo hi n<128)(a b:Nat):
  Bt (Nr r lo hi n) a b↔a<=n∧∃j,j<=F3 lo hi n/\It (Bt r) (lo+j) a b:=by
 unfold Nr;rw[Jb];have hS:∀a b,Bt (orR r (idR n)) a b↔Bt r a b\/(a=b/\a<=n):=fun a b=>by rw[Tt (by rw[hl,Hr]),Nx hn]
 constructor
 ·rintro⟨m,h3,h4⟩;obtain⟨h5,h6⟩:=(Sn hn r lo h1 a m).1 h3;obtain⟨h7,h8⟩:=(Sn hn _ _ h2 m b).1 h4;obtain⟨j,h9,a0⟩:=(V7 h hS _ m b h7).1 h8;exact⟨h5,j,h9,(G8 lo j a b).2 ⟨m,h6,a0⟩⟩
 ·rintro⟨h5,j,h9,a0⟩;obtain⟨m,h6,a1⟩:=(G8 lo j a b).1 a0;have h7:=(Qy h _ _ _ h6 h5).2;exact⟨m,(Sn hn r lo h1 a m).2 ⟨h5,h6⟩,(Sn hn _ _ h2 m b).2 ⟨h7,(V7 h hS _ m b h7).2 ⟨j,h9,a1⟩⟩⟩
theorem Aac {R:Nat->Nat->Prop}{lo k:Nat}(hk:lo<k){a:Nat}(h:∀b,It R k a b→∃j,lo<=j/\j<k/\It R j a b):∀(i b:Nat),It R (k+i) a b→∃j,lo<=j/\j<k/\It R j a b
 |0,b,h1=>h b h1
 |i+1,b,h1=>by
  rw[show k+(i+1)=(k+i)+1 by omega,G8]at h1;obtain⟨m,h2,h3⟩:=h1;obtain⟨j,h4,h5,h6⟩:=Aac hk h i m h2;have h7:It R (j+1) a b:=(G8 j 1 a b).2 ⟨m,h6,h3⟩;by_cases hj:j+1<k
  ·exact⟨j+1,by omega,hj,h7⟩
  ·obtain rfl:k=j+1:=by omega
   exact h b h7
theorem Ak6 {n:Nat}(hn:n<=32):Inn (Bt (idR n)) n:=fun a b h=>by have:=(Nx hn a b).1 h;omega
theorem Ai1 {x y:List Nat}{n:Nat}(hx:Inn (Bt x) n)(hy:Inn (Bt y) n):Inn (Bt (Cn x y)) n:=fun a b h=>by
 obtain⟨m,h1,h2⟩:=(Jb x y a b).1 h
 have:=hx a m h1
 have:=hy m b h2
 omega
theorem Ut {n:Nat}(rs:List (List Nat))(hr:∀r∈rs,Inn (Bt r) n)(a:List Nat)(ha:Inn (Bt a) n):Inn (Bt (rs.foldl Cn a)) n:=by
 induction rs generalizing a with
 |nil=>exact ha
 |cons r rs ih=>exact ih (fun x hx=>hr x (List.mem_cons_of_mem _ hx)) _ (Ai1 ha (hr r (List.mem_cons_self ..)))
theorem Aad {n:Nat}(rs:List (List Nat))(hr:∀r∈rs,Inn (Bt r) n/\r.length=33)(a:List Nat)(ha:Inn (Bt a) n)(hl:a.length=33):Inn (Bt (rs.foldl orR a)) n:=by
 induction rs generalizing a with
 |nil=>exact ha
 |cons r rs ih=>
  have h1:=hr r (List.mem_cons_self ..);refine ih (fun x hx=>hr x (List.mem_cons_of_mem _ hx)) _ (fun x y h=> ?_) (Si _ _ hl h1.2);rcases(Tt (by rw[hl,h1.2]) x y).1 h with h|h
  ·exact ha x y h
  ·exact h1.1 x y h
theorem V8 {lo:Nat}{hi:Int}{n:Nat}(hn:n<=32)(h:hi<=32):F3 lo hi n<128:=by unfold F3;split<;>omega
theorem Qz {k:Nd}{ws:List Snd}{rs:List (List Nat)}{c:Nat}(hal:Af k c=0)(hc:rs.length=c)(hr:∀r∈rs,r.length=33):(E5 k ws rs).length=33:=by
 unfold E5;split
 ·simp[Sa,Jt]
 ·split
  ·exact Hj _
  ·split
   ·exact Hj _
   ·split
    ·exact Me rs hr _ rfl
    ·split
     ·unfold Nr;rw[C9];unfold J6
      have:∀(f:Nat) (x:List Nat) (q:Nat) (o:List Nat),o.length=33->(Mm f x q o).length=33:=by
       intro f
       induction f with
       |zero=>intro x q o ho;exact ho
       |succ f ih=>
        intro x q o ho;rw[Mm];split
        ·exact ho
        ·refine ih _ _ _ ?_;split
         ·rw[C9];exact ho
         ·exact ho
      exact this _ _ _ _ (Hr _)
     ·exact M8 rs _ (Hr _)
theorem Q0 {k:Nd}{ws:List Snd}{rs:List (List Nat)}{c:Nat}(hn:ws.length<=32)(hal:Af k c=0)(hc:rs.length=c)(hr:∀r∈rs,Inn (Bt r) ws.length/\r.length=33):Inn (Bt (E5 k ws rs)) ws.length:=by
 unfold E5;split
 ·intro a b h;obtain⟨s,hs,_,rfl⟩:=(Xo _ _ _ hn a b).1 h
  have:=(List.getElem?_eq_some_iff.1 hs).1
  omega
 ·split
  ·intro a b h
   have:=(K4 (by omega) a b).1 h
   omega
  ·split
   ·intro a b h
    have:=(K4 hn a b).1 h
    omega
   ·split
    ·exact Aad rs hr _ (fun a b h=>absurd h (P1 a b)) rfl
    ·split
     ·rename_i h5
      obtain⟨h6,h7,h8,h9⟩:=Hz h5 hal
      obtain⟨r,a3⟩:∃r,rs=[r]:=by
       match rs,hc.trans h6 with
       |[r],_=>exact⟨r,rfl⟩
      subst a3;obtain⟨a0,a4⟩:=hr r (by simp);intro a b h;obtain⟨a2,j,_,a1⟩:=(Adb hn a4 a0 (by omega) (V8 hn (by omega)) a b).1 h;exact Qy a0 _ _ _ a1 a2
     ·exact Ut rs (fun r h=>(hr r h).1) _ (Ak6 hn)
theorem Jc {ws:List Snd}(hn:ws.length<=32):∀f:Fo,okF f→∀r∈D2 ws f,Inn (Bt r) ws.length/\r.length=33
 | .nil,_,r,h=>by simp[D2]at h
 | .node k ch nx,⟨h1,h2,h3⟩,r,h=>by
  rcases List.mem_cons.1 h with rfl|h
  ·have h4:=Jc hn ch h2;exact⟨Q0 hn h1 (E6 ws ch) h4,Qz h1 (E6 ws ch) fun r hr=>(h4 r hr).2⟩
  ·exact Jc hn nx h3 r h
end Go.Proofs.YtaglfmlgbcmakaaGreatDoor
namespace Go.Proofs.YtaglfmlgbcmakaaGreatDoor
open Go.RowKit Go.Shelf
def Fd (w:World)(A:Option Addr)(n c:Nat)(l:List Nat):Prop:=Az w A n c 1 (l.map fun(s:Nat)=>Value.int .u64 (s:Int))
section tab
variable {w w':World}{A:Option Addr}{n c:Nat}{l:List Nat}
theorem Fd.len (h:Fd w A n c l):l.length=n:=by have:=h.1;simpa using this
theorem Fd.below (h:Fd w A n c l){B:Nat}(hb:Below B w w')(hB:w.heap.size<=B):Fd w' A n c l:=Az.below h hb hB
theorem Fd.max (h:Fd w A n c l):n<=c/\c<=9223372036854775807:=by have h1:=h.2.1;have h2:=h.2.2.1;unfold maxLen at h2;omega
theorem Fd.at_ (h:Fd w A n c l){k:Nat}(hk:k<n):∃b off s,A=some ⟨b,off,none⟩/\b<w.heap.size/\w.cell? ⟨b,off+k,none⟩=some (.int .u64 ((s:Nat):Int))/\l[k]? =some s:=by
 obtain⟨b,off,v,hA,hb,hv,hc⟩:=h.at1 hk;rw[List.getElem?_map]at hv
 cases hl:l[k]? with
 |none=>rw[hl]at hv;cases hv
 |some x=>
  rw[hl]at hv;obtain rfl:Value.int .u64 (x:Int)=v:=by simpa using hv
  exact⟨b,off,x,hA,hb,hc,rfl⟩
end tab
def Cq (l:List Nat):Array Value:=(l.map fun(s:Nat)=>Value.int .u64 (s:Int)).toArray
theorem Gb:(Tryz.prog.info? 81).map (fun i=>(i.zero,i.size,i.bytes))=some (some (.int .u64 0),1,8):=by kernel_rfl
theorem Gc (n:Nat):madeCells #[Value.int .u64 0] n=Cq (List.replicate n 0):=by
 apply Array.ext
 ·simp[size_madeCells,Cq]
 ·intro i h1 h2;simp[madeCells,Nat.mod_one,Cq]
theorem J3 (l:List Nat)(j s:Nat):(Cq l).setIfInBounds j (.int .u64 (s:Int))=Cq (l.set j s):=by simp[Cq,List.map_set]
theorem J4 {w:World}{g j:Nat}{l:List Nat}{s:Nat}{t:TypeId}(h:w.heap[g]? =some (.cells (Cq l) t (0,0)))(hx:l[j]? =some s):w.cell? ⟨g,j,none⟩=some (.int .u64 (s:Int)):=
 Ad h (by simp[Cq,hx])
theorem Ji {w:World}{g n:Nat}{l:List Nat}{t:TypeId}(h:w.heap[g]? =some (.cells (Cq l) t (0,0)))(hl:l.length=n)(hn:n<=maxLen):Fd w (some ⟨g,0,none⟩) n n l:=
 ⟨by simpa using hl,rr,hn,(fun h=>by cases h),fun _=>⟨g,0,rfl,lt_of_block h,fun j v hv=>by rw[Nat.zero_add];exact Ad h (by simpa[Cq]using hv)⟩⟩
theorem Amp {l:List Nat}{j s:Nat}(h:l[j]? =some s):l.set j s=l:=by
 apply List.ext_getElem?;intro i;rw[List.getElem?_set];split
 ·rename_i e;subst e
  have:=(List.getElem?_eq_some_iff.1 h).1
  rw[if_pos this,h]
 ·rfl
def Abx (w:World)(l:List Nat)(e:Ending)(w':World):Prop:=∃A n c,e= .returned (.slice A n c)/\Fd w' A n c l/\Below w.heap.size w w'
def idT (n:Nat):List Nat:=(List.range (n+1)).map fun k=>2^k
def Nb (n j:Nat):List Nat:=(List.range (n+1)).map fun k=>if k<j then 2^k else 0
theorem Xg (n:Nat):(idT n).length=n+1:=by simp[idT]
theorem Aby (n:Nat):Nb n 0=List.replicate (n+1) 0:=by
 apply List.ext_getElem?;intro i;unfold Nb;rw[List.getElem?_map,List.getElem?_replicate];by_cases h:i<n+1
 ·rw[List.getElem?_range h,if_pos h,Option.map_some,if_neg (by omega)]
 ·rw[List.getElem?_eq_none (by simpa using h),if_neg h];rfl
theorem Aek (n:Nat):Nb n (n+1)=idT n:=List.map_congr_left fun k hk=>by rw[if_pos (List.mem_range.1 hk)]
theorem Abz (n j:Nat):(Nb n j).set j (2^j)=Nb n (j+1):=by
 unfold Nb;refine Jp _ _ _ _ _ (by rw[if_pos (by omega)]) fun k hk=> ?_
 by_cases h:k<j
 ·rw[if_pos h,if_pos (by omega)]
 ·rw[if_neg h,if_neg (by omega)]
theorem Aib (n:Nat)(w:World)(hn:n<=32):Calls Tryz.prog 232 #[.int .i64 n] w (Abx w (idT n)):=by
 have a1:∀w:World,(Instr.makeSlice 256 (.int .i64 ((n:Int)+1)) (.int .i64 ((n:Int)+1))).run Tryz.prog w= .ok (.slice (some ⟨w.heap.size,0,none⟩) (n+1) (n+1)) (w.alloc (.cells (madeCells #[.int .u64 0] (n+1)) 81)):=
  fun w=>run_make_row' (P:=Tryz.prog) 256 81 (.int .u64 0) 8 Tryz.underlying256 Gb rfl .i64 .i64 (n+1) (by omega) (by omega) w
 go_enter Tryz.func232,Tryz.ntmps232;go_wp2;clear a1;rw[Gc];have kg:(w.alloc (.cells (Cq (List.replicate (n+1) 0)) 81)).heap[w.heap.size]? =some (.cells (Cq (List.replicate (n+1) 0)) 81 (0,0)):=Am rfl;have kB:Below w.heap.size w (w.alloc (.cells (Cq (List.replicate (n+1) 0)) 81)):=bel;generalize(w.alloc (.cells (Cq (List.replicate (n+1) 0)) 81))=V0 at*
 go_loopw [4] (fun i wr=>∃k:Nat,i= .int .i64 k/\k<=n+1/\Hid (wr.heap[w.heap.size]? =some (.cells (Cq (Nb n k)) 81 (0,0)))/\Below w.heap.size w wr) (fun i _=>n+1-(intOf i).toNat)
 case atStart=>exact⟨0,rfl,Nat.zero_le _,by rw[Aby];exact kg,kB⟩
 case round=>
  obtain⟨k,rfl,hk,hg,hB⟩:=hrel;by_cases hlt:k<n+1
  ·have h1:(k:Int)<(n:Int)+1:=by omega
   have h2:(k:Int)<=(n:Int):=by omega
   have hz:(Nb n k)[k]? =some 0:=by unfold Nb;rw[List.getElem?_map,List.getElem?_range hlt,Option.map_some,if_neg (by omega)]
   have hc:=J4 hg.out hz;have hf:=frozen_of_row wr w.heap.size k _ _ hg.out;have a3:=J5 k (by omega);have a2:=Pv k (by omega);clear hz;go_wp2
   have t1:(wr.setCell ⟨w.heap.size,k,none⟩ (.int .u64 (2^k))).heap[w.heap.size]? =some (.cells (Cq (Nb n (k+1))) 81 (0,0)):=by
    rw[←Abz,←J3,show(((2^k:Nat)):Int)=2^k by simp];exact Be hg.out
   have tB:Below w.heap.size w (wr.setCell ⟨w.heap.size,k,none⟩ (.int .u64 (2^k))):=hB.setCell (p:=⟨w.heap.size,k,none⟩) rr _
   go_roundw
   case rel=>exact⟨k+1,by go_num,by omega,t1,tB⟩
   case measure=>simp[intOf];omega
  ·obtain rfl:k=n+1:=by omega
   have h2:¬((n:Int)+1<=(n:Int)):=by omega
   have a0:=hg.out;rw[Aek]at a0;go_wp2;go_ret;exact⟨_,_,_,rfl,Ji a0 (Xg n) (by unfold maxLen;omega),hB⟩
theorem Amq (y:List Nat):∀(b s:Nat),G (y.take (b+1)) s=G (y.take b) s ||| (if s.testBit b then y.getD b 0 else 0):=by
 intro b s;apply Nat.eq_of_testBit_eq;intro i
 have e:∀(q m:Nat),((y.take q).getD m 0)=if m<q then y.getD m 0 else 0:=by
  intro q m;rw[List.getD_eq_getElem?_getD,List.getElem?_take,List.getD_eq_getElem?_getD];split<;>rfl
 rw[Bool.eq_iff_iff,Nat.testBit_or,Bool.or_eq_true,Ac9,Ac9];constructor
 ·rintro⟨m,h1,h2⟩;rw[e]at h2;by_cases hm:m<b
  ·exact .inl ⟨m,h1,by rw[e,if_pos hm];rwa[if_pos (by omega)]at h2⟩
  ·by_cases hm':m=b
   ·subst hm';rw[if_pos (by omega)]at h2;rw[if_pos h1];exact .inr h2
   ·rw[if_neg (by omega)]at h2;simp at h2
 ·rintro(⟨m,h1,h2⟩|h)
  ·rw[e]at h2;by_cases hm:m<b
   ·rw[if_pos hm]at h2;exact⟨m,h1,by rw[e,if_pos (by omega)];exact h2⟩
   ·rw[if_neg hm]at h2;simp at h2
  ·by_cases h1:s.testBit b=true
   ·rw[if_pos h1]at h;exact⟨b,h1,by rw[e,if_pos (by omega)];exact h⟩
   ·rw[if_neg h1]at h;simp at h
def G0 (x y:List Nat)(a:Nat):List Nat:=(List.range x.length).map fun k=>if k<a then G y (x.getD k 0)else 0
theorem Ael (x y:List Nat)(a:Nat):(G0 x y a).length=x.length:=by simp[G0]
theorem Ab0 (x y:List Nat):G0 x y 0=List.replicate x.length 0:=by
 apply List.ext_getElem?;intro i;unfold G0;rw[List.getElem?_map,List.getElem?_replicate];by_cases h:i<x.length
 ·rw[List.getElem?_range h,if_pos h,Option.map_some,if_neg (by omega)]
 ·rw[List.getElem?_eq_none (by simpa using h),if_neg h];rfl
theorem Aem (x y:List Nat):G0 x y x.length=Cn x y:=by
 apply List.ext_getElem?;intro i;unfold G0 Cn;rw[List.getElem?_map,List.getElem?_map];by_cases h:i<x.length
 ·rw[List.getElem?_range h,Option.map_some,if_pos h,List.getElem?_eq_getElem h,Option.map_some,D5 (List.getElem?_eq_getElem h)]
 ·rw[List.getElem?_eq_none (by simpa using h),List.getElem?_eq_none (by omega)];rfl
theorem Ab1 (x y:List Nat)(a:Nat):(G0 x y a).set a (G y (x.getD a 0))=G0 x y (a+1):=by
 unfold G0;refine Jp _ _ _ _ _ (by rw[if_pos (by omega)]) fun k hk=> ?_
 by_cases h:k<a
 ·rw[if_pos h,if_pos (by omega)]
 ·rw[if_neg h,if_neg (by omega)]
theorem Ano (s:Nat):G [] s=0:=rfl
theorem Ab2 {y:List Nat}(h:Bl y)(b:Nat):Bl (y.take b):=fun s hs=>h s (List.mem_of_mem_take hs)
theorem Pr (A A':Option Addr)(n c n' c':Nat)(x y:List Nat)(w:World)(hx:Fd w A n c x)(hy:Fd w A' n' c' y)(hn:n<=33)(hn':n'<=33)(hsx:Bl x)(hsy:Bl y):
  Calls Tryz.prog 233 #[.slice A n c, .slice A' n' c'] w (Abx w (Cn x y)):=by
 have b0:=hx.len;have b5:=hy.len;have HX:=hI hx;clear hx;have HY:=hI hy;clear hy;have f0:=hI hsx;clear hsx;have d2:=hI hsy;clear hsy;have a2:=hI b0;clear b0;have d4:=hI b5;clear b5;have f3:=fun w=>run_make_row' (P:=Tryz.prog) 256 81 (.int .u64 0) 8 Tryz.underlying256 Gb rfl .i64 .i64 n (by omega) (by omega) w
 go_enter Tryz.func233,Tryz.ntmps233;go_wp2;clear f3;rw[Gc];have kg:(w.alloc (.cells (Cq (List.replicate n 0)) 81)).heap[w.heap.size]? =some (.cells (Cq (List.replicate n 0)) 81 (0,0)):=Am rfl;have kB:Below w.heap.size w (w.alloc (.cells (Cq (List.replicate n 0)) 81)):=bel;generalize(w.alloc (.cells (Cq (List.replicate n 0)) 81))=V0 at*
 go_loopw [6] (fun i wr=>∃a:Nat,i= .int .i64 a/\a<=n/\Hid (wr.heap[w.heap.size]? =some (.cells (Cq (G0 x y a)) 81 (0,0)))/\Below w.heap.size w wr) (fun i _=>n-(intOf i).toNat)
 case atStart=>exact⟨0,rfl,Nat.zero_le _,by rw[Ab0,a2.out];exact kg,kB⟩
 case round=>
  obtain⟨a,rfl,ha,hg,hB⟩:=hrel;have f7:=hB.size;by_cases hlt:a<n
  ·have h1:(a:Int)<(n:Int):=by omega
   obtain⟨b,off,s,hA,hb,b2,a5⟩:=(HX.out.below hB rr).at_ hlt;have b8:=f0.out s (List.mem_of_getElem? a5);have d9:=hI b8;clear b8;have d5:=hI (D5 (d:=0) a5);clear a5;obtain⟨wo,d3⟩:∃wo,wo=wr:=⟨_,rfl⟩;subst d3;have f4:=hI b2;clear b2;go_wp2
   go_loopw [7] (fun i wr=>∃q:Nat,i= .int .i64 q/\q<=n'/\Hid (wr.heap[w.heap.size]? =some (.cells (Cq ((G0 x y a).set a (G (y.take q) s))) 81 (0,0)))/\Hid (Ba (fun k=>k=w.heap.size) wo wr)) (fun i _=>n'-(intOf i).toNat)
   case atStart=>
    refine⟨0,rfl,Nat.zero_le _, ?_,Ba.refl _ _⟩;show _=_;rw[List.take_zero,Ano,Amp (by unfold G0;rw[List.getElem?_map,List.getElem?_range (by rw[a2.out];exact hlt),Option.map_some,if_neg (by omega)])];exact hg.out
   case round=>
    obtain⟨q,rfl,hq,a1,hK⟩:=hrel;by_cases hql:q<n'
    ·have h2:(q:Int)<(n':Int):=by omega
     have d7:b≠w.heap.size:=by
      have:=HX.out
      obtain⟨b',off',s',a4,f8,_⟩:=this.at_ hlt;rw[hA]at a4;obtain⟨rfl,_⟩:b=b'/\off=off':=by simpa using a4
      omega
     obtain⟨by_,oy,t,a4,f1,b6,a7⟩:=HY.out.at_ hql;have f5:wr.cell? ⟨b,off+a,none⟩=some (.int .u64 (s:Int)):=(World.cell?_of_block (hK.out.block b hb d7)).trans f4.out;have a0:wr.cell? ⟨by_,oy+q,none⟩=some (.int .u64 (t:Int)):=(World.cell?_of_block (hK.out.block by_ (by omega) (by omega))).trans ((hB.cell (p:=⟨by_,oy+q,none⟩) f1).trans b6);have d0:=d2.out t (List.mem_of_getElem? a7);have b3:Cu (G (y.take q) s):=Xk _ _ (Ab2 d2.out q);have d1:a<(G0 x y a).length:=by rw[Ael,a2.out];exact hlt
     have a3:=J4 a1.out (j:=a) (s:=G (y.take q) s) (by rw[List.getElem?_set_self d1]);have a6:=frozen_of_row wr w.heap.size a _ _ a1.out;have a9:Hid (G (y.take (q+1)) s=G (y.take q) s ||| (if s.testBit q then t else 0)):=by show _=_;rw[Amq,D5 a7]
     have d8:=Wj s q d9.out;have b9:=Sl (G (y.take q) s) t b3 d0;have b1:=hI b9;clear b9;obtain⟨d,hd⟩:∃d,d=s.testBit q:=⟨_,rfl⟩;rw[←hd]at d8 a9;subst a4;clear b6 a7 d0 b3 d1 hd;cases d
     ·have HN:Hid (G (y.take (q+1)) s=G (y.take q) s):=by show _=_;rw[a9.out];simp
      subst hA;clear a3 a6 a0;go_wp2
      go_roundw
      case rel=>exact⟨q+1,by go_num,by omega,by show _=_;rw[HN.out];exact a1.out,hK⟩
      case measure=>simp[intOf];omega
     ·have HN:Hid (G (y.take (q+1)) s=G (y.take q) s ||| t):=by show _=_;rw[a9.out];simp
      subst hA;obtain⟨gv,a8⟩:∃gv,gv=G (y.take q) s:=⟨_,rfl⟩;rw[←a8]at a3 HN b1;have d6:=hI a8;clear a8;go_wp2;refine Bg (fun W'=>W'.cell? ⟨w.heap.size,a,none⟩=some (.int .u64 (gv:Int))/\W'.cell? ⟨by_,oy+q,none⟩=some (.int .u64 (t:Int))/\W'.frozen? ⟨w.heap.size,a,none⟩=false) (by kernel_rfl) ⟨a3,a0,a6⟩ (fun hHeld=> ?_)
      (refine' Ae 0 rfl ?_;(try simp only[Act.put,nY,nX]));(refine' Ae 1 rfl ?_;(try simp only[Act.put,nY,nX]));(refine' Ae 2 rfl ?_;(try simp only[Act.put,nY,nX]));(refine' Ae 3 rfl ?_;(try simp only[Act.put,nY,nX]));(refine' Ae 4 rfl ?_;(try simp only[Act.put,nY,nX]));(refine' Ae 5 rfl ?_;(try simp only[Act.put,nY,nX]));(refine' Ae 6 rfl ?_;(try simp only[Act.put,nY,nX]));(refine' Ae 7 rfl ?_;(try simp only[Act.put,nY,nX]));(refine' Ae 8 rfl ?_;(try simp only[Act.put,nY,nX]));(refine' Ae 9 rfl ?_;(try simp only[Act.put,nY,nX]));(refine' Ae 10 rfl ?_;(try simp only[Act.put,nY,nX]));(refine' Ae 11 rfl ?_;(try simp only[Act.put,nY,nX]))
      (refine Anv 12 rfl (fun K' hK'=> ?_);simp only[nY];go_simp)
      refine hK' _ _ ⟨.inl (by kernel_rfl),fun _=>Bf (by kernel_rfl) ?_ _⟩
      clear hK' K' hHeld;rw[b1.out]
      have t1:(wr.setCell ⟨w.heap.size,a,none⟩ (.int .u64 ((gv ||| t:Nat):Int))).drew.heap[w.heap.size]? =some (.cells (Cq ((G0 x y a).set a (G (y.take (q+1)) s))) 81 (0,0)):=by
       rw[HN.out,show(G0 x y a).set a (gv ||| t)=((G0 x y a).set a gv).set a (gv ||| t)by rw[List.set_set],←J3]
       have:=a1.out
       rw[←d6.out]at this;exact Be this
      have tK:=(hK.out.setCell (p:=⟨w.heap.size,a,none⟩) rfl (.int .u64 ((gv ||| t:Nat):Int))).drew;generalize(wr.setCell ⟨w.heap.size,a,none⟩ (.int .u64 ((gv ||| t:Nat):Int))).drew=W5 at*;clear a3 a6 a0;go_wp2
      go_roundw
      case rel=>exact⟨q+1,by go_num,by omega,t1,tK⟩
      case measure=>simp[intOf];omega
    ·obtain rfl:q=n':=by omega
     have hN:(G0 x y a).set a (G (y.take q) s)=G0 x y (a+1):=by rw[List.take_of_length_le (by rw[d4.out];exact rr),←d5.out];exact Ab1 x y a
     have HN:=hI hN;clear hN;have f2:Below w.heap.size w wr:=hB.trans (hK.out.to_below (fun k hk=>by have f6:k=w.heap.size:=hk;omega) hB.size);have b7:=a1.out;rw[HN.out]at b7;go_wp2
     go_roundw
     case rel=>exact⟨a+1,by go_num,by omega,b7,f2⟩
     case measure=>simp[intOf];omega
  ·obtain rfl:a=n:=by omega
   have b4:=hg.out;rw[show G0 x y a=Cn x y by rw[←a2.out];exact Aem x y]at b4;go_wp2;go_ret;exact⟨_,_,_,rfl,Ji b4 (by rw[C9,a2.out]) (by unfold maxLen;omega),hB⟩
def G3 (x y:List Nat)(a:Nat):List Nat:=(List.range x.length).map fun k=>if k<a then x.getD k 0 ||| y.getD k 0 else 0
theorem Zu (x y:List Nat):G3 x y 0=List.replicate x.length 0:=by
 apply List.ext_getElem?;intro i;unfold G3;rw[List.getElem?_map,List.getElem?_replicate];by_cases h:i<x.length
 ·rw[List.getElem?_range h,if_pos h,Option.map_some,if_neg (by omega)]
 ·rw[List.getElem?_eq_none (by simpa using h),if_neg h];rfl
theorem Ab3 {x y:List Nat}(hl:x.length=y.length):G3 x y x.length=orR x y:=by
 apply List.ext_getElem?;intro i;unfold G3 orR;rw[List.getElem?_map,List.getElem?_zipWith];by_cases h:i<x.length
 ·rw[List.getElem?_range h,Option.map_some,if_pos h,List.getElem?_eq_getElem h,List.getElem?_eq_getElem (show i<y.length by omega),D5 (List.getElem?_eq_getElem h),D5 (List.getElem?_eq_getElem (show i<y.length by omega))]
 ·rw[List.getElem?_eq_none (by simpa using h),List.getElem?_eq_none (by omega)];rfl
theorem Zv (x y:List Nat)(a:Nat):(G3 x y a).set a (x.getD a 0 ||| y.getD a 0)=G3 x y (a+1):=by
 unfold G3;refine Jp _ _ _ _ _ (by rw[if_pos (by omega)]) fun k hk=> ?_
 by_cases h:k<a
 ·rw[if_pos h,if_pos (by omega)]
 ·rw[if_neg h,if_neg (by omega)]
theorem Aic (A A':Option Addr)(n c c':Nat)(x y:List Nat)(w:World)(hx:Fd w A n c x)(hy:Fd w A' n c' y)(hn:n<=33)(hsx:Bl x)(hsy:Bl y):
  Calls Tryz.prog 234 #[.slice A n c, .slice A' n c'] w (Abx w (orR x y)):=by
 have a3:=hx.len;have a7:=hy.len;have HX:=hI hx;clear hx;have HY:=hI hy;clear hy;have b1:=hI hsx;clear hsx;have b5:=hI hsy;clear hsy;have a0:=hI a3;clear a3;have a4:=hI a7;clear a7;have b4:=fun w=>run_make_row' (P:=Tryz.prog) 256 81 (.int .u64 0) 8 Tryz.underlying256 Gb rfl .i64 .i64 n (by omega) (by omega) w
 go_enter Tryz.func234,Tryz.ntmps234;go_wp2;clear b4;rw[Gc];have kg:(w.alloc (.cells (Cq (List.replicate n 0)) 81)).heap[w.heap.size]? =some (.cells (Cq (List.replicate n 0)) 81 (0,0)):=Am rfl;have kB:Below w.heap.size w (w.alloc (.cells (Cq (List.replicate n 0)) 81)):=bel;generalize(w.alloc (.cells (Cq (List.replicate n 0)) 81))=V0 at*
 go_loopw [6] (fun i wr=>∃a:Nat,i= .int .i64 a/\a<=n/\Hid (wr.heap[w.heap.size]? =some (.cells (Cq (G3 x y a)) 81 (0,0)))/\Below w.heap.size w wr) (fun i _=>n-(intOf i).toNat)
 case atStart=>exact⟨0,rfl,Nat.zero_le _,by rw[Zu,a0.out];exact kg,kB⟩
 case round=>
  obtain⟨a,rfl,ha,hg,hB⟩:=hrel;have b7:=hB.size;by_cases hlt:a<n
  ·have h1:(a:Int)<(n:Int):=by omega
   obtain⟨b,off,s,rfl,hb,a5,a1⟩:=(HX.out.below hB rr).at_ hlt;obtain⟨by_,oy,t,rfl,b6,a8,a2⟩:=(HY.out.below hB rr).at_ hlt;have a9:=Sl s t (b1.out s (List.mem_of_getElem? a1)) (b5.out t (List.mem_of_getElem? a2));have HN:Hid ((G3 x y a).set a (s ||| t)=G3 x y (a+1)):=by show _=_;rw[←Zv,D5 a1,D5 a2]
   have hz:(G3 x y a)[a]? =some 0:=by unfold G3;rw[List.getElem?_map,List.getElem?_range (by rw[a0.out];exact hlt),Option.map_some,if_neg (by omega)]
   have b3:=J4 hg.out hz;have b2:=frozen_of_row wr w.heap.size a _ _ hg.out;have b0:=hI a9;clear a9 a1 a2 hz;go_wp2;refine Bg (fun W'=>W'.cell? ⟨b,off+a,none⟩=some (.int .u64 (s:Int))/\W'.cell? ⟨by_,oy+a,none⟩=some (.int .u64 (t:Int))) (by kernel_rfl) ⟨a5,a8⟩ (fun hHeld=> ?_)
   (refine' Ae 0 rfl ?_;(try simp only[Act.put,nY,nX]));(refine' Ae 1 rfl ?_;(try simp only[Act.put,nY,nX]));(refine' Ae 2 rfl ?_;(try simp only[Act.put,nY,nX]));(refine' Ae 3 rfl ?_;(try simp only[Act.put,nY,nX]));(refine' Ae 4 rfl ?_;(try simp only[Act.put,nY,nX]));(refine' Ae 5 rfl ?_;(try simp only[Act.put,nY,nX]));(refine' Ae 6 rfl ?_;(try simp only[Act.put,nY,nX]));(refine' Ae 7 rfl ?_;(try simp only[Act.put,nY,nX]));(refine' Ae 8 rfl ?_;(try simp only[Act.put,nY,nX]));(refine' Ae 9 rfl ?_;(try simp only[Act.put,nY,nX]));(refine' Ae 10 rfl ?_;(try simp only[Act.put,nY,nX]));(refine' Ae 11 rfl ?_;(try simp only[Act.put,nY,nX]))
   (refine Anv 12 rfl (fun K' hK'=> ?_);simp only[nY];go_simp)
   refine hK' _ _ ⟨.inl (by kernel_rfl),fun _=>Bf (by kernel_rfl) ?_ _⟩
   clear hK' K' hHeld;rw[b0.out]
   have t1:(wr.setCell ⟨w.heap.size,a,none⟩ (.int .u64 ((s ||| t:Nat):Int))).drew.heap[w.heap.size]? =some (.cells (Cq (G3 x y (a+1))) 81 (0,0)):=by
    rw[←HN.out,←J3];exact Be hg.out
   have tB:Below w.heap.size w (wr.setCell ⟨w.heap.size,a,none⟩ (.int .u64 ((s ||| t:Nat):Int))).drew:=(hB.setCell (p:=⟨w.heap.size,a,none⟩) rr _).drew;generalize(wr.setCell ⟨w.heap.size,a,none⟩ (.int .u64 ((s ||| t:Nat):Int))).drew=W5 at*;clear b3 b2 a5 a8;go_wp2
   go_roundw
   case rel=>exact⟨a+1,by go_num,by omega,t1,tB⟩
   case measure=>simp[intOf];omega
  ·obtain rfl:a=n:=by omega
   have a6:=hg.out;rw[show G3 x y a=orR x y by rw[←a0.out];exact Ab3 (by rw[a0.out,a4.out])]at a6;go_wp2;go_ret;exact⟨_,_,_,rfl,Ji a6 (by unfold orR;rw[List.length_zipWith,a0.out,a4.out];simp) (by unfold maxLen;omega),hB⟩
theorem Aid (A A':Option Addr)(n c c':Nat)(x y:List Nat)(w:World)(hx:Fd w A n c x)(hy:Fd w A' n c' y):
  Calls Tryz.prog 235 #[.slice A n c, .slice A' n c'] w fun e w'=>e= .returned (.bool (decide (x=y)))/\Below w.heap.size w w':=by
 have hm:=hx.max;have HX:=hI hx;clear hx;have HY:=hI hy;clear hy;go_enter Tryz.func235,Tryz.ntmps235;go_wp2
 go_loopw [5] (fun i wr=>∃k:Nat,k<=n/\i= .int .i64 k/\Hid (x.take k=y.take k)/\Below w.heap.size w wr) (fun i _=>n-(intOf i).toNat)
 case atStart=>exact⟨0,Nat.zero_le _,rfl,by simp[Hid],Below.refl _ _⟩
 case round=>
  obtain⟨k,hk,rfl,HA,hB⟩:=hrel;by_cases hlt:k<n
  ·obtain⟨b,off,p,rfl,hb,a6,a1⟩:=(HX.out.below hB rr).at_ hlt;obtain⟨b',off',p',rfl,a8,a3,a2⟩:=(HY.out.below hB rr).at_ hlt;have h1:(k:Int)<(n:Int):=by omega
   have HK:=hI a1;clear a1;have a0:=hI a2;clear a2;go_wp2;by_cases he:p=p'
   ·subst he;have HS:=hI (Bd x k p HK.out);have a5:=hI (Bd y k p a0.out);have a4:((p:Int) !=(p:Int))=false:=by simp
    go_quiet (fail)
    go_wp2
    go_roundw
    case rel=>exact⟨k+1,by omega,by go_num,by show _=_;rw[HS.out,a5.out,HA.out],hB.drewN nq⟩
    case measure=>simp[intOf];omega
   ·have hf:decide (x=y)=false:=by
     apply decide_eq_false;rintro rfl;exact he (Option.some.inj (HK.out.symm.trans a0.out))
    have HF:=hI hf;clear hf;have a4:((p:Int) !=(p':Int))=true:=by simp;omega
    have a7:(p !=p')=true:=by simpa using he
    clear he
    go_quiet (fail)
    go_wp2;go_ret;exact⟨by rw[HF.out];rfl,hB.drewN nq⟩
  ·obtain rfl:k=n:=by omega
   have hf:decide (x=y)=true:=by
    apply decide_eq_true
    have:=HA.out
    rwa[List.take_of_length_le (by rw[HX.out.len];exact rr),List.take_of_length_le (by rw[HY.out.len];exact rr)]at this
   have HF:=hI hf;clear hf;go_wp2;go_ret;exact⟨by rw[HF.out];rfl,hB⟩
theorem Akt {s:Snd}{p m:Int}(hp:U32 p)(hm:U32 m):(bits .and .u32 s.1 p==p && bits .and .u32 s.2 m==m)=M2 p m false s:=by
 unfold M2
 have key:∀(a b:BitVec 32),((a &&& b).toNat:Int)=(b.toNat:Int)↔∀i,(b &&& ~~~ a).getLsbD i=false:=by
  intro a b;constructor
  ·intro h i;have h1:a &&& b=b:=BitVec.eq_of_toNat_eq (by omega);by_cases hi:i<32
   ·have h2:=congrArg (fun z=>z.getLsbD i) h1;simp only[BitVec.getLsbD_and]at h2;rw[BitVec.getLsbD_and,BitVec.getLsbD_not]
    revert h2
    cases a.getLsbD i<;>cases b.getLsbD i<;>simp
   ·exact BitVec.getLsbD_of_ge _ _ (by omega)
  ·intro h
   have h1:a &&& b=b:=BitVec.eq_of_getLsbD_eq fun i hi=>by
    have h2:=h i;rw[BitVec.getLsbD_and,BitVec.getLsbD_not]at h2;rw[BitVec.getLsbD_and]
    revert h2
    cases a.getLsbD i<;>cases b.getLsbD i<;>simp[hi]
   rw[h1]
 rw[Bool.eq_iff_iff,Bool.and_eq_true,beq_iff_eq,beq_iff_eq,Kr,Kr];have ep:=Qm hp;have em:=Qm hm;unfold toI at ep em;rw[show(((bv s.1 &&& bv p).toNat:Int)=p)=(((bv s.1 &&& bv p).toNat:Int)=((bv p).toNat:Int))by rw[ep],show(((bv s.2 &&& bv m).toNat:Int)=m)=(((bv s.2 &&& bv m).toNat:Int)=((bv m).toNat:Int))by rw[em],key,key];rw[Jf,Dx,Fu,Dx,Fu];simp only[bne_iff_ne,ne_eq,Bool.not_eq_false,beq_iff_eq];rw[Es];simp only[BitVec.getLsbD_or,Bool.or_eq_false_iff];exact⟨fun h i=>⟨h.1 i,h.2 i⟩,fun h=>⟨fun i=>(h i).1,fun i=>(h i).2⟩⟩
theorem Aku (s:Snd)(p m:Int)(w:World)(hp:U32 p)(hm:U32 m):
  Calls Tryz.prog 231 #[C7 s.1 s.2,C7 p m] w fun e w'=>e= .returned (.bool (M2 p m false s))/\Below w.heap.size w w':=by
 have H:=hI (Akt (s:=s) hp hm);obtain⟨a,b⟩:=s;obtain⟨d1,a1⟩:∃d1,(bits .and .u32 a p==p)=d1:=⟨_,rfl⟩;obtain⟨d2,a0⟩:∃d2,(bits .and .u32 b m==m)=d2:=⟨_,rfl⟩;have H1:Hid (M2 p m false (a,b)=(d1 && d2)):=by show _=_;rw[←H.out,←a1,←a0]
 clear H;cases d1
 ·clear a0;go_enter Tryz.func231,Tryz.ntmps231;go_wp2;go_ret;exact⟨by rw[H1.out];rfl,bel⟩
 ·go_enter Tryz.func231,Tryz.ntmps231;go_wp2;go_ret;exact⟨by rw[H1.out];rfl,bel⟩
end Go.Proofs.YtaglfmlgbcmakaaGreatDoor
