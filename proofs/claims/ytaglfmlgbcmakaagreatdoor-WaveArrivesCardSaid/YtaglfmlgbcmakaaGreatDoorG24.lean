/-
  ablautref06: node, walk, Check.
  ablautref06: walk, Check.
  Relations as tables, in plain words: what the relation of a pattern has at a place.
  ablautref06: same, follow, join, equal, satisfies.
-/
import Derived.Test.YtaglfmlgbcmakaaGreatDoorG23
import Derived.Test.YtaglfmlgbcmakaaGreatDoorH07
set_option linter.all false
set_option maxRecDepth 100000
set_option maxHeartbeats 4000000
namespace Go.Proofs.YtaglfmlgbcmakaaGreatDoor
open Go.RowKit Go.Shelf
theorem Amv (isp ism:Int)(neg:Bool)(lo hi:Int)(A:Option Addr)(n c:Nat)(w:World)(hn:n<=9223372036854775807):
  Calls Tryz.prog 190 #[E3 ⟨0,isp,ism,neg,lo,hi⟩ A n c] w fun e w'=>e= .returned (.int .i64 (Af ⟨0,isp,ism,neg,lo,hi⟩ n))/\Below w.heap.size w w':=by
 by_cases hz1:isp=0
 case neg=>
  have a4:(isp==0)=false:=by simpa using hz1
  have a0:(isp !=0)=true:=by simpa using hz1
  clear hz1;have HF:Hid (Af ⟨0,isp,ism,neg,lo,hi⟩ n=2):=by show _=_;simp[Af, *];try omega
  go_enter Tryz.func190,Tryz.ntmps190;go_wp2;go_ret;exact⟨by rw[HF.out];rfl,bel⟩
 subst hz1;by_cases hz2:ism=0
 case neg=>
  have a4:(ism==0)=false:=by simpa using hz2
  have a0:(ism !=0)=true:=by simpa using hz2
  clear hz2;have HF:Hid (Af ⟨0,0,ism,neg,lo,hi⟩ n=2):=by show _=_;simp[Af, *];try omega
  go_enter Tryz.func190,Tryz.ntmps190;go_wp2;go_ret;exact⟨by rw[HF.out];rfl,bel⟩
 subst hz2;cases neg
 case true=>have HF:Hid (Af ⟨0,0,0,true,lo,hi⟩ n=2):=by show _=_;simp[Af, *];try omega
            go_enter Tryz.func190,Tryz.ntmps190;go_wp2;go_ret;exact⟨by rw[HF.out];rfl,bel⟩
 by_cases h0:0<n
 ·have HF:Hid (Af ⟨0,0,0,false,lo,hi⟩ n=2):=by show _=_;simp[Af, *];try omega
  go_enter Tryz.func190,Tryz.ntmps190;go_wp2;go_ret;exact⟨by rw[HF.out];rfl,bel⟩
 obtain rfl:n=0:=by omega
 clear h0;by_cases h1:lo=0
 case neg=>
  have a6:(lo !=0)=true:=by simpa using h1
  have HF:Hid (Af ⟨0,0,0,false,lo,hi⟩ 0=2):=by show _=_;simp[Af, *];try omega
  go_enter Tryz.func190,Tryz.ntmps190;go_wp2;go_ret;exact⟨by rw[HF.out];rfl,bel⟩
 subst h1;by_cases h2:hi=0
 case neg=>
  have a5:(hi !=0)=true:=by simpa using h2
  have HF:Hid (Af ⟨0,0,0,false,0,hi⟩ 0=2):=by show _=_;simp[Af, *];try omega
  go_enter Tryz.func190,Tryz.ntmps190;go_wp2;go_ret;exact⟨by rw[HF.out];rfl,bel⟩
 subst h2;have HF:Hid (Af ⟨0,0,0,false,0,0⟩ 0=0):=by show _=_;simp[Af, *];try omega
 have a1:U32 0:=⟨by decide,by decide⟩;have HU:=hI a1;clear a1;go_enter Tryz.func190,Tryz.ntmps190;go_wp2_with fail;refine(F1 0 0 _ HU.out HU.out).mono ?_;rintro e w1 ⟨rfl,a2⟩;rw[D4];have a3:Below w.heap.size w w1:=Below.step (by assumption) (by simp) bel;clear a2;go_wp2;go_ret;exact⟨by rw[HF.out];rfl,a3⟩
theorem Amw (isp ism:Int)(neg:Bool)(lo hi:Int)(A:Option Addr)(n c:Nat)(w:World)(hn:n<=9223372036854775807):
  Calls Tryz.prog 190 #[E3 ⟨2,isp,ism,neg,lo,hi⟩ A n c] w fun e w'=>e= .returned (.int .i64 (Af ⟨2,isp,ism,neg,lo,hi⟩ n))/\Below w.heap.size w w':=by
 by_cases hz1:isp=0
 case neg=>
  have a4:(isp==0)=false:=by simpa using hz1
  have a0:(isp !=0)=true:=by simpa using hz1
  clear hz1;have HF:Hid (Af ⟨2,isp,ism,neg,lo,hi⟩ n=2):=by show _=_;simp[Af, *];try omega
  go_enter Tryz.func190,Tryz.ntmps190;go_wp2;go_ret;exact⟨by rw[HF.out];rfl,bel⟩
 subst hz1;by_cases hz2:ism=0
 case neg=>
  have a4:(ism==0)=false:=by simpa using hz2
  have a0:(ism !=0)=true:=by simpa using hz2
  clear hz2;have HF:Hid (Af ⟨2,0,ism,neg,lo,hi⟩ n=2):=by show _=_;simp[Af, *];try omega
  go_enter Tryz.func190,Tryz.ntmps190;go_wp2;go_ret;exact⟨by rw[HF.out];rfl,bel⟩
 subst hz2;cases neg
 case true=>have HF:Hid (Af ⟨2,0,0,true,lo,hi⟩ n=2):=by show _=_;simp[Af, *];try omega
            go_enter Tryz.func190,Tryz.ntmps190;go_wp2;go_ret;exact⟨by rw[HF.out];rfl,bel⟩
 by_cases h0:0<n
 ·have HF:Hid (Af ⟨2,0,0,false,lo,hi⟩ n=2):=by show _=_;simp[Af, *];try omega
  go_enter Tryz.func190,Tryz.ntmps190;go_wp2;go_ret;exact⟨by rw[HF.out];rfl,bel⟩
 obtain rfl:n=0:=by omega
 clear h0;by_cases h1:lo=0
 case neg=>
  have a6:(lo !=0)=true:=by simpa using h1
  have HF:Hid (Af ⟨2,0,0,false,lo,hi⟩ 0=2):=by show _=_;simp[Af, *];try omega
  go_enter Tryz.func190,Tryz.ntmps190;go_wp2;go_ret;exact⟨by rw[HF.out];rfl,bel⟩
 subst h1;by_cases h2:hi=0
 case neg=>
  have a5:(hi !=0)=true:=by simpa using h2
  have HF:Hid (Af ⟨2,0,0,false,0,hi⟩ 0=2):=by show _=_;simp[Af, *];try omega
  go_enter Tryz.func190,Tryz.ntmps190;go_wp2;go_ret;exact⟨by rw[HF.out];rfl,bel⟩
 subst h2;have HF:Hid (Af ⟨2,0,0,false,0,0⟩ 0=0):=by show _=_;simp[Af, *];try omega
 have a1:U32 0:=⟨by decide,by decide⟩;have HU:=hI a1;clear a1;go_enter Tryz.func190,Tryz.ntmps190;go_wp2_with fail;refine(F1 0 0 _ HU.out HU.out).mono ?_;rintro e w1 ⟨rfl,a2⟩;rw[D4];have a3:Below w.heap.size w w1:=Below.step (by assumption) (by simp) bel;clear a2;go_wp2;go_ret;exact⟨by rw[HF.out];rfl,a3⟩
theorem Amx (isp ism:Int)(neg:Bool)(lo hi:Int)(A:Option Addr)(n c:Nat)(w:World)(hn:n<=9223372036854775807):
  Calls Tryz.prog 190 #[E3 ⟨6,isp,ism,neg,lo,hi⟩ A n c] w fun e w'=>e= .returned (.int .i64 (Af ⟨6,isp,ism,neg,lo,hi⟩ n))/\Below w.heap.size w w':=by
 by_cases hz1:isp=0
 case neg=>
  have a4:(isp==0)=false:=by simpa using hz1
  have a0:(isp !=0)=true:=by simpa using hz1
  clear hz1;have HF:Hid (Af ⟨6,isp,ism,neg,lo,hi⟩ n=2):=by show _=_;simp[Af, *];try omega
  go_enter Tryz.func190,Tryz.ntmps190;go_wp2;go_ret;exact⟨by rw[HF.out];rfl,bel⟩
 subst hz1;by_cases hz2:ism=0
 case neg=>
  have a4:(ism==0)=false:=by simpa using hz2
  have a0:(ism !=0)=true:=by simpa using hz2
  clear hz2;have HF:Hid (Af ⟨6,0,ism,neg,lo,hi⟩ n=2):=by show _=_;simp[Af, *];try omega
  go_enter Tryz.func190,Tryz.ntmps190;go_wp2;go_ret;exact⟨by rw[HF.out];rfl,bel⟩
 subst hz2;cases neg
 case true=>have HF:Hid (Af ⟨6,0,0,true,lo,hi⟩ n=2):=by show _=_;simp[Af, *];try omega
            go_enter Tryz.func190,Tryz.ntmps190;go_wp2;go_ret;exact⟨by rw[HF.out];rfl,bel⟩
 by_cases h0:0<n
 ·have HF:Hid (Af ⟨6,0,0,false,lo,hi⟩ n=2):=by show _=_;simp[Af, *];try omega
  go_enter Tryz.func190,Tryz.ntmps190;go_wp2;go_ret;exact⟨by rw[HF.out];rfl,bel⟩
 obtain rfl:n=0:=by omega
 clear h0;by_cases h1:lo=0
 case neg=>
  have a6:(lo !=0)=true:=by simpa using h1
  have HF:Hid (Af ⟨6,0,0,false,lo,hi⟩ 0=2):=by show _=_;simp[Af, *];try omega
  go_enter Tryz.func190,Tryz.ntmps190;go_wp2;go_ret;exact⟨by rw[HF.out];rfl,bel⟩
 subst h1;by_cases h2:hi=0
 case neg=>
  have a5:(hi !=0)=true:=by simpa using h2
  have HF:Hid (Af ⟨6,0,0,false,0,hi⟩ 0=2):=by show _=_;simp[Af, *];try omega
  go_enter Tryz.func190,Tryz.ntmps190;go_wp2;go_ret;exact⟨by rw[HF.out];rfl,bel⟩
 subst h2;have HF:Hid (Af ⟨6,0,0,false,0,0⟩ 0=0):=by show _=_;simp[Af, *];try omega
 have a1:U32 0:=⟨by decide,by decide⟩;have HU:=hI a1;clear a1;go_enter Tryz.func190,Tryz.ntmps190;go_wp2_with fail;refine(F1 0 0 _ HU.out HU.out).mono ?_;rintro e w1 ⟨rfl,a2⟩;rw[D4];have a3:Below w.heap.size w w1:=Below.step (by assumption) (by simp) bel;clear a2;go_wp2;go_ret;exact⟨by rw[HF.out];rfl,a3⟩
theorem Amy (isp ism:Int)(neg:Bool)(lo hi:Int)(A:Option Addr)(n c:Nat)(w:World)(hn:n<=9223372036854775807):
  Calls Tryz.prog 190 #[E3 ⟨3,isp,ism,neg,lo,hi⟩ A n c] w fun e w'=>e= .returned (.int .i64 (Af ⟨3,isp,ism,neg,lo,hi⟩ n))/\Below w.heap.size w w':=by
 by_cases hz1:isp=0
 case neg=>
  have a4:(isp==0)=false:=by simpa using hz1
  have a0:(isp !=0)=true:=by simpa using hz1
  clear hz1;have HF:Hid (Af ⟨3,isp,ism,neg,lo,hi⟩ n=2):=by show _=_;simp[Af, *];try omega
  go_enter Tryz.func190,Tryz.ntmps190;go_wp2;go_ret;exact⟨by rw[HF.out];rfl,bel⟩
 subst hz1;by_cases hz2:ism=0
 case neg=>
  have a4:(ism==0)=false:=by simpa using hz2
  have a0:(ism !=0)=true:=by simpa using hz2
  clear hz2;have HF:Hid (Af ⟨3,0,ism,neg,lo,hi⟩ n=2):=by show _=_;simp[Af, *];try omega
  go_enter Tryz.func190,Tryz.ntmps190;go_wp2;go_ret;exact⟨by rw[HF.out];rfl,bel⟩
 subst hz2;cases neg
 case true=>have HF:Hid (Af ⟨3,0,0,true,lo,hi⟩ n=2):=by show _=_;simp[Af, *];try omega
            go_enter Tryz.func190,Tryz.ntmps190;go_wp2;go_ret;exact⟨by rw[HF.out];rfl,bel⟩
 by_cases h1:lo=0
 case neg=>
  have a6:(lo !=0)=true:=by simpa using h1
  have HF:Hid (Af ⟨3,0,0,false,lo,hi⟩ n=2):=by show _=_;simp[Af, *];try omega
  go_enter Tryz.func190,Tryz.ntmps190;go_wp2;go_ret;exact⟨by rw[HF.out];rfl,bel⟩
 subst h1;by_cases h2:hi=0
 case neg=>
  have a5:(hi !=0)=true:=by simpa using h2
  have HF:Hid (Af ⟨3,0,0,false,0,hi⟩ n=2):=by show _=_;simp[Af, *];try omega
  go_enter Tryz.func190,Tryz.ntmps190;go_wp2;go_ret;exact⟨by rw[HF.out];rfl,bel⟩
 subst h2;have HF:Hid (Af ⟨3,0,0,false,0,0⟩ n=0):=by show _=_;simp[Af, *];try omega
 have a1:U32 0:=⟨by decide,by decide⟩;have HU:=hI a1;clear a1;go_enter Tryz.func190,Tryz.ntmps190;go_wp2_with fail;refine(F1 0 0 _ HU.out HU.out).mono ?_;rintro e w1 ⟨rfl,a2⟩;rw[D4];have a3:Below w.heap.size w w1:=Below.step (by assumption) (by simp) bel;clear a2;go_wp2;go_ret;exact⟨by rw[HF.out];rfl,a3⟩
theorem Amz (isp ism:Int)(neg:Bool)(lo hi:Int)(A:Option Addr)(n c:Nat)(w:World)(hn:n<=9223372036854775807):
  Calls Tryz.prog 190 #[E3 ⟨4,isp,ism,neg,lo,hi⟩ A n c] w fun e w'=>e= .returned (.int .i64 (Af ⟨4,isp,ism,neg,lo,hi⟩ n))/\Below w.heap.size w w':=by
 by_cases hz1:isp=0
 case neg=>
  have a4:(isp==0)=false:=by simpa using hz1
  have a0:(isp !=0)=true:=by simpa using hz1
  clear hz1;have HF:Hid (Af ⟨4,isp,ism,neg,lo,hi⟩ n=2):=by show _=_;simp[Af, *];try omega
  go_enter Tryz.func190,Tryz.ntmps190;go_wp2;go_ret;exact⟨by rw[HF.out];rfl,bel⟩
 subst hz1;by_cases hz2:ism=0
 case neg=>
  have a4:(ism==0)=false:=by simpa using hz2
  have a0:(ism !=0)=true:=by simpa using hz2
  clear hz2;have HF:Hid (Af ⟨4,0,ism,neg,lo,hi⟩ n=2):=by show _=_;simp[Af, *];try omega
  go_enter Tryz.func190,Tryz.ntmps190;go_wp2;go_ret;exact⟨by rw[HF.out];rfl,bel⟩
 subst hz2;cases neg
 case true=>have HF:Hid (Af ⟨4,0,0,true,lo,hi⟩ n=2):=by show _=_;simp[Af, *];try omega
            go_enter Tryz.func190,Tryz.ntmps190;go_wp2;go_ret;exact⟨by rw[HF.out];rfl,bel⟩
 by_cases h1:lo=0
 case neg=>
  have a6:(lo !=0)=true:=by simpa using h1
  have HF:Hid (Af ⟨4,0,0,false,lo,hi⟩ n=2):=by show _=_;simp[Af, *];try omega
  go_enter Tryz.func190,Tryz.ntmps190;go_wp2;go_ret;exact⟨by rw[HF.out];rfl,bel⟩
 subst h1;by_cases h2:hi=0
 case neg=>
  have a5:(hi !=0)=true:=by simpa using h2
  have HF:Hid (Af ⟨4,0,0,false,0,hi⟩ n=2):=by show _=_;simp[Af, *];try omega
  go_enter Tryz.func190,Tryz.ntmps190;go_wp2;go_ret;exact⟨by rw[HF.out];rfl,bel⟩
 subst h2;have HF:Hid (Af ⟨4,0,0,false,0,0⟩ n=0):=by show _=_;simp[Af, *];try omega
 have a1:U32 0:=⟨by decide,by decide⟩;have HU:=hI a1;clear a1;go_enter Tryz.func190,Tryz.ntmps190;go_wp2_with fail;refine(F1 0 0 _ HU.out HU.out).mono ?_;rintro e w1 ⟨rfl,a2⟩;rw[D4];have a3:Below w.heap.size w w1:=Below.step (by assumption) (by simp) bel;clear a2;go_wp2;go_ret;exact⟨by rw[HF.out];rfl,a3⟩
theorem Am0 (isp ism:Int)(neg:Bool)(lo hi:Int)(A:Option Addr)(n c:Nat)(w:World)(hn:n<=9223372036854775807)(hp:U32 isp)(hm:U32 ism):
  Calls Tryz.prog 190 #[E3 ⟨1,isp,ism,neg,lo,hi⟩ A n c] w fun e w'=>e= .returned (.int .i64 (Af ⟨1,isp,ism,neg,lo,hi⟩ n))/\Below w.heap.size w w':=by
 have HP:=hI hp;clear hp;have HM:=hI hm;clear hm;by_cases h0:0<n
 ·have HF:Hid (Af ⟨1,isp,ism,neg,lo,hi⟩ n=2):=by show _=_;simp[Af, *];try omega
  go_enter Tryz.func190,Tryz.ntmps190;go_wp2;go_ret;exact⟨by rw[HF.out];rfl,bel⟩
 obtain rfl:n=0:=by omega
 clear h0;by_cases h1:lo=0
 case neg=>
  have a3:(lo !=0)=true:=by simpa using h1
  have HF:Hid (Af ⟨1,isp,ism,neg,lo,hi⟩ 0=2):=by show _=_;simp[Af, *];try omega
  go_enter Tryz.func190,Tryz.ntmps190;go_wp2;go_ret;exact⟨by rw[HF.out];rfl,bel⟩
 subst h1;by_cases h2:hi=0
 case neg=>
  have a2:(hi !=0)=true:=by simpa using h2
  have HF:Hid (Af ⟨1,isp,ism,neg,0,hi⟩ 0=2):=by show _=_;simp[Af, *];try omega
  go_enter Tryz.func190,Tryz.ntmps190;go_wp2;go_ret;exact⟨by rw[HF.out];rfl,bel⟩
 subst h2;have HF:Hid (Af ⟨1,isp,ism,neg,0,0⟩ 0=if Co isp ism then 0 else 14):=by show _=_;simp[Af]
 go_enter Tryz.func190,Tryz.ntmps190;go_wp2_with fail;refine(F1 isp ism _ HP.out HM.out).mono ?_;rintro e w1 ⟨rfl,a1⟩;have a0:Below w.heap.size w w1:=Below.step (by assumption) (by simp) bel;clear a1;obtain⟨v,hv⟩:∃v,v=Co isp ism:=⟨_,rfl⟩;rw[←hv];have HV:=hI hv;clear hv;cases v
 ·go_wp2;go_ret;exact⟨by rw[HF.out,←HV.out];rfl,a0⟩
 ·go_wp2;go_ret;exact⟨by rw[HF.out,←HV.out];rfl,a0⟩
theorem Am1 (isp ism:Int)(neg:Bool)(lo hi:Int)(A:Option Addr)(n c:Nat)(w:World)(hn:n<=9223372036854775807):
  Calls Tryz.prog 190 #[E3 ⟨5,isp,ism,neg,lo,hi⟩ A n c] w fun e w'=>e= .returned (.int .i64 (Af ⟨5,isp,ism,neg,lo,hi⟩ n))/\Below w.heap.size w w':=by
 by_cases hz1:isp=0
 case neg=>
  have a8:(isp==0)=false:=by simpa using hz1
  have a1:(isp !=0)=true:=by simpa using hz1
  clear hz1;have HF:Hid (Af ⟨5,isp,ism,neg,lo,hi⟩ n=2):=by show _=_;simp[Af, *];try omega
  go_enter Tryz.func190,Tryz.ntmps190;go_wp2;go_ret;exact⟨by rw[HF.out];rfl,bel⟩
 subst hz1;by_cases hz2:ism=0
 case neg=>
  have a8:(ism==0)=false:=by simpa using hz2
  have a1:(ism !=0)=true:=by simpa using hz2
  clear hz2;have HF:Hid (Af ⟨5,0,ism,neg,lo,hi⟩ n=2):=by show _=_;simp[Af, *];try omega
  go_enter Tryz.func190,Tryz.ntmps190;go_wp2;go_ret;exact⟨by rw[HF.out];rfl,bel⟩
 subst hz2;cases neg
 case true=>have HF:Hid (Af ⟨5,0,0,true,lo,hi⟩ n=2):=by show _=_;simp[Af, *];try omega
            go_enter Tryz.func190,Tryz.ntmps190;go_wp2;go_ret;exact⟨by rw[HF.out];rfl,bel⟩
 by_cases h1:n=1
 case neg=>
  have b1:((n:Int) !=1)=true:=by simp;omega
  have a7:(n !=1)=true:=by simpa using h1
  have HF:Hid (Af ⟨5,0,0,false,lo,hi⟩ n=2):=by show _=_;simp[Af, *];try omega
  go_enter Tryz.func190,Tryz.ntmps190;go_wp2;go_ret;exact⟨by rw[HF.out];rfl,bel⟩
 subst h1;by_cases h2:lo<0
 ·have a6:decide (lo<0)=true:=decide_eq_true h2;have HF:Hid (Af ⟨5,0,0,false,lo,hi⟩ 1=2):=by show _=_;simp[Af, *];try omega
  go_enter Tryz.func190,Tryz.ntmps190;go_wp2;go_ret;exact⟨by rw[HF.out];rfl,bel⟩
 have a6:decide (lo<0)=false:=decide_eq_false h2;by_cases h3:32<lo
 ·have a9:decide (32<lo)=true:=decide_eq_true h3;have HF:Hid (Af ⟨5,0,0,false,lo,hi⟩ 1=2):=by show _=_;simp[Af, *];try omega
  go_enter Tryz.func190,Tryz.ntmps190;go_wp2;go_ret;exact⟨by rw[HF.out];rfl,bel⟩
 have a9:decide (32<lo)=false:=decide_eq_false h3;by_cases h4:hi= -1
 ·subst h4;have HF:Hid (Af ⟨5,0,0,false,lo,(-1)⟩ 1=0):=by show _=_;simp[Af, *];try omega
  have a0:U32 0:=⟨by decide,by decide⟩;have HU:=hI a0;clear a0;go_enter Tryz.func190,Tryz.ntmps190;go_wp2_with fail;refine(F1 0 0 _ HU.out HU.out).mono ?_;rintro e w1 ⟨rfl,a3⟩;rw[D4];have a2:Below w.heap.size w w1:=Below.step (by assumption) (by simp) bel;clear a3;go_wp2;go_ret;exact⟨by rw[HF.out];rfl,a2⟩
 have b0:(hi != -1)=true:=by simpa using h4
 by_cases h5:hi<lo
 ·have a4:decide (hi<lo)=true:=decide_eq_true h5;have HF:Hid (Af ⟨5,0,0,false,lo,hi⟩ 1=2):=by show _=_;simp[Af, *];try omega
  go_enter Tryz.func190,Tryz.ntmps190;go_wp2;go_ret;exact⟨by rw[HF.out];rfl,bel⟩
 have a4:decide (hi<lo)=false:=decide_eq_false h5;by_cases h6:32<hi
 ·have a5:decide (32<hi)=true:=decide_eq_true h6;have HF:Hid (Af ⟨5,0,0,false,lo,hi⟩ 1=2):=by show _=_;simp[Af, *];try omega
  go_enter Tryz.func190,Tryz.ntmps190;go_wp2;go_ret;exact⟨by rw[HF.out];rfl,bel⟩
 have a5:decide (32<hi)=false:=decide_eq_false h6;have HF:Hid (Af ⟨5,0,0,false,lo,hi⟩ 1=0):=by show _=_;simp[Af, *];try omega
 have a0:U32 0:=⟨by decide,by decide⟩;have HU:=hI a0;clear a0;go_enter Tryz.func190,Tryz.ntmps190;go_wp2_with fail;refine(F1 0 0 _ HU.out HU.out).mono ?_;rintro e w1 ⟨rfl,a3⟩;rw[D4];have a2:Below w.heap.size w w1:=Below.step (by assumption) (by simp) bel;clear a3;go_wp2;go_ret;exact⟨by rw[HF.out];rfl,a2⟩
theorem Akc (k:Nd)(A:Option Addr)(n c:Nat)(w:World)(hk:k.kind<0\/6<k.kind):
  Calls Tryz.prog 190 #[E3 k A n c] w fun e w'=>e= .returned (.int .i64 (Af k n))/\Below w.heap.size w w':=by
 obtain⟨kind,isp,ism,neg,lo,hi⟩:=k;have a0:kind<0\/6<kind:=hk
 have HF:Hid (Af ⟨kind,isp,ism,neg,lo,hi⟩ n=2):=by
  show _=_;unfold Af;dsimp only;rw[if_neg (by omega),if_neg (by omega),if_neg (by omega),if_neg (by omega)]
 clear hk;rcases a0 with h|h
 ·go_enter Tryz.func190,Tryz.ntmps190;go_wp2;go_ret;exact⟨by rw[HF.out];rfl,bel⟩
 ·have h':¬kind<0:=by omega
  go_enter Tryz.func190,Tryz.ntmps190;go_wp2;go_ret;exact⟨by rw[HF.out];rfl,bel⟩
def NdU (k:Nd):Prop:=U32 k.isp/\U32 k.ism
def FoU:Fo->Prop
 | .nil=>True
 | .node k ch nx=>NdU k/\FoU ch/\FoU nx
theorem Aly (k:Nd)(A:Option Addr)(n c:Nat)(w:World)(hn:n<=9223372036854775807)(hu:NdU k):
  Calls Tryz.prog 190 #[E3 k A n c] w fun e w'=>e= .returned (.int .i64 (Af k n))/\Below w.heap.size w w':=by
 by_cases h:k.kind<0\/6<k.kind
 ·exact Akc k A n c w h
 ·obtain⟨kind,isp,ism,neg,lo,hi⟩:=k;dsimp only at h;rcases(by omega:kind=0\/kind=1\/kind=2\/kind=3\/kind=4\/kind=5\/kind=6)with rfl|rfl|rfl|rfl|rfl|rfl|rfl
  ·exact Amv isp ism neg lo hi A n c w hn
  ·exact Am0 isp ism neg lo hi A n c w hn hu.1 hu.2
  ·exact Amw isp ism neg lo hi A n c w hn
  ·exact Amy isp ism neg lo hi A n c w hn
  ·exact Amz isp ism neg lo hi A n c w hn
  ·exact Am1 isp ism neg lo hi A n c w hn
  ·exact Amx isp ism neg lo hi A n c w hn
def Dm:Fo->Nat->Nat×Int
 | .nil,n=>(n,0)
 | .node k ch nx,n=>
  if n=40 then(n,12)else if Af k ch.len≠0 then(n,Af k ch.len)
  else if(Dm ch (n+1)).2≠0 then Dm ch (n+1)else Dm nx (Dm ch (n+1)).1
def Fj (k:Nd)(ch:Fo)(n:Nat):Nat×Int:=Dm (.node k ch .nil) n
theorem Aeg (k:Nd)(ch nx:Fo)(n:Nat):Dm (.node k ch nx) n=if(Fj k ch n).2≠0 then Fj k ch n else Dm nx (Fj k ch n).1:=by
 unfold Fj;simp only[Dm];by_cases a1:n=40
 ·simp[a1]
 ·by_cases a2:Af k ch.len=0
  ·by_cases a3:(Dm ch (n+1)).2=0
   ·simp[a1,a2,a3]
   ·simp[a1,a2,a3]
  ·simp[a1,a2]
def Fo.drop:Nat->Fo->Fo
 |0,f=>f
 |_+1, .nil=> .nil
 |i+1, .node _ _ nx=>nx.drop i
theorem Fo.drop_get:∀(f:Fo) (i:Nat) (k:Nd) (ch:Fo),f.get i=some (k,ch)->f.drop i= .node k ch (f.drop (i+1))
 | .nil,i,k,ch,h=>by simp[Fo.get]at h
 | .node k0 ch0 nx,0,k,ch,h=>by
  obtain⟨rfl,rfl⟩:k0=k/\ch0=ch:=by simpa[Fo.get]using h
  cases nx<;>rfl
 | .node k0 ch0 nx,i+1,k,ch,h=>by
  have:=Fo.drop_get nx i k ch (by simpa[Fo.get]using h)
  simpa[Fo.drop]using this
theorem Fo.drop_len:∀f:Fo,f.drop f.len= .nil
 | .nil=>rfl
 | .node _ _ nx=>by simpa[Fo.drop,Fo.len]using Fo.drop_len nx
theorem FoU.get:∀(f:Fo) (i:Nat) (k:Nd) (ch:Fo),FoU f->f.get i=some (k,ch)->NdU k/\FoU ch
 | .nil,i,k,ch,_,h=>by simp[Fo.get]at h
 | .node k0 ch0 nx,0,k,ch,hu,h=>by
  obtain⟨rfl,rfl⟩:k0=k/\ch0=ch:=by simpa[Fo.get]using h
  exact⟨hu.1,hu.2.1⟩
 | .node k0 ch0 nx,i+1,k,ch,hu,h=>FoU.get nx i k ch hu.2.2 (by simpa[Fo.get]using h)
theorem Nq:∀(f:Fo) (n:Nat),n<=40->(Dm f n).1<=40
 | .nil,n,h=>h
 | .node k ch nx,n,h=>by
  rw[Dm];by_cases h1:n=40
  ·rw[if_pos h1];exact h
  ·rw[if_neg h1];split
   ·exact h
   ·have h2:=Nq ch (n+1) (by omega);split
    ·exact h2
    ·exact Nq nx _ h2
def Akd (k:Nd)(ch:Fo):Prop:=∀(w:World) (A:Option Addr) (n c m:Nat),FSl w A n c ch->NdU k->FoU ch->m<=40→
 Calls Tryz.prog 178 #[E3 k A n c, .int .i64 m] w fun e w'=>e= .returned (.tuple #[.int .i64 ((Fj k ch m).1:Nat), .int .i64 (Fj k ch m).2])/\Below w.heap.size w w'
theorem Vf (k:Nd)(ch:Fo)(ih:∀j k' ch',ch.get j=some (k',ch')->Akd k' ch'):Akd k ch:=by
 intro w A n c m hs hk hu hm;have hn:n<=9223372036854775807:=by have h1:=hs.1.2.1;have h2:=hs.1.2.2.1;unfold maxLen at h2;omega
 have a4:n=ch.len:=hs.1.1;have HI:=hI ih;clear ih;have HS:=hI hs;clear hs;have HU:=hI hu;clear hu;by_cases h40:m=40
 ·have HR:Hid (Fj k ch m=(m,12)):=by show _=_;unfold Fj;rw[Dm,if_pos h40]
  subst h40;obtain⟨kind,isp,ism,neg,lo,hi⟩:=k;go_enter Tryz.func178,Tryz.ntmps178;go_wp2
  go_ret2
  exact⟨by rw[HR.out];rfl,bel⟩
 have d3:m<40:=by omega
 have d4:((m:Int)==40)=false:=by simp;omega
 clear h40 hm;obtain⟨er,a5⟩:∃er,er=Af k ch.len:=⟨_,rfl⟩
 have HW:Hid (Fj k ch m=if er≠0 then(m,er)else if(Dm ch (m+1)).2≠0 then Dm ch (m+1)else((Dm ch (m+1)).1,0)):=by
  show _=_;unfold Fj;rw[Dm,if_neg (by omega),←a5];rfl
 have a0:=Aly k A n c;rw[a4]at a0;obtain⟨kind,isp,ism,neg,lo,hi⟩:=k;rw[←a5]at a0;have HC:=hI a0;clear a0 a5;subst a4;go_enter Tryz.func178,Tryz.ntmps178;go_wp2_with fail;have k0:(w.alloc (.cells #[.int .i64 kind, .int .u32 isp, .int .u32 ism, .bool neg, .int .i64 lo, .int .i64 hi, .slice A ch.len c] 52)).heap[w.heap.size]? =some (.cells #[.int .i64 kind, .int .u32 isp, .int .u32 ism, .bool neg, .int .i64 lo, .int .i64 hi, .slice A ch.len c] 52 (0,0)):=Ak rfl;have kB:Below w.heap.size w (w.alloc (.cells #[.int .i64 kind, .int .u32 isp, .int .u32 ism, .bool neg, .int .i64 lo, .int .i64 hi, .slice A ch.len c] 52)):=bel;generalize(w.alloc (.cells #[.int .i64 kind, .int .u32 isp, .int .u32 ism, .bool neg, .int .i64 lo, .int .i64 hi, .slice A ch.len c] 52))=V0 at*;refine(HC.out V0 hn hk).mono ?_;rintro e w1 ⟨rfl,a1⟩;have k1:=hI ((a1.block _ (lt_of_block k0)).trans k0);have a2:=kB.trans (a1.mono kB.size);clear a1 kB k0 HC;by_cases h0:er=0
 case neg=>
  have h1:(er !=0)=true:=by simpa using h0
  have HR:Hid (Fj ⟨kind,isp,ism,neg,lo,hi⟩ ch m=(m,er)):=by show _=_;rw[HW.out,if_pos h0]
  clear h0;go_wp2
  go_ret2
  exact⟨by rw[HR.out];rfl,a2⟩
 subst h0;have b0:Hid (Fj ⟨kind,isp,ism,neg,lo,hi⟩ ch m=if(Dm ch (m+1)).2≠0 then Dm ch (m+1)else((Dm ch (m+1)).1,0)):=by show _=_;rw[HW.out,if_neg (by simp)]
 clear HW;have a9:=hI a2;clear a2;have b5:=a9.out.size;go_wp2
 go_loopw [7,8] (fun nv i wr=>∃(j q:Nat),i= .int .i64 j/\nv= .int .i64 q/\j<=ch.len/\q<=40/\Hid (Dm ch (m+1)=Dm (ch.drop j) q)/\Hid (wr.heap[w.heap.size]? =some (.cells #[.int .i64 kind, .int .u32 isp, .int .u32 ism, .bool neg, .int .i64 lo, .int .i64 hi, .slice A ch.len c] 52 (0,0)))/\Below w.heap.size w wr) (fun _ i _=>ch.len-(intOf i).toNat)
 case atStart=>exact⟨0,m+1,rfl,by go_num,Nat.zero_le _,by omega,rfl,k1,a9.out⟩
 case round=>
  obtain⟨j,q,rfl,rfl,hj,hq,a6,hb,hB⟩:=hrel;have b9:=hB.size;have b7:=Ad (j:=6) hb.out rfl;by_cases hlt:j<ch.len
  ·obtain⟨⟨k',ch'⟩,hg⟩:=ch.get_lt j hlt;obtain⟨b,off,A',n',c',hA,d2,⟨h0,h1,h2,h3,h4,h5,h6⟩,⟨rfl,b8⟩,a3,_⟩:=(HS.out.below hB rr).2.at_ ch _ 0 j k' ch' hg;obtain⟨a8,b1⟩:=FoU.get ch j k' ch' HU.out hg;have hd:=Fo.drop_get ch j k' ch' hg
   have HD:Hid (Dm (ch.drop j) q=if(Fj k' ch' q).2≠0 then Fj k' ch' q else Dm (ch.drop (j+1)) (Fj k' ch' q).1):=by
    show _=_;rw[hd];exact Aeg _ _ _ _
   have a7:(Fj k' ch' q).1<=40:=Nq _ _ hq;have HG:=hI hg;clear hg hd;have b3:=hI a3;clear a3;have b2:=hI a8;clear a8;have d1:=hI b1;clear b1;subst hA;simp only[Nat.zero_add]at h0 h1 h2 h3 h4 h5 h6;go_wp2_with fail;refine(HI.out j k' ch' HG.out wr A' _ c' q ⟨⟨rfl,b8⟩,b3.out⟩ b2.out d1.out hq).mono ?_;rintro e w1 ⟨rfl,a1⟩;have b6:=hI ((a1.block w.heap.size (lt_of_block hb.out)).trans hb.out);have a2:=hB.trans (a1.mono b9);obtain⟨r,hr⟩:∃r,r=Fj k' ch' q:=⟨_,rfl⟩;rw[←hr]at HD a7 ⊢;clear a1 h0 h1 h2 h3 h4 h5 h6 b7 hr;obtain⟨r1,r2⟩:=r;by_cases hr2:r2=0
   ·have HN:Hid (Dm ch (m+1)=Dm (ch.drop (j+1)) r1):=by show _=_;rw[a6.out,HD.out,if_neg (by simpa using hr2)]
    have d0:r1<=40:=a7;clear a7;subst hr2;go_wp2
    go_roundw
    case rel=>exact⟨j+1,r1,by go_num,rfl,by omega,d0,HN,b6,a2⟩
    case measure=>simp[intOf];omega
   ·have HN:Hid (Fj ⟨kind,isp,ism,neg,lo,hi⟩ ch m=(r1,r2)):=by
     show _=_;have h1:Dm ch (m+1)=(r1,r2):=by rw[a6.out,HD.out,if_pos hr2]
     rw[b0.out,h1,if_pos hr2]
    have b4:(r2 !=0)=true:=by simpa using hr2
    clear hr2;go_wp2
    go_ret2
    exact⟨by rw[HN.out];rfl,a2⟩
  ·obtain rfl:j=ch.len:=by omega
   have HN:Hid (Fj ⟨kind,isp,ism,neg,lo,hi⟩ ch m=(q,0)):=by
    show _=_;have h1:Dm ch (m+1)=(q,0):=by rw[a6.out,Fo.drop_len];rfl
    rw[b0.out,h1,if_neg (by simp)]
   go_wp2
   go_ret2
   exact⟨by rw[HN.out];rfl,hB⟩
theorem Sy:∀(f:Fo) (j:Nat) (k:Nd) (ch:Fo),f.get j=some (k,ch)->Akd k ch
 | .node k0 ch0 nx,0,k,ch,hg=>by
  obtain⟨rfl,rfl⟩:k0=k/\ch0=ch:=by simpa[Fo.get]using hg
  exact Vf _ _ (Sy ch0)
 | .node k0 ch0 nx,j+1,k,ch,hg=>Sy nx j k ch (by simpa[Fo.get]using hg)
theorem Alz (k:Nd)(ch:Fo):Akd k ch:=Vf k ch (Sy ch)
theorem Qj:∀(f:Nat) (l l':List (Nd×Fo)),l.take (f+1)=l'.take (f+1)->Bp f l=Bp f l'
 |0,l,l',h=>by
  cases l with
  |nil=>cases l' with
   |nil=>rfl
   |cons b t=>simp at h
  |cons a s=>cases l' with
   |nil=>simp at h
   |cons b t=>rfl
 |f+1,l,l',h=>by
  cases l with
  |nil=>cases l' with
   |nil=>rfl
   |cons b t=>simp at h
  |cons a s=>cases l' with
   |nil=>simp at h
   |cons b t=>
    obtain⟨rfl,h2⟩:a=b/\s.take (f+1)=t.take (f+1):=by simpa using h
    obtain⟨k,ch⟩:=a;simp only[Bp];split
    ·refine Qj f _ _ ?_;rw[List.take_append,List.take_append];congr 1;have h3:=congrArg (List.take (f+1-(ch.list.take 41).length)) h2;rwa[List.take_take,List.take_take,Nat.min_eq_left (by omega)]at h3
    ·rfl
theorem Aeh (f:Nat)(hf:f<=40)(l st:List (Nd×Fo)):Bp f (l.take 41++st)=Bp f (l++st):=by
 refine Qj f _ _ ?_;rw[List.take_append,List.take_append,List.take_take,Nat.min_eq_left (by omega)];congr 1;by_cases h:l.length<=41
 ·rw[List.take_of_length_le h]
 ·rw[List.length_take,Nat.min_eq_left (by omega),show f+1-41=0 by omega,show f+1-l.length=0 by omega]
theorem Mi:∀(f:Fo) (n:Nat) (st:List (Nd×Fo)),n<=40->Bp (40-n) (f.list++st)=if(Dm f n).2≠0 then(Dm f n).2 else Bp (40-(Dm f n).1) st
 | .nil,n,st,_=>by simp[Dm,Fo.list]
 | .node k ch nx,n,st,hn=>by
  rw[Fo.list,List.cons_append];simp only[Dm];by_cases h1:n=40
  ·subst h1;simp[Bp]
  ·rw[show 40-n=(40-(n+1))+1 by omega,Bp];by_cases h2:Af k ch.len=0
   ·rw[if_pos h2,Aeh _ (by omega),Mi ch (n+1) _ (by omega)];by_cases h3:(Dm ch (n+1)).2=0
    ·simp only[h1,h2,h3,if_false,ne_eq,not_true_eq_false];exact Mi nx _ st (Nq _ _ (by omega))
    ·simp[h1,h2,h3]
   ·simp[h1,h2]
theorem Zi (k:Nd)(ch:Fo):Bp 40 [(k,ch)]=(Fj k ch 0).2:=by
 have h:=Mi (.node k ch .nil) 0 [] (by omega);rw[Fo.list,Fo.list,List.append_nil]at h;rw[show(40:Nat)=40-0 from rfl,h];unfold Fj;by_cases h1:(Dm (.node k ch .nil) 0).2=0
 ·rw[if_neg (by simpa using h1),h1];cases 40-(Dm (.node k ch .nil) 0).1<;>rfl
 ·rw[if_pos h1]
theorem Vg (k:Nd)(ch:Fo)(w:World)(A:Option Addr)(n c:Nat)(hs:FSl w A n c ch)(hk:NdU k)(hu:FoU ch):
  Calls Tryz.prog 158 #[E3 k A n c] w fun e w'=>e= .returned (.int .i64 (Bp 40 [(k,ch)]))/\Below w.heap.size w w':=by
 have HC:=hI (Zi k ch);have HW:=hI (Alz k ch);obtain⟨kind,isp,ism,neg,lo,hi⟩:=k;have HS:=hI hs;clear hs;have HU:=hI hu;clear hu;have HK:=hI hk;clear hk;go_enter Tryz.func158,Tryz.ntmps158;go_wp2_with fail;refine(HW.out _ A n c 0 (HS.out.below (B:=w.heap.size) bel rr) HK.out HU.out (by omega)).mono ?_;rintro e w1 ⟨rfl,a0⟩;have a1:Below w.heap.size w w1:=Below.step (by assumption) (by simp) bel;clear a0;go_wp2;go_ret;exact⟨by rw[HC.out];rfl,a1⟩
end Go.Proofs.YtaglfmlgbcmakaaGreatDoor
namespace Go.Proofs.YtaglfmlgbcmakaaGreatDoor
open Go.RowKit
def Bt (r:List Nat)(a b:Nat):Prop:=(r.getD a 0).testBit b=true
theorem Ak8:∀(y:List Nat) (s b:Nat),(G y s).testBit b=true↔∃m,s.testBit m=true/\(y.getD m 0).testBit b=true
 |[],s,b=>by simp[G]
 |v::ys,s,b=>by
  rw[G,Nat.testBit_or,Bool.or_eq_true,Ak8 ys];constructor
  ·rintro(h|⟨m,h1,h2⟩)
   ·by_cases h0:s%2=1
    ·rw[if_pos h0]at h;exact⟨0,by rw[Nat.testBit_zero];exact decide_eq_true h0,by simpa using h⟩
    ·rw[if_neg h0]at h;simp at h
   ·exact⟨m+1,by rw[Nat.testBit_succ];exact h1,by simpa using h2⟩
  ·rintro⟨m,h1,h2⟩
   cases m with
   |zero=>
    rw[Nat.testBit_zero]at h1;rw[if_pos (of_decide_eq_true h1)];exact .inl (by simpa using h2)
   |succ m=>exact .inr ⟨m,by rw[Nat.testBit_succ]at h1;exact h1,by simpa using h2⟩
theorem Zy (x y:List Nat)(a b:Nat):Bt (Dn x y) a b↔∃m,Bt x a m/\Bt y m b:=by
 unfold Bt
 have e:(Dn x y).getD a 0=G y (x.getD a 0):=by
  unfold Dn;rw[List.getD_eq_getElem?_getD,List.getD_eq_getElem?_getD,List.getElem?_map]
  cases x[a]? with
  |none=>simp[Abr]
  |some v=>rfl
 rw[e,Ak8]
theorem Aih {x y:List Nat}(h:x.length=y.length)(a b:Nat):Bt (orR x y) a b↔Bt x a b\/Bt y a b:=by
 unfold Bt
 have e:(orR x y).getD a 0=x.getD a 0 ||| y.getD a 0:=by
  unfold orR;rw[List.getD_eq_getElem?_getD,List.getD_eq_getElem?_getD,List.getD_eq_getElem?_getD,List.getElem?_zipWith];by_cases ha:a<x.length
  ·rw[List.getElem?_eq_getElem ha,List.getElem?_eq_getElem (show a<y.length by omega)];rfl
  ·rw[List.getElem?_eq_none (by omega),List.getElem?_eq_none (show y.length<=a by omega)];rfl
 rw[e,Nat.testBit_or,Bool.or_eq_true]
def It (R:Nat->Nat->Prop):Nat->Nat->Nat->Prop
 |0,a,b=>a=b
 |k+1,a,b=>∃m,R a m/\It R k m b
end Go.Proofs.YtaglfmlgbcmakaaGreatDoor
namespace Go.Proofs.YtaglfmlgbcmakaaGreatDoor
open Go.RowKit Go.Shelf
def Nr (w:World)(A:Option Addr)(n c:Nat)(l:List Nat):Prop:=Am w A n c 1 (l.map fun(s:Nat)=>Value.int .u64 (s:Int))
section tab
variable {w w':World}{A:Option Addr}{n c:Nat}{l:List Nat}
theorem Nr.len (h:Nr w A n c l):l.length=n:=by have:=h.1;simpa using this
theorem Nr.below (h:Nr w A n c l){B:Nat}(hb:Below B w w')(hB:w.heap.size<=B):Nr w' A n c l:=Am.below h hb hB
theorem Nr.max (h:Nr w A n c l):n<=c/\c<=9223372036854775807:=by have h1:=h.2.1;have h2:=h.2.2.1;unfold maxLen at h2;omega
theorem Nr.at_ (h:Nr w A n c l){k:Nat}(hk:k<n):∃b off s,A=some ⟨b,off,none⟩/\b<w.heap.size/\w.cell? ⟨b,off+k,none⟩=some (.int .u64 ((s:Nat):Int))/\l[k]? =some s:=by
 obtain⟨b,off,v,hA,hb,hv,hc⟩:=h.at1 hk;rw[List.getElem?_map]at hv
 cases hl:l[k]? with
 |none=>rw[hl]at hv;cases hv
 |some x=>
  rw[hl]at hv;obtain rfl:Value.int .u64 (x:Int)=v:=by simpa using hv
  exact⟨b,off,x,hA,hb,hc,rfl⟩
end tab
end Go.Proofs.YtaglfmlgbcmakaaGreatDoor
