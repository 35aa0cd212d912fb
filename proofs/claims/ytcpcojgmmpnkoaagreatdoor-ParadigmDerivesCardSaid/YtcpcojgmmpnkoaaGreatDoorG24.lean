/-
  ablautref06: node, walk, Check.
  ablautref06: walk, Check.
  Relations as tables, in plain words: what the relation of a pattern has at a place.
  ablautref06: same, follow, join, equal, satisfies.
-/
import Derived.Deep.OwnRows
import Derived.Test.YtcpcojgmmpnkoaaGreatDoorG23
import Derived.Test.YtcpcojgmmpnkoaaGreatDoorG18
set_option linter.all false
set_option maxRecDepth 100000
set_option maxHeartbeats 4000000
namespace Go.Proofs.YtcpcojgmmpnkoaaGreatDoor
open Go.RowKit Go.Shelf
theorem node0 (isp ism : Int) (neg : Bool) (lo hi : Int) (A : Option Addr) (n c : Nat) (w : World) (hn : n ≤ 9223372036854775807) :
  Calls Tryz.prog 208 #[patV ⟨0, isp, ism, neg, lo, hi⟩ A n c] w fun e w' => e = .returned (.int .i64 (allowedM ⟨0, isp, ism, neg, lo, hi⟩ n)) ∧ Below w.heap.size w w' := by
 by_cases hz1 : isp = 0
 case neg =>
  have hz' : (isp == 0) = false := by simpa using hz1
  have hz'' : (isp != 0) = true := by simpa using hz1
  clear hz1
  have HF : Hid (allowedM ⟨0, isp, ism, neg, lo, hi⟩ n = 2) := by show _ = _; simp [allowedM, *]; try omega
  go_enter Tryz.func208, Tryz.ntmps208
  go_wp2
  go_ret
  exact ⟨by rw [HF.out]; rfl, bel⟩
 subst hz1
 by_cases hz2 : ism = 0
 case neg =>
  have hz' : (ism == 0) = false := by simpa using hz2
  have hz'' : (ism != 0) = true := by simpa using hz2
  clear hz2
  have HF : Hid (allowedM ⟨0, 0, ism, neg, lo, hi⟩ n = 2) := by show _ = _; simp [allowedM, *]; try omega
  go_enter Tryz.func208, Tryz.ntmps208
  go_wp2
  go_ret
  exact ⟨by rw [HF.out]; rfl, bel⟩
 subst hz2
 cases neg
 case true => have HF : Hid (allowedM ⟨0, 0, 0, true, lo, hi⟩ n = 2) := by show _ = _; simp [allowedM, *]; try omega
              go_enter Tryz.func208, Tryz.ntmps208
              go_wp2
              go_ret
              exact ⟨by rw [HF.out]; rfl, bel⟩
 by_cases h0 : 0 < n
 ·have HF : Hid (allowedM ⟨0, 0, 0, false, lo, hi⟩ n = 2) := by show _ = _; simp [allowedM, *]; try omega
  go_enter Tryz.func208, Tryz.ntmps208
  go_wp2
  go_ret
  exact ⟨by rw [HF.out]; rfl, bel⟩
 obtain rfl : n = 0 := by omega
 clear h0
 by_cases h1 : lo = 0
 case neg =>
  have h1' : (lo != 0) = true := by simpa using h1
  have HF : Hid (allowedM ⟨0, 0, 0, false, lo, hi⟩ 0 = 2) := by show _ = _; simp [allowedM, *]; try omega
  go_enter Tryz.func208, Tryz.ntmps208
  go_wp2
  go_ret
  exact ⟨by rw [HF.out]; rfl, bel⟩
 subst h1
 by_cases h2 : hi = 0
 case neg =>
  have h2' : (hi != 0) = true := by simpa using h2
  have HF : Hid (allowedM ⟨0, 0, 0, false, 0, hi⟩ 0 = 2) := by show _ = _; simp [allowedM, *]; try omega
  go_enter Tryz.func208, Tryz.ntmps208
  go_wp2
  go_ret
  exact ⟨by rw [HF.out]; rfl, bel⟩
 subst h2
 have HF : Hid (allowedM ⟨0, 0, 0, false, 0, 0⟩ 0 = 0) := by show _ = _; simp [allowedM, *]; try omega
 have hu0 : U32 0 := ⟨by decide, by decide⟩
 have HU := hI hu0; clear hu0
 go_enter Tryz.func208, Tryz.ntmps208
 go_wp2_with fail
 refine (r2Valid_c 0 0 _ HU.out HU.out).mono ?_
 rintro e w1 ⟨rfl, hb1⟩
 rw [wvalid00]
 have hB1 : Below w.heap.size w w1 := Below.step (by assumption) (by simp) bel
 clear hb1
 go_wp2
 go_ret
 exact ⟨by rw [HF.out]; rfl, hB1⟩
theorem node2 (isp ism : Int) (neg : Bool) (lo hi : Int) (A : Option Addr) (n c : Nat) (w : World) (hn : n ≤ 9223372036854775807) :
  Calls Tryz.prog 208 #[patV ⟨2, isp, ism, neg, lo, hi⟩ A n c] w fun e w' => e = .returned (.int .i64 (allowedM ⟨2, isp, ism, neg, lo, hi⟩ n)) ∧ Below w.heap.size w w' := by
 by_cases hz1 : isp = 0
 case neg =>
  have hz' : (isp == 0) = false := by simpa using hz1
  have hz'' : (isp != 0) = true := by simpa using hz1
  clear hz1
  have HF : Hid (allowedM ⟨2, isp, ism, neg, lo, hi⟩ n = 2) := by show _ = _; simp [allowedM, *]; try omega
  go_enter Tryz.func208, Tryz.ntmps208
  go_wp2
  go_ret
  exact ⟨by rw [HF.out]; rfl, bel⟩
 subst hz1
 by_cases hz2 : ism = 0
 case neg =>
  have hz' : (ism == 0) = false := by simpa using hz2
  have hz'' : (ism != 0) = true := by simpa using hz2
  clear hz2
  have HF : Hid (allowedM ⟨2, 0, ism, neg, lo, hi⟩ n = 2) := by show _ = _; simp [allowedM, *]; try omega
  go_enter Tryz.func208, Tryz.ntmps208
  go_wp2
  go_ret
  exact ⟨by rw [HF.out]; rfl, bel⟩
 subst hz2
 cases neg
 case true => have HF : Hid (allowedM ⟨2, 0, 0, true, lo, hi⟩ n = 2) := by show _ = _; simp [allowedM, *]; try omega
              go_enter Tryz.func208, Tryz.ntmps208
              go_wp2
              go_ret
              exact ⟨by rw [HF.out]; rfl, bel⟩
 by_cases h0 : 0 < n
 ·have HF : Hid (allowedM ⟨2, 0, 0, false, lo, hi⟩ n = 2) := by show _ = _; simp [allowedM, *]; try omega
  go_enter Tryz.func208, Tryz.ntmps208
  go_wp2
  go_ret
  exact ⟨by rw [HF.out]; rfl, bel⟩
 obtain rfl : n = 0 := by omega
 clear h0
 by_cases h1 : lo = 0
 case neg =>
  have h1' : (lo != 0) = true := by simpa using h1
  have HF : Hid (allowedM ⟨2, 0, 0, false, lo, hi⟩ 0 = 2) := by show _ = _; simp [allowedM, *]; try omega
  go_enter Tryz.func208, Tryz.ntmps208
  go_wp2
  go_ret
  exact ⟨by rw [HF.out]; rfl, bel⟩
 subst h1
 by_cases h2 : hi = 0
 case neg =>
  have h2' : (hi != 0) = true := by simpa using h2
  have HF : Hid (allowedM ⟨2, 0, 0, false, 0, hi⟩ 0 = 2) := by show _ = _; simp [allowedM, *]; try omega
  go_enter Tryz.func208, Tryz.ntmps208
  go_wp2
  go_ret
  exact ⟨by rw [HF.out]; rfl, bel⟩
 subst h2
 have HF : Hid (allowedM ⟨2, 0, 0, false, 0, 0⟩ 0 = 0) := by show _ = _; simp [allowedM, *]; try omega
 have hu0 : U32 0 := ⟨by decide, by decide⟩
 have HU := hI hu0; clear hu0
 go_enter Tryz.func208, Tryz.ntmps208
 go_wp2_with fail
 refine (r2Valid_c 0 0 _ HU.out HU.out).mono ?_
 rintro e w1 ⟨rfl, hb1⟩
 rw [wvalid00]
 have hB1 : Below w.heap.size w w1 := Below.step (by assumption) (by simp) bel
 clear hb1
 go_wp2
 go_ret
 exact ⟨by rw [HF.out]; rfl, hB1⟩
theorem node6 (isp ism : Int) (neg : Bool) (lo hi : Int) (A : Option Addr) (n c : Nat) (w : World) (hn : n ≤ 9223372036854775807) :
  Calls Tryz.prog 208 #[patV ⟨6, isp, ism, neg, lo, hi⟩ A n c] w fun e w' => e = .returned (.int .i64 (allowedM ⟨6, isp, ism, neg, lo, hi⟩ n)) ∧ Below w.heap.size w w' := by
 by_cases hz1 : isp = 0
 case neg =>
  have hz' : (isp == 0) = false := by simpa using hz1
  have hz'' : (isp != 0) = true := by simpa using hz1
  clear hz1
  have HF : Hid (allowedM ⟨6, isp, ism, neg, lo, hi⟩ n = 2) := by show _ = _; simp [allowedM, *]; try omega
  go_enter Tryz.func208, Tryz.ntmps208
  go_wp2
  go_ret
  exact ⟨by rw [HF.out]; rfl, bel⟩
 subst hz1
 by_cases hz2 : ism = 0
 case neg =>
  have hz' : (ism == 0) = false := by simpa using hz2
  have hz'' : (ism != 0) = true := by simpa using hz2
  clear hz2
  have HF : Hid (allowedM ⟨6, 0, ism, neg, lo, hi⟩ n = 2) := by show _ = _; simp [allowedM, *]; try omega
  go_enter Tryz.func208, Tryz.ntmps208
  go_wp2
  go_ret
  exact ⟨by rw [HF.out]; rfl, bel⟩
 subst hz2
 cases neg
 case true => have HF : Hid (allowedM ⟨6, 0, 0, true, lo, hi⟩ n = 2) := by show _ = _; simp [allowedM, *]; try omega
              go_enter Tryz.func208, Tryz.ntmps208
              go_wp2
              go_ret
              exact ⟨by rw [HF.out]; rfl, bel⟩
 by_cases h0 : 0 < n
 ·have HF : Hid (allowedM ⟨6, 0, 0, false, lo, hi⟩ n = 2) := by show _ = _; simp [allowedM, *]; try omega
  go_enter Tryz.func208, Tryz.ntmps208
  go_wp2
  go_ret
  exact ⟨by rw [HF.out]; rfl, bel⟩
 obtain rfl : n = 0 := by omega
 clear h0
 by_cases h1 : lo = 0
 case neg =>
  have h1' : (lo != 0) = true := by simpa using h1
  have HF : Hid (allowedM ⟨6, 0, 0, false, lo, hi⟩ 0 = 2) := by show _ = _; simp [allowedM, *]; try omega
  go_enter Tryz.func208, Tryz.ntmps208
  go_wp2
  go_ret
  exact ⟨by rw [HF.out]; rfl, bel⟩
 subst h1
 by_cases h2 : hi = 0
 case neg =>
  have h2' : (hi != 0) = true := by simpa using h2
  have HF : Hid (allowedM ⟨6, 0, 0, false, 0, hi⟩ 0 = 2) := by show _ = _; simp [allowedM, *]; try omega
  go_enter Tryz.func208, Tryz.ntmps208
  go_wp2
  go_ret
  exact ⟨by rw [HF.out]; rfl, bel⟩
 subst h2
 have HF : Hid (allowedM ⟨6, 0, 0, false, 0, 0⟩ 0 = 0) := by show _ = _; simp [allowedM, *]; try omega
 have hu0 : U32 0 := ⟨by decide, by decide⟩
 have HU := hI hu0; clear hu0
 go_enter Tryz.func208, Tryz.ntmps208
 go_wp2_with fail
 refine (r2Valid_c 0 0 _ HU.out HU.out).mono ?_
 rintro e w1 ⟨rfl, hb1⟩
 rw [wvalid00]
 have hB1 : Below w.heap.size w w1 := Below.step (by assumption) (by simp) bel
 clear hb1
 go_wp2
 go_ret
 exact ⟨by rw [HF.out]; rfl, hB1⟩
theorem node3 (isp ism : Int) (neg : Bool) (lo hi : Int) (A : Option Addr) (n c : Nat) (w : World) (hn : n ≤ 9223372036854775807) :
  Calls Tryz.prog 208 #[patV ⟨3, isp, ism, neg, lo, hi⟩ A n c] w fun e w' => e = .returned (.int .i64 (allowedM ⟨3, isp, ism, neg, lo, hi⟩ n)) ∧ Below w.heap.size w w' := by
 by_cases hz1 : isp = 0
 case neg =>
  have hz' : (isp == 0) = false := by simpa using hz1
  have hz'' : (isp != 0) = true := by simpa using hz1
  clear hz1
  have HF : Hid (allowedM ⟨3, isp, ism, neg, lo, hi⟩ n = 2) := by show _ = _; simp [allowedM, *]; try omega
  go_enter Tryz.func208, Tryz.ntmps208
  go_wp2
  go_ret
  exact ⟨by rw [HF.out]; rfl, bel⟩
 subst hz1
 by_cases hz2 : ism = 0
 case neg =>
  have hz' : (ism == 0) = false := by simpa using hz2
  have hz'' : (ism != 0) = true := by simpa using hz2
  clear hz2
  have HF : Hid (allowedM ⟨3, 0, ism, neg, lo, hi⟩ n = 2) := by show _ = _; simp [allowedM, *]; try omega
  go_enter Tryz.func208, Tryz.ntmps208
  go_wp2
  go_ret
  exact ⟨by rw [HF.out]; rfl, bel⟩
 subst hz2
 cases neg
 case true => have HF : Hid (allowedM ⟨3, 0, 0, true, lo, hi⟩ n = 2) := by show _ = _; simp [allowedM, *]; try omega
              go_enter Tryz.func208, Tryz.ntmps208
              go_wp2
              go_ret
              exact ⟨by rw [HF.out]; rfl, bel⟩
 by_cases h1 : lo = 0
 case neg =>
  have h1' : (lo != 0) = true := by simpa using h1
  have HF : Hid (allowedM ⟨3, 0, 0, false, lo, hi⟩ n = 2) := by show _ = _; simp [allowedM, *]; try omega
  go_enter Tryz.func208, Tryz.ntmps208
  go_wp2
  go_ret
  exact ⟨by rw [HF.out]; rfl, bel⟩
 subst h1
 by_cases h2 : hi = 0
 case neg =>
  have h2' : (hi != 0) = true := by simpa using h2
  have HF : Hid (allowedM ⟨3, 0, 0, false, 0, hi⟩ n = 2) := by show _ = _; simp [allowedM, *]; try omega
  go_enter Tryz.func208, Tryz.ntmps208
  go_wp2
  go_ret
  exact ⟨by rw [HF.out]; rfl, bel⟩
 subst h2
 have HF : Hid (allowedM ⟨3, 0, 0, false, 0, 0⟩ n = 0) := by show _ = _; simp [allowedM, *]; try omega
 have hu0 : U32 0 := ⟨by decide, by decide⟩
 have HU := hI hu0; clear hu0
 go_enter Tryz.func208, Tryz.ntmps208
 go_wp2_with fail
 refine (r2Valid_c 0 0 _ HU.out HU.out).mono ?_
 rintro e w1 ⟨rfl, hb1⟩
 rw [wvalid00]
 have hB1 : Below w.heap.size w w1 := Below.step (by assumption) (by simp) bel
 clear hb1
 go_wp2
 go_ret
 exact ⟨by rw [HF.out]; rfl, hB1⟩
theorem node4 (isp ism : Int) (neg : Bool) (lo hi : Int) (A : Option Addr) (n c : Nat) (w : World) (hn : n ≤ 9223372036854775807) :
  Calls Tryz.prog 208 #[patV ⟨4, isp, ism, neg, lo, hi⟩ A n c] w fun e w' => e = .returned (.int .i64 (allowedM ⟨4, isp, ism, neg, lo, hi⟩ n)) ∧ Below w.heap.size w w' := by
 by_cases hz1 : isp = 0
 case neg =>
  have hz' : (isp == 0) = false := by simpa using hz1
  have hz'' : (isp != 0) = true := by simpa using hz1
  clear hz1
  have HF : Hid (allowedM ⟨4, isp, ism, neg, lo, hi⟩ n = 2) := by show _ = _; simp [allowedM, *]; try omega
  go_enter Tryz.func208, Tryz.ntmps208
  go_wp2
  go_ret
  exact ⟨by rw [HF.out]; rfl, bel⟩
 subst hz1
 by_cases hz2 : ism = 0
 case neg =>
  have hz' : (ism == 0) = false := by simpa using hz2
  have hz'' : (ism != 0) = true := by simpa using hz2
  clear hz2
  have HF : Hid (allowedM ⟨4, 0, ism, neg, lo, hi⟩ n = 2) := by show _ = _; simp [allowedM, *]; try omega
  go_enter Tryz.func208, Tryz.ntmps208
  go_wp2
  go_ret
  exact ⟨by rw [HF.out]; rfl, bel⟩
 subst hz2
 cases neg
 case true => have HF : Hid (allowedM ⟨4, 0, 0, true, lo, hi⟩ n = 2) := by show _ = _; simp [allowedM, *]; try omega
              go_enter Tryz.func208, Tryz.ntmps208
              go_wp2
              go_ret
              exact ⟨by rw [HF.out]; rfl, bel⟩
 by_cases h1 : lo = 0
 case neg =>
  have h1' : (lo != 0) = true := by simpa using h1
  have HF : Hid (allowedM ⟨4, 0, 0, false, lo, hi⟩ n = 2) := by show _ = _; simp [allowedM, *]; try omega
  go_enter Tryz.func208, Tryz.ntmps208
  go_wp2
  go_ret
  exact ⟨by rw [HF.out]; rfl, bel⟩
 subst h1
 by_cases h2 : hi = 0
 case neg =>
  have h2' : (hi != 0) = true := by simpa using h2
  have HF : Hid (allowedM ⟨4, 0, 0, false, 0, hi⟩ n = 2) := by show _ = _; simp [allowedM, *]; try omega
  go_enter Tryz.func208, Tryz.ntmps208
  go_wp2
  go_ret
  exact ⟨by rw [HF.out]; rfl, bel⟩
 subst h2
 have HF : Hid (allowedM ⟨4, 0, 0, false, 0, 0⟩ n = 0) := by show _ = _; simp [allowedM, *]; try omega
 have hu0 : U32 0 := ⟨by decide, by decide⟩
 have HU := hI hu0; clear hu0
 go_enter Tryz.func208, Tryz.ntmps208
 go_wp2_with fail
 refine (r2Valid_c 0 0 _ HU.out HU.out).mono ?_
 rintro e w1 ⟨rfl, hb1⟩
 rw [wvalid00]
 have hB1 : Below w.heap.size w w1 := Below.step (by assumption) (by simp) bel
 clear hb1
 go_wp2
 go_ret
 exact ⟨by rw [HF.out]; rfl, hB1⟩
theorem node1 (isp ism : Int) (neg : Bool) (lo hi : Int) (A : Option Addr) (n c : Nat) (w : World) (hn : n ≤ 9223372036854775807) (hp : U32 isp) (hm : U32 ism) :
  Calls Tryz.prog 208 #[patV ⟨1, isp, ism, neg, lo, hi⟩ A n c] w fun e w' => e = .returned (.int .i64 (allowedM ⟨1, isp, ism, neg, lo, hi⟩ n)) ∧ Below w.heap.size w w' := by
 have HP := hI hp; clear hp
 have HM := hI hm; clear hm
 by_cases h0 : 0 < n
 ·have HF : Hid (allowedM ⟨1, isp, ism, neg, lo, hi⟩ n = 2) := by show _ = _; simp [allowedM, *]; try omega
  go_enter Tryz.func208, Tryz.ntmps208
  go_wp2
  go_ret
  exact ⟨by rw [HF.out]; rfl, bel⟩
 obtain rfl : n = 0 := by omega
 clear h0
 by_cases h1 : lo = 0
 case neg =>
  have h1' : (lo != 0) = true := by simpa using h1
  have HF : Hid (allowedM ⟨1, isp, ism, neg, lo, hi⟩ 0 = 2) := by show _ = _; simp [allowedM, *]; try omega
  go_enter Tryz.func208, Tryz.ntmps208
  go_wp2
  go_ret
  exact ⟨by rw [HF.out]; rfl, bel⟩
 subst h1
 by_cases h2 : hi = 0
 case neg =>
  have h2' : (hi != 0) = true := by simpa using h2
  have HF : Hid (allowedM ⟨1, isp, ism, neg, 0, hi⟩ 0 = 2) := by show _ = _; simp [allowedM, *]; try omega
  go_enter Tryz.func208, Tryz.ntmps208
  go_wp2
  go_ret
  exact ⟨by rw [HF.out]; rfl, bel⟩
 subst h2
 have HF : Hid (allowedM ⟨1, isp, ism, neg, 0, 0⟩ 0 = if wvalid isp ism then 0 else 14) := by show _ = _; simp [allowedM]
 go_enter Tryz.func208, Tryz.ntmps208
 go_wp2_with fail
 refine (r2Valid_c isp ism _ HP.out HM.out).mono ?_
 rintro e w1 ⟨rfl, hb1⟩
 have hB1 : Below w.heap.size w w1 := Below.step (by assumption) (by simp) bel
 clear hb1
 obtain ⟨v, hv⟩ : ∃ v, v = wvalid isp ism := ⟨_, rfl⟩
 rw [← hv]
 have HV := hI hv; clear hv
 cases v
 ·go_wp2
  go_ret
  exact ⟨by rw [HF.out, ← HV.out]; rfl, hB1⟩
 ·go_wp2
  go_ret
  exact ⟨by rw [HF.out, ← HV.out]; rfl, hB1⟩
theorem node5 (isp ism : Int) (neg : Bool) (lo hi : Int) (A : Option Addr) (n c : Nat) (w : World) (hn : n ≤ 9223372036854775807) :
  Calls Tryz.prog 208 #[patV ⟨5, isp, ism, neg, lo, hi⟩ A n c] w fun e w' => e = .returned (.int .i64 (allowedM ⟨5, isp, ism, neg, lo, hi⟩ n)) ∧ Below w.heap.size w w' := by
 by_cases hz1 : isp = 0
 case neg =>
  have hz' : (isp == 0) = false := by simpa using hz1
  have hz'' : (isp != 0) = true := by simpa using hz1
  clear hz1
  have HF : Hid (allowedM ⟨5, isp, ism, neg, lo, hi⟩ n = 2) := by show _ = _; simp [allowedM, *]; try omega
  go_enter Tryz.func208, Tryz.ntmps208
  go_wp2
  go_ret
  exact ⟨by rw [HF.out]; rfl, bel⟩
 subst hz1
 by_cases hz2 : ism = 0
 case neg =>
  have hz' : (ism == 0) = false := by simpa using hz2
  have hz'' : (ism != 0) = true := by simpa using hz2
  clear hz2
  have HF : Hid (allowedM ⟨5, 0, ism, neg, lo, hi⟩ n = 2) := by show _ = _; simp [allowedM, *]; try omega
  go_enter Tryz.func208, Tryz.ntmps208
  go_wp2
  go_ret
  exact ⟨by rw [HF.out]; rfl, bel⟩
 subst hz2
 cases neg
 case true => have HF : Hid (allowedM ⟨5, 0, 0, true, lo, hi⟩ n = 2) := by show _ = _; simp [allowedM, *]; try omega
              go_enter Tryz.func208, Tryz.ntmps208
              go_wp2
              go_ret
              exact ⟨by rw [HF.out]; rfl, bel⟩
 by_cases h1 : n = 1
 case neg =>
  have h1' : ((n : Int) != 1) = true := by simp; omega
  have h1'' : (n != 1) = true := by simpa using h1
  have HF : Hid (allowedM ⟨5, 0, 0, false, lo, hi⟩ n = 2) := by show _ = _; simp [allowedM, *]; try omega
  go_enter Tryz.func208, Tryz.ntmps208
  go_wp2
  go_ret
  exact ⟨by rw [HF.out]; rfl, bel⟩
 subst h1
 by_cases h2 : lo < 0
 ·have h2' : decide (lo < 0) = true := decide_eq_true h2
  have HF : Hid (allowedM ⟨5, 0, 0, false, lo, hi⟩ 1 = 2) := by show _ = _; simp [allowedM, *]; try omega
  go_enter Tryz.func208, Tryz.ntmps208
  go_wp2
  go_ret
  exact ⟨by rw [HF.out]; rfl, bel⟩
 have h2' : decide (lo < 0) = false := decide_eq_false h2
 by_cases h3 : 32 < lo
 ·have h3' : decide (32 < lo) = true := decide_eq_true h3
  have HF : Hid (allowedM ⟨5, 0, 0, false, lo, hi⟩ 1 = 2) := by show _ = _; simp [allowedM, *]; try omega
  go_enter Tryz.func208, Tryz.ntmps208
  go_wp2
  go_ret
  exact ⟨by rw [HF.out]; rfl, bel⟩
 have h3' : decide (32 < lo) = false := decide_eq_false h3
 by_cases h4 : hi = -1
 ·subst h4
  have HF : Hid (allowedM ⟨5, 0, 0, false, lo, (-1)⟩ 1 = 0) := by show _ = _; simp [allowedM, *]; try omega
  have hu0 : U32 0 := ⟨by decide, by decide⟩
  have HU := hI hu0; clear hu0
  go_enter Tryz.func208, Tryz.ntmps208
  go_wp2_with fail
  refine (r2Valid_c 0 0 _ HU.out HU.out).mono ?_
  rintro e w1 ⟨rfl, hb1⟩
  rw [wvalid00]
  have hB1 : Below w.heap.size w w1 := Below.step (by assumption) (by simp) bel
  clear hb1
  go_wp2
  go_ret
  exact ⟨by rw [HF.out]; rfl, hB1⟩
 have h4' : (hi != -1) = true := by simpa using h4
 by_cases h5 : hi < lo
 ·have h5' : decide (hi < lo) = true := decide_eq_true h5
  have HF : Hid (allowedM ⟨5, 0, 0, false, lo, hi⟩ 1 = 2) := by show _ = _; simp [allowedM, *]; try omega
  go_enter Tryz.func208, Tryz.ntmps208
  go_wp2
  go_ret
  exact ⟨by rw [HF.out]; rfl, bel⟩
 have h5' : decide (hi < lo) = false := decide_eq_false h5
 by_cases h6 : 32 < hi
 ·have h6' : decide (32 < hi) = true := decide_eq_true h6
  have HF : Hid (allowedM ⟨5, 0, 0, false, lo, hi⟩ 1 = 2) := by show _ = _; simp [allowedM, *]; try omega
  go_enter Tryz.func208, Tryz.ntmps208
  go_wp2
  go_ret
  exact ⟨by rw [HF.out]; rfl, bel⟩
 have h6' : decide (32 < hi) = false := decide_eq_false h6
 have HF : Hid (allowedM ⟨5, 0, 0, false, lo, hi⟩ 1 = 0) := by show _ = _; simp [allowedM, *]; try omega
 have hu0 : U32 0 := ⟨by decide, by decide⟩
 have HU := hI hu0; clear hu0
 go_enter Tryz.func208, Tryz.ntmps208
 go_wp2_with fail
 refine (r2Valid_c 0 0 _ HU.out HU.out).mono ?_
 rintro e w1 ⟨rfl, hb1⟩
 rw [wvalid00]
 have hB1 : Below w.heap.size w w1 := Below.step (by assumption) (by simp) bel
 clear hb1
 go_wp2
 go_ret
 exact ⟨by rw [HF.out]; rfl, hB1⟩
theorem node_no (k : Nd) (A : Option Addr) (n c : Nat) (w : World) (hk : k.kind < 0 ∨ 6 < k.kind) :
  Calls Tryz.prog 208 #[patV k A n c] w fun e w' => e = .returned (.int .i64 (allowedM k n)) ∧ Below w.heap.size w w' := by
 obtain ⟨kind, isp, ism, neg, lo, hi⟩ := k
 have hk' : kind < 0 ∨ 6 < kind := hk
 have HF : Hid (allowedM ⟨kind, isp, ism, neg, lo, hi⟩ n = 2) := by
  show _ = _
  unfold allowedM
  dsimp only
  rw [if_neg (by omega), if_neg (by omega), if_neg (by omega), if_neg (by omega)]
 clear hk
 rcases hk' with h | h
 ·go_enter Tryz.func208, Tryz.ntmps208
  go_wp2
  go_ret
  exact ⟨by rw [HF.out]; rfl, bel⟩
 ·have h' : ¬ kind < 0 := by omega
  go_enter Tryz.func208, Tryz.ntmps208
  go_wp2
  go_ret
  exact ⟨by rw [HF.out]; rfl, bel⟩
def NdU (k : Nd) : Prop := U32 k.isp ∧ U32 k.ism
def FoU : Fo → Prop
 | .nil => True
 | .node k ch nx => NdU k ∧ FoU ch ∧ FoU nx
theorem node_c (k : Nd) (A : Option Addr) (n c : Nat) (w : World) (hn : n ≤ 9223372036854775807) (hu : NdU k) :
  Calls Tryz.prog 208 #[patV k A n c] w fun e w' => e = .returned (.int .i64 (allowedM k n)) ∧ Below w.heap.size w w' := by
 by_cases h : k.kind < 0 ∨ 6 < k.kind
 ·exact node_no k A n c w h
 ·obtain ⟨kind, isp, ism, neg, lo, hi⟩ := k
  dsimp only at h
  rcases (by omega : kind = 0 ∨ kind = 1 ∨ kind = 2 ∨ kind = 3 ∨ kind = 4 ∨ kind = 5 ∨ kind = 6) with rfl | rfl | rfl | rfl | rfl | rfl | rfl
  ·exact node0 isp ism neg lo hi A n c w hn
  ·exact node1 isp ism neg lo hi A n c w hn hu.1 hu.2
  ·exact node2 isp ism neg lo hi A n c w hn
  ·exact node3 isp ism neg lo hi A n c w hn
  ·exact node4 isp ism neg lo hi A n c w hn
  ·exact node5 isp ism neg lo hi A n c w hn
  ·exact node6 isp ism neg lo hi A n c w hn
def walkF : Fo → Nat → Nat × Int
 | .nil, n => (n, 0)
 | .node k ch nx, n =>
  if n = 40 then (n, 12) else if allowedM k ch.len ≠ 0 then (n, allowedM k ch.len)
  else if (walkF ch (n + 1)).2 ≠ 0 then walkF ch (n + 1) else walkF nx (walkF ch (n + 1)).1
def walk1 (k : Nd) (ch : Fo) (n : Nat) : Nat × Int := walkF (.node k ch .nil) n
theorem walk_cons (k : Nd) (ch nx : Fo) (n : Nat) : walkF (.node k ch nx) n = if (walk1 k ch n).2 ≠ 0 then walk1 k ch n else walkF nx (walk1 k ch n).1 := by
 unfold walk1
 simp only [walkF]
 by_cases a1 : n = 40
 ·simp [a1]
 ·by_cases a2 : allowedM k ch.len = 0
  ·by_cases a3 : (walkF ch (n + 1)).2 = 0
   ·simp [a1, a2, a3]
   ·simp [a1, a2, a3]
  ·simp [a1, a2]
def Fo.drop : Nat → Fo → Fo
 | 0, f => f
 | _ + 1, .nil => .nil
 | i + 1, .node _ _ nx => nx.drop i
theorem Fo.drop_get : ∀ (f : Fo) (i : Nat) (k : Nd) (ch : Fo), f.get i = some (k, ch) → f.drop i = .node k ch (f.drop (i + 1))
 | .nil, i, k, ch, h => by simp [Fo.get] at h
 | .node k0 ch0 nx, 0, k, ch, h => by
  obtain ⟨rfl, rfl⟩ : k0 = k ∧ ch0 = ch := by simpa [Fo.get] using h
  cases nx <;> rfl
 | .node k0 ch0 nx, i + 1, k, ch, h => by
  have := Fo.drop_get nx i k ch (by simpa [Fo.get] using h)
  simpa [Fo.drop] using this
theorem Fo.drop_len : ∀ f : Fo, f.drop f.len = .nil
 | .nil => rfl
 | .node _ _ nx => by simpa [Fo.drop, Fo.len] using Fo.drop_len nx
theorem FoU.get : ∀ (f : Fo) (i : Nat) (k : Nd) (ch : Fo), FoU f → f.get i = some (k, ch) → NdU k ∧ FoU ch
 | .nil, i, k, ch, _, h => by simp [Fo.get] at h
 | .node k0 ch0 nx, 0, k, ch, hu, h => by
  obtain ⟨rfl, rfl⟩ : k0 = k ∧ ch0 = ch := by simpa [Fo.get] using h
  exact ⟨hu.1, hu.2.1⟩
 | .node k0 ch0 nx, i + 1, k, ch, hu, h => FoU.get nx i k ch hu.2.2 (by simpa [Fo.get] using h)
theorem walkF_le : ∀ (f : Fo) (n : Nat), n ≤ 40 → (walkF f n).1 ≤ 40
 | .nil, n, h => h
 | .node k ch nx, n, h => by
  rw [walkF]
  by_cases h1 : n = 40
  ·rw [if_pos h1]; exact h
  ·rw [if_neg h1]
   split
   ·exact h
   ·have h2 := walkF_le ch (n + 1) (by omega)
    split
    ·exact h2
    ·exact walkF_le nx _ h2
def WkOK (k : Nd) (ch : Fo) : Prop := ∀ (w : World) (A : Option Addr) (n c m : Nat), FSl w A n c ch → NdU k → FoU ch → m ≤ 40 →
 Calls Tryz.prog 195 #[patV k A n c, .int .i64 m] w fun e w' => e = .returned (.tuple #[.int .i64 ((walk1 k ch m).1 : Nat), .int .i64 (walk1 k ch m).2]) ∧ Below w.heap.size w w'
theorem walk_step (k : Nd) (ch : Fo) (ih : ∀ j k' ch', ch.get j = some (k', ch') → WkOK k' ch') : WkOK k ch := by
 intro w A n c m hs hk hu hm
 have hn : n ≤ 9223372036854775807 := by have h1 := hs.1.2.1; have h2 := hs.1.2.2.1; unfold maxLen at h2; omega
 have hlen : n = ch.len := hs.1.1
 have HI := hI ih; clear ih
 have HS := hI hs; clear hs
 have HU := hI hu; clear hu
 by_cases h40 : m = 40
 ·have HR : Hid (walk1 k ch m = (m, 12)) := by show _ = _; unfold walk1; rw [walkF, if_pos h40]
  subst h40
  obtain ⟨kind, isp, ism, neg, lo, hi⟩ := k
  go_enter Tryz.func195, Tryz.ntmps195
  go_wp2
  go_ret2
  exact ⟨by rw [HR.out]; rfl, bel⟩
 have hm1 : m < 40 := by omega
 have hm2 : ((m : Int) == 40) = false := by simp; omega
 clear h40 hm
 obtain ⟨er, her⟩ : ∃ er, er = allowedM k ch.len := ⟨_, rfl⟩
 have HW : Hid (walk1 k ch m = if er ≠ 0 then (m, er) else if (walkF ch (m + 1)).2 ≠ 0 then walkF ch (m + 1) else ((walkF ch (m + 1)).1, 0)) := by
  show _ = _
  unfold walk1
  rw [walkF, if_neg (by omega), ← her]
  rfl
 have hcall := node_c k A n c
 rw [hlen] at hcall
 obtain ⟨kind, isp, ism, neg, lo, hi⟩ := k
 rw [← her] at hcall
 have HC := hI hcall; clear hcall her
 subst hlen
 go_enter Tryz.func195, Tryz.ntmps195
 go_wp2_with fail
 have k0 : (w.alloc (.cells #[.int .i64 kind, .int .u32 isp, .int .u32 ism, .bool neg, .int .i64 lo, .int .i64 hi, .slice A ch.len c] 27)).heap[w.heap.size]? = some (.cells #[.int .i64 kind, .int .u32 isp, .int .u32 ism, .bool neg, .int .i64 lo, .int .i64 hi, .slice A ch.len c] 27 (0, 0)) := heap_new_at rfl
 have kB : Below w.heap.size w (w.alloc (.cells #[.int .i64 kind, .int .u32 isp, .int .u32 ism, .bool neg, .int .i64 lo, .int .i64 hi, .slice A ch.len c] 27)) := bel
 generalize (w.alloc (.cells #[.int .i64 kind, .int .u32 isp, .int .u32 ism, .bool neg, .int .i64 lo, .int .i64 hi, .slice A ch.len c] 27)) = V0 at *
 refine (HC.out V0 hn hk).mono ?_
 rintro e w1 ⟨rfl, hb1⟩
 have k1 := hI ((hb1.block _ (lt_of_block k0)).trans k0)
 have hB1 := kB.trans (hb1.mono kB.size)
 clear hb1 kB k0 HC
 by_cases h0 : er = 0
 case neg =>
  have h1 : (er != 0) = true := by simpa using h0
  have HR : Hid (walk1 ⟨kind, isp, ism, neg, lo, hi⟩ ch m = (m, er)) := by show _ = _; rw [HW.out, if_pos h0]
  clear h0
  go_wp2
  go_ret2
  exact ⟨by rw [HR.out]; rfl, hB1⟩
 subst h0
 have HW1 : Hid (walk1 ⟨kind, isp, ism, neg, lo, hi⟩ ch m = if (walkF ch (m + 1)).2 ≠ 0 then walkF ch (m + 1) else ((walkF ch (m + 1)).1, 0)) := by show _ = _; rw [HW.out, if_neg (by simp)]
 clear HW
 have HB1 := hI hB1; clear hB1
 have hb1s := HB1.out.size
 go_wp2
 go_loopw [7, 8] (fun nv i wr => ∃ (j q : Nat), i = .int .i64 j ∧ nv = .int .i64 q ∧ j ≤ ch.len ∧ q ≤ 40 ∧ Hid (walkF ch (m + 1) = walkF (ch.drop j) q) ∧ Hid (wr.heap[w.heap.size]? = some (.cells #[.int .i64 kind, .int .u32 isp, .int .u32 ism, .bool neg, .int .i64 lo, .int .i64 hi, .slice A ch.len c] 27 (0, 0))) ∧ Below w.heap.size w wr) (fun _ i _ => ch.len - (intOf i).toNat)
 case atStart => exact ⟨0, m + 1, rfl, by go_num, Nat.zero_le _, by omega, rfl, k1, HB1.out⟩
 case round =>
  obtain ⟨j, q, rfl, rfl, hj, hq, hwk, hb, hB⟩ := hrel
  have hBs := hB.size
  have hb6 := cell_at_heap (j := 6) hb.out rfl
  by_cases hlt : j < ch.len
  ·obtain ⟨⟨k', ch'⟩, hg⟩ := ch.get_lt j hlt
   obtain ⟨b, off, A', n', c', hA, hbl, ⟨h0, h1, h2, h3, h4, h5, h6⟩, ⟨rfl, hn'⟩, hch', _⟩ := (HS.out.below hB rr).2.at_ ch _ 0 j k' ch' hg
   obtain ⟨hku, hfu⟩ := FoU.get ch j k' ch' HU.out hg
   have hd := Fo.drop_get ch j k' ch' hg
   have HD : Hid (walkF (ch.drop j) q = if (walk1 k' ch' q).2 ≠ 0 then walk1 k' ch' q else walkF (ch.drop (j + 1)) (walk1 k' ch' q).1) := by
    show _ = _
    rw [hd]; exact walk_cons _ _ _ _
   have hle : (walk1 k' ch' q).1 ≤ 40 := walkF_le _ _ hq
   have HG := hI hg; clear hg hd
   have HCH := hI hch'; clear hch'
   have HKU := hI hku; clear hku
   have HFU := hI hfu; clear hfu
   subst hA
   simp only [Nat.zero_add] at h0 h1 h2 h3 h4 h5 h6
   go_wp2_with fail
   refine (HI.out j k' ch' HG.out wr A' _ c' q ⟨⟨rfl, hn'⟩, HCH.out⟩ HKU.out HFU.out hq).mono ?_
   rintro e w1 ⟨rfl, hb1⟩
   have hbx := hI ((hb1.block w.heap.size (lt_of_block hb.out)).trans hb.out)
   have hB1 := hB.trans (hb1.mono hBs)
   obtain ⟨r, hr⟩ : ∃ r, r = walk1 k' ch' q := ⟨_, rfl⟩
   rw [← hr] at HD hle ⊢
   clear hb1 h0 h1 h2 h3 h4 h5 h6 hb6 hr
   obtain ⟨r1, r2⟩ := r
   by_cases hr2 : r2 = 0
   ·have HN : Hid (walkF ch (m + 1) = walkF (ch.drop (j + 1)) r1) := by show _ = _; rw [hwk.out, HD.out, if_neg (by simpa using hr2)]
    have hr1 : r1 ≤ 40 := hle
    clear hle
    subst hr2
    go_wp2
    go_roundw
    case rel => exact ⟨j + 1, r1, by go_num, rfl, by omega, hr1, HN, hbx, hB1⟩
    case measure => simp [intOf]; omega
   ·have HN : Hid (walk1 ⟨kind, isp, ism, neg, lo, hi⟩ ch m = (r1, r2)) := by
     show _ = _
     have h1 : walkF ch (m + 1) = (r1, r2) := by rw [hwk.out, HD.out, if_pos hr2]
     rw [HW1.out, h1, if_pos hr2]
    have hr2' : (r2 != 0) = true := by simpa using hr2
    clear hr2
    go_wp2
    go_ret2
    exact ⟨by rw [HN.out]; rfl, hB1⟩
  ·obtain rfl : j = ch.len := by omega
   have HN : Hid (walk1 ⟨kind, isp, ism, neg, lo, hi⟩ ch m = (q, 0)) := by
    show _ = _
    have h1 : walkF ch (m + 1) = (q, 0) := by rw [hwk.out, Fo.drop_len]; rfl
    rw [HW1.out, h1, if_neg (by simp)]
   go_wp2
   go_ret2
   exact ⟨by rw [HN.out]; rfl, hB⟩
theorem walk_all : ∀ (f : Fo) (j : Nat) (k : Nd) (ch : Fo), f.get j = some (k, ch) → WkOK k ch
 | .node k0 ch0 nx, 0, k, ch, hg => by
  obtain ⟨rfl, rfl⟩ : k0 = k ∧ ch0 = ch := by simpa [Fo.get] using hg
  exact walk_step _ _ (walk_all ch0)
 | .node k0 ch0 nx, j + 1, k, ch, hg => walk_all nx j k ch (by simpa [Fo.get] using hg)
theorem walk_c (k : Nd) (ch : Fo) : WkOK k ch := walk_step k ch (walk_all ch)
theorem checkM_take : ∀ (f : Nat) (l l' : List (Nd × Fo)), l.take (f + 1) = l'.take (f + 1) → checkM f l = checkM f l'
 | 0, l, l', h => by
  cases l with
  | nil => cases l' with
   | nil => rfl
   | cons b t => simp at h
  | cons a s => cases l' with
   | nil => simp at h
   | cons b t => rfl
 | f + 1, l, l', h => by
  cases l with
  | nil => cases l' with
   | nil => rfl
   | cons b t => simp at h
  | cons a s => cases l' with
   | nil => simp at h
   | cons b t =>
    obtain ⟨rfl, h2⟩ : a = b ∧ s.take (f + 1) = t.take (f + 1) := by simpa using h
    obtain ⟨k, ch⟩ := a
    simp only [checkM]
    split
    ·refine checkM_take f _ _ ?_
     rw [List.take_append, List.take_append]
     congr 1
     have h3 := congrArg (List.take (f + 1 - (ch.list.take 41).length)) h2
     rwa [List.take_take, List.take_take, Nat.min_eq_left (by omega)] at h3
    ·rfl
theorem checkM_41 (f : Nat) (hf : f ≤ 40) (l st : List (Nd × Fo)) : checkM f (l.take 41 ++ st) = checkM f (l ++ st) := by
 refine checkM_take f _ _ ?_
 rw [List.take_append, List.take_append, List.take_take, Nat.min_eq_left (by omega)]
 congr 1
 by_cases h : l.length ≤ 41
 ·rw [List.take_of_length_le h]
 ·rw [List.length_take, Nat.min_eq_left (by omega), show f + 1 - 41 = 0 by omega, show f + 1 - l.length = 0 by omega]
theorem check_walk : ∀ (f : Fo) (n : Nat) (st : List (Nd × Fo)), n ≤ 40 → checkM (40 - n) (f.list ++ st) = if (walkF f n).2 ≠ 0 then (walkF f n).2 else checkM (40 - (walkF f n).1) st
 | .nil, n, st, _ => by simp [walkF, Fo.list]
 | .node k ch nx, n, st, hn => by
  rw [Fo.list, List.cons_append]
  simp only [walkF]
  by_cases h1 : n = 40
  ·subst h1
   simp [checkM]
  ·rw [show 40 - n = (40 - (n + 1)) + 1 by omega, checkM]
   by_cases h2 : allowedM k ch.len = 0
   ·rw [if_pos h2, checkM_41 _ (by omega), check_walk ch (n + 1) _ (by omega)]
    by_cases h3 : (walkF ch (n + 1)).2 = 0
    ·simp only [h1, h2, h3, if_false, ne_eq, not_true_eq_false]
     exact check_walk nx _ st (walkF_le _ _ (by omega))
    ·simp [h1, h2, h3]
   ·simp [h1, h2]
theorem check_walk1 (k : Nd) (ch : Fo) : checkM 40 [(k, ch)] = (walk1 k ch 0).2 := by
 have h := check_walk (.node k ch .nil) 0 [] (by omega)
 rw [Fo.list, Fo.list, List.append_nil] at h
 rw [show (40 : Nat) = 40 - 0 from rfl, h]
 unfold walk1
 by_cases h1 : (walkF (.node k ch .nil) 0).2 = 0
 ·rw [if_neg (by simpa using h1), h1]; cases 40 - (walkF (.node k ch .nil) 0).1 <;> rfl
 ·rw [if_pos h1]
theorem r6Check_c (k : Nd) (ch : Fo) (w : World) (A : Option Addr) (n c : Nat) (hs : FSl w A n c ch) (hk : NdU k) (hu : FoU ch) :
  Calls Tryz.prog 174 #[patV k A n c] w fun e w' => e = .returned (.int .i64 (checkM 40 [(k, ch)])) ∧ Below w.heap.size w w' := by
 have HC := hI (check_walk1 k ch)
 have HW := hI (walk_c k ch)
 obtain ⟨kind, isp, ism, neg, lo, hi⟩ := k
 have HS := hI hs; clear hs
 have HU := hI hu; clear hu
 have HK := hI hk; clear hk
 go_enter Tryz.func174, Tryz.ntmps174
 go_wp2_with fail
 refine (HW.out _ A n c 0 (HS.out.below (B := w.heap.size) bel rr) HK.out HU.out (by omega)).mono ?_
 rintro e w1 ⟨rfl, hb1⟩
 have hB1 : Below w.heap.size w w1 := Below.step (by assumption) (by simp) bel
 clear hb1
 go_wp2
 go_ret
 exact ⟨by rw [HC.out]; rfl, hB1⟩
end Go.Proofs.YtcpcojgmmpnkoaaGreatDoor
namespace Go.Proofs.YtcpcojgmmpnkoaaGreatDoor
open Go.RowKit
def Bt (r : List Nat) (a b : Nat) : Prop := (r.getD a 0).testBit b = true
theorem G_bit : ∀ (y : List Nat) (s b : Nat), (G y s).testBit b = true ↔ ∃ m, s.testBit m = true ∧ (y.getD m 0).testBit b = true
 | [], s, b => by simp [G]
 | v :: ys, s, b => by
  rw [G, Nat.testBit_or, Bool.or_eq_true, G_bit ys]
  constructor
  ·rintro (h | ⟨m, h1, h2⟩)
   ·by_cases h0 : s % 2 = 1
    ·rw [if_pos h0] at h
     exact ⟨0, by rw [Nat.testBit_zero]; exact decide_eq_true h0, by simpa using h⟩
    ·rw [if_neg h0] at h; simp at h
   ·exact ⟨m + 1, by rw [Nat.testBit_succ]; exact h1, by simpa using h2⟩
  ·rintro ⟨m, h1, h2⟩
   cases m with
   | zero =>
    rw [Nat.testBit_zero] at h1
    rw [if_pos (of_decide_eq_true h1)]
    exact .inl (by simpa using h2)
   | succ m => exact .inr ⟨m, by rw [Nat.testBit_succ] at h1; exact h1, by simpa using h2⟩
theorem thenM_bt (x y : List Nat) (a b : Nat) : Bt (thenM x y) a b ↔ ∃ m, Bt x a m ∧ Bt y m b := by
 unfold Bt
 have e : (thenM x y).getD a 0 = G y (x.getD a 0) := by
  unfold thenM
  rw [List.getD_eq_getElem?_getD, List.getD_eq_getElem?_getD, List.getElem?_map]
  cases x[a]? with
  | none => simp [G_zero]
  | some v => rfl
 rw [e, G_bit]
theorem orR_bt {x y : List Nat} (h : x.length = y.length) (a b : Nat) : Bt (orR x y) a b ↔ Bt x a b ∨ Bt y a b := by
 unfold Bt
 have e : (orR x y).getD a 0 = x.getD a 0 ||| y.getD a 0 := by
  unfold orR
  rw [List.getD_eq_getElem?_getD, List.getD_eq_getElem?_getD, List.getD_eq_getElem?_getD, List.getElem?_zipWith]
  by_cases ha : a < x.length
  ·rw [List.getElem?_eq_getElem ha, List.getElem?_eq_getElem (show a < y.length by omega)]; rfl
  ·rw [List.getElem?_eq_none (by omega), List.getElem?_eq_none (show y.length ≤ a by omega)]; rfl
 rw [e, Nat.testBit_or, Bool.or_eq_true]
theorem range_bt (f : Nat → Nat) (m a b : Nat) : Bt ((List.range m).map f) a b ↔ a < m ∧ (f a).testBit b = true := by
 unfold Bt
 rw [List.getD_eq_getElem?_getD, List.getElem?_map]
 by_cases h : a < m
 ·rw [List.getElem?_range h]; simp [h]
 ·rw [List.getElem?_eq_none (by simpa using h)]; simp [h]
theorem idR_bt {n : Nat} (hn : n ≤ 32) (a b : Nat) : Bt (idR n) a b ↔ a = b ∧ a ≤ n := by
 unfold idR
 rw [range_bt]
 by_cases h : a ≤ n
 ·rw [if_pos h, Nat.testBit_two_pow]
  simp only [decide_eq_true_eq]
  exact ⟨fun h1 => ⟨h1.2, h⟩, fun h1 => ⟨by omega, h1.1⟩⟩
 ·rw [if_neg h]; simp; omega
theorem zeroR_bt (a b : Nat) : ¬ Bt zeroR a b := by
 unfold Bt zeroR
 rw [List.getD_eq_getElem?_getD, List.getElem?_replicate]
 split <;> simp
theorem edgeR_bt {a : Nat} (ha : a ≤ 32) (x b : Nat) : Bt (edgeR a) x b ↔ x = a ∧ b = a := by
 unfold edgeR
 by_cases h : x = a
 ·subst h
  unfold Bt
  rw [List.getD_eq_getElem?_getD, List.getElem?_set_self (by show _ < 33; omega), Option.getD_some, Nat.testBit_two_pow]
  simp only [decide_eq_true_eq, true_and]
  exact eq_comm
 ·unfold Bt
  rw [List.getD_eq_getElem?_getD, List.getElem?_set_ne (Ne.symm h), ← List.getD_eq_getElem?_getD]
  exact ⟨fun h1 => absurd h1 (zeroR_bt x b), fun h1 => absurd h1.1 h⟩
theorem sndR_bt (p m : Int) (neg : Bool) {ws : List Snd} (hn : ws.length ≤ 32) (a b : Nat) : Bt (sndR p m neg ws) a b ↔ ∃ s, ws[a]? = some s ∧ hitS p m neg s = true ∧ b = a + 1 := by
 unfold sndR sndTo
 rw [range_bt]
 constructor
 ·rintro ⟨h1, h2⟩
  rw [if_pos h1] at h2
  cases hs : ws[a]? with
  | none => rw [hs] at h2; simp at h2
  | some s =>
   rw [hs] at h2
   dsimp only at h2
   by_cases hh : hitS p m neg s = true
   ·rw [if_pos hh, Nat.testBit_two_pow] at h2
    exact ⟨s, rfl, hh, (of_decide_eq_true h2).symm⟩
   ·rw [if_neg hh] at h2; simp at h2
 ·rintro ⟨s, hs, hh, rfl⟩
  have hl := (List.getElem?_eq_some_iff.1 hs).1
  refine ⟨by omega, ?_⟩
  rw [if_pos (by omega), hs]
  dsimp only
  rw [if_pos hh, Nat.testBit_two_pow]; simp
def It (R : Nat → Nat → Prop) : Nat → Nat → Nat → Prop
 | 0, a, b => a = b
 | k + 1, a, b => ∃ m, R a m ∧ It R k m b
theorem It_add {R : Nat → Nat → Prop} : ∀ (i j a b : Nat), It R (i + j) a b ↔ ∃ m, It R i a m ∧ It R j m b
 | 0, j, a, b => by simp [It]
 | i + 1, j, a, b => by
  rw [show i + 1 + j = (i + j) + 1 by omega]
  simp only [It]
  constructor
  ·rintro ⟨m, h1, h2⟩
   obtain ⟨q, h3, h4⟩ := (It_add i j m b).1 h2
   exact ⟨q, ⟨m, h1, h3⟩, h4⟩
  ·rintro ⟨q, ⟨m, h1, h3⟩, h4⟩
   exact ⟨m, h1, (It_add i j m b).2 ⟨q, h3, h4⟩⟩
theorem It_one {R : Nat → Nat → Prop} {a b : Nat} : It R 1 a b ↔ R a b := by
 simp only [It]
 exact ⟨fun ⟨m, h, e⟩ => e ▸ h, fun h => ⟨b, h, rfl⟩⟩
theorem It_sq {R S : Nat → Nat → Prop} (hS : ∀ a b, S a b ↔ ∃ m, R a m ∧ R m b) : ∀ (k a b : Nat), It S k a b ↔ It R (2 * k) a b
 | 0, a, b => Iff.rfl
 | k + 1, a, b => by
  rw [show 2 * (k + 1) = (2 * k + 1) + 1 by omega]
  simp only [It]
  constructor
  ·rintro ⟨m, h1, h2⟩
   obtain ⟨q, h3, h4⟩ := (hS a m).1 h1
   exact ⟨q, h3, m, h4, (It_sq hS k m b).1 h2⟩
  ·rintro ⟨q, h3, m, h4, h2⟩
   exact ⟨m, (hS a m).2 ⟨q, h3, h4⟩, (It_sq hS k m b).2 h2⟩
theorem powM_bt : ∀ (f : Nat) (x : List Nat) (k : Nat) (out : List Nat) (a b : Nat), k < 2 ^ f → (Bt (powM f x k out) a b ↔ ∃ m, Bt out a m ∧ It (Bt x) k m b)
 | 0, x, k, out, a, b, h => by
  obtain rfl : k = 0 := by simpa using h
  simp [powM, It]
 | f + 1, x, k, out, a, b, h => by
  rw [powM]
  by_cases h0 : k = 0
  ·subst h0; simp [It]
  ·rw [if_neg h0, powM_bt f (thenM x x) (k / 2) _ a b (pow_half f k h)]
   have hsq : ∀ m, It (Bt (thenM x x)) (k / 2) m b ↔ It (Bt x) (2 * (k / 2)) m b := fun m => It_sq (fun a b => thenM_bt x x a b) _ _ _
   by_cases h1 : k % 2 = 1
   ·rw [if_pos h1]
    constructor
    ·rintro ⟨m, h2, h3⟩
     obtain ⟨q, h4, h5⟩ := (thenM_bt out x a m).1 h2
     refine ⟨q, h4, ?_⟩
     rw [show k = 1 + 2 * (k / 2) by omega, It_add]
     exact ⟨m, It_one.2 h5, (hsq m).1 h3⟩
    ·rintro ⟨q, h4, h5⟩
     rw [show k = 1 + 2 * (k / 2) by omega, It_add] at h5
     obtain ⟨m, h6, h7⟩ := h5
     exact ⟨m, (thenM_bt out x a m).2 ⟨q, h4, It_one.1 h6⟩, (hsq m).2 h7⟩
   ·rw [if_neg h1]
    constructor
    ·rintro ⟨m, h2, h3⟩
     refine ⟨m, h2, ?_⟩
     rw [show k = 2 * (k / 2) by omega]; exact (hsq m).1 h3
    ·rintro ⟨m, h2, h3⟩
     refine ⟨m, h2, (hsq m).2 ?_⟩
     rw [show k = 2 * (k / 2) by omega] at h3; exact h3
theorem powR_bt {n : Nat} (hn : n ≤ 32) (x : List Nat) (k : Nat) (hk : k < 128) (a b : Nat) : Bt (powR x k n) a b ↔ a ≤ n ∧ It (Bt x) k a b := by
 unfold powR
 rw [powM_bt 7 x k (idR n) a b (by simpa using hk)]
 constructor
 ·rintro ⟨m, h1, h2⟩
  obtain ⟨rfl, h3⟩ := (idR_bt hn a m).1 h1
  exact ⟨h3, h2⟩
 ·rintro ⟨h1, h2⟩
  exact ⟨a, (idR_bt hn a a).2 ⟨rfl, h1⟩, h2⟩
def Inn (R : Nat → Nat → Prop) (n : Nat) : Prop := ∀ a b, R a b → a ≤ b ∧ b ≤ n
theorem It_inn {R : Nat → Nat → Prop} {n : Nat} (h : Inn R n) : ∀ (k a b : Nat), It R k a b → a ≤ n → a ≤ b ∧ b ≤ n
 | 0, a, b, e, ha => by have e : a = b := e; omega
 | k + 1, a, b, ⟨m, h1, h2⟩, ha => by
  have h3 := h a m h1
  have h4 := It_inn h k m b h2 h3.2
  omega
theorem It_short {R : Nat → Nat → Prop} {n : Nat} (h : Inn R n) : ∀ (i a b : Nat), It R (i + 1) a b → a ≤ n → b < a + (i + 1) → It R i a b
 | 0, a, b, h1, ha, hb => by
  obtain ⟨m, h2, h3⟩ := h1
  have h3 : m = b := h3
  subst h3
  have := h a m h2
  show a = m
  omega
 | i + 1, a, b, ⟨m, h2, h3⟩, ha, hb => by
  have h4 := h a m h2
  by_cases hm : m = a
  ·subst hm; exact h3
  ·exact ⟨m, h2, It_short h i m b h3 h4.2 (by omega)⟩
theorem It_le {R : Nat → Nat → Prop} {n : Nat} (h : Inn R n) : ∀ (i a b : Nat), It R i a b → a ≤ n → ∃ j, j ≤ n ∧ j ≤ i ∧ It R j a b
 | 0, a, b, h1, ha => ⟨0, by omega, by omega, h1⟩
 | i + 1, a, b, h1, ha => by
  by_cases hi : i + 1 ≤ n
  ·exact ⟨i + 1, hi, by omega, h1⟩
  ·have hb := It_inn h _ _ _ h1 ha
   obtain ⟨j, h2, h3, h4⟩ := It_le h i a b (It_short h i a b h1 ha (by omega)) ha
   exact ⟨j, h2, by omega, h4⟩
theorem It_or {R S : Nat → Nat → Prop} {n : Nat} (h : Inn R n) (hS : ∀ a b, S a b ↔ R a b ∨ (a = b ∧ a ≤ n)) : ∀ (e a b : Nat), a ≤ n → (It S e a b ↔ ∃ j, j ≤ e ∧ It R j a b)
 | 0, a, b, ha => ⟨fun h => ⟨0, rr, h⟩, fun ⟨j, h1, h2⟩ => by
  obtain rfl : j = 0 := Nat.le_zero.1 h1
  exact h2⟩
 | e + 1, a, b, ha => by
  simp only [It]
  constructor
  ·rintro ⟨m, h1, h2⟩
   rcases (hS a m).1 h1 with h3 | ⟨rfl, _⟩
   ·obtain ⟨j, h4, h5⟩ := (It_or h hS e m b (h a m h3).2).1 h2
    exact ⟨j + 1, by omega, m, h3, h5⟩
   ·obtain ⟨j, h4, h5⟩ := (It_or h hS e a b ha).1 h2
    exact ⟨j, by omega, h5⟩
  ·rintro ⟨j, h1, h2⟩
   cases j with
   | zero => exact ⟨a, (hS a a).2 (.inr ⟨rfl, ha⟩), (It_or h hS e a b ha).2 ⟨0, Nat.zero_le _, h2⟩⟩
   | succ j =>
    obtain ⟨m, h3, h4⟩ := h2
    exact ⟨m, (hS a m).2 (.inl h3), (It_or h hS e m b (h a m h3).2).2 ⟨j, by omega, h4⟩⟩
theorem repR_bt {n : Nat} (hn : n ≤ 32) {r : List Nat} (hl : r.length = 33) (h : Inn (Bt r) n) {lo : Nat} {hi : Int} (h1 : lo < 128) (h2 : extraN lo hi n < 128) (a b : Nat) :
  Bt (repR r lo hi n) a b ↔ a ≤ n ∧ ∃ j, j ≤ extraN lo hi n ∧ It (Bt r) (lo + j) a b := by
 unfold repR
 rw [thenM_bt]
 have hS : ∀ a b, Bt (orR r (idR n)) a b ↔ Bt r a b ∨ (a = b ∧ a ≤ n) := fun a b => by rw [orR_bt (by rw [hl, idR_len]), idR_bt hn]
 constructor
 ·rintro ⟨m, h3, h4⟩
  obtain ⟨h5, h6⟩ := (powR_bt hn r lo h1 a m).1 h3
  obtain ⟨h7, h8⟩ := (powR_bt hn _ _ h2 m b).1 h4
  obtain ⟨j, h9, h10⟩ := (It_or h hS _ m b h7).1 h8
  exact ⟨h5, j, h9, (It_add lo j a b).2 ⟨m, h6, h10⟩⟩
 ·rintro ⟨h5, j, h9, h10⟩
  obtain ⟨m, h6, h11⟩ := (It_add lo j a b).1 h10
  have h7 := (It_inn h _ _ _ h6 h5).2
  exact ⟨m, (powR_bt hn r lo h1 a m).2 ⟨h5, h6⟩, (powR_bt hn _ _ h2 m b).2 ⟨h7, (It_or h hS _ m b h7).2 ⟨j, h9, h11⟩⟩⟩
theorem It_still {R : Nat → Nat → Prop} {lo k : Nat} (hk : lo < k) {a : Nat} (h : ∀ b, It R k a b → ∃ j, lo ≤ j ∧ j < k ∧ It R j a b) : ∀ (i b : Nat), It R (k + i) a b → ∃ j, lo ≤ j ∧ j < k ∧ It R j a b
 | 0, b, h1 => h b h1
 | i + 1, b, h1 => by
  rw [show k + (i + 1) = (k + i) + 1 by omega, It_add] at h1
  obtain ⟨m, h2, h3⟩ := h1
  obtain ⟨j, h4, h5, h6⟩ := It_still hk h i m h2
  have h7 : It R (j + 1) a b := (It_add j 1 a b).2 ⟨m, h6, h3⟩
  by_cases hj : j + 1 < k
  ·exact ⟨j + 1, by omega, hj, h7⟩
  ·obtain rfl : k = j + 1 := by omega
   exact h b h7
theorem idR_inn {n : Nat} (hn : n ≤ 32) : Inn (Bt (idR n)) n := fun a b h => by have := (idR_bt hn a b).1 h; omega
theorem then_inn {x y : List Nat} {n : Nat} (hx : Inn (Bt x) n) (hy : Inn (Bt y) n) : Inn (Bt (thenM x y)) n := fun a b h => by
 obtain ⟨m, h1, h2⟩ := (thenM_bt x y a b).1 h
 have := hx a m h1
 have := hy m b h2
 omega
theorem fold_then_inn {n : Nat} (rs : List (List Nat)) (hr : ∀ r ∈ rs, Inn (Bt r) n) (a : List Nat) (ha : Inn (Bt a) n) : Inn (Bt (rs.foldl thenM a)) n := by
 induction rs generalizing a with
 | nil => exact ha
 | cons r rs ih => exact ih (fun x hx => hr x (List.mem_cons_of_mem _ hx)) _ (then_inn ha (hr r (List.mem_cons_self ..)))
theorem fold_or_inn {n : Nat} (rs : List (List Nat)) (hr : ∀ r ∈ rs, Inn (Bt r) n ∧ r.length = 33) (a : List Nat) (ha : Inn (Bt a) n) (hl : a.length = 33) : Inn (Bt (rs.foldl orR a)) n := by
 induction rs generalizing a with
 | nil => exact ha
 | cons r rs ih =>
  have h1 := hr r (List.mem_cons_self ..)
  refine ih (fun x hx => hr x (List.mem_cons_of_mem _ hx)) _ (fun x y h => ?_) (orR_len _ _ hl h1.2)
  rcases (orR_bt (by rw [hl, h1.2]) x y).1 h with h | h
  ·exact ha x y h
  ·exact h1.1 x y h
theorem extraN_lt {lo : Nat} {hi : Int} {n : Nat} (hn : n ≤ 32) (h : hi ≤ 32) : extraN lo hi n < 128 := by unfold extraN; split <;> omega
theorem relOf_len {k : Nd} {ws : List Snd} {rs : List (List Nat)} {c : Nat} (hal : allowedM k c = 0) (hc : rs.length = c) (hr : ∀ r ∈ rs, r.length = 33) : (relOf k ws rs).length = 33 := by
 unfold relOf
 split
 ·simp [sndR, sndTo]
 ·split
  ·exact edgeR_len _
  ·split
   ·exact edgeR_len _
   ·split
    ·exact fold_or_len rs hr _ rfl
    ·split
     ·unfold repR; rw [thenM_len]
      unfold powR
      have : ∀ (f : Nat) (x : List Nat) (q : Nat) (o : List Nat), o.length = 33 → (powM f x q o).length = 33 := by
       intro f
       induction f with
       | zero => intro x q o ho; exact ho
       | succ f ih =>
        intro x q o ho
        rw [powM]
        split
        ·exact ho
        ·refine ih _ _ _ ?_
         split
         ·rw [thenM_len]; exact ho
         ·exact ho
      exact this _ _ _ _ (idR_len _)
     ·exact fold_then_len rs _ (idR_len _)
theorem relOf_inn {k : Nd} {ws : List Snd} {rs : List (List Nat)} {c : Nat} (hn : ws.length ≤ 32) (hal : allowedM k c = 0) (hc : rs.length = c) (hr : ∀ r ∈ rs, Inn (Bt r) ws.length ∧ r.length = 33) : Inn (Bt (relOf k ws rs)) ws.length := by
 unfold relOf
 split
 ·intro a b h
  obtain ⟨s, hs, _, rfl⟩ := (sndR_bt _ _ _ hn a b).1 h
  have := (List.getElem?_eq_some_iff.1 hs).1
  omega
 ·split
  ·intro a b h
   have := (edgeR_bt (by omega) a b).1 h
   omega
  ·split
   ·intro a b h
    have := (edgeR_bt hn a b).1 h
    omega
   ·split
    ·exact fold_or_inn rs hr _ (fun a b h => absurd h (zeroR_bt a b)) rfl
    ·split
     ·rename_i h5
      obtain ⟨h6, h7, h8, h9⟩ := allowed_rep h5 hal
      obtain ⟨r, hr'⟩ : ∃ r, rs = [r] := by
       match rs, hc.trans h6 with
       | [r], _ => exact ⟨r, rfl⟩
      subst hr'
      obtain ⟨h10, h11⟩ := hr r (by simp)
      intro a b h
      obtain ⟨h12, j, _, h13⟩ := (repR_bt hn h11 h10 (by omega) (extraN_lt hn (by omega)) a b).1 h
      exact It_inn h10 _ _ _ h13 h12
     ·exact fold_then_inn rs (fun r h => (hr r h).1) _ (idR_inn hn)
theorem rels_all {ws : List Snd} (hn : ws.length ≤ 32) : ∀ f : Fo, okF f → ∀ r ∈ rels ws f, Inn (Bt r) ws.length ∧ r.length = 33
 | .nil, _, r, h => by simp [rels] at h
 | .node k ch nx, ⟨h1, h2, h3⟩, r, h => by
  rcases List.mem_cons.1 h with rfl | h
  ·have h4 := rels_all hn ch h2
   exact ⟨relOf_inn hn h1 (rels_len ws ch) h4, relOf_len h1 (rels_len ws ch) fun r hr => (h4 r hr).2⟩
  ·exact rels_all hn nx h3 r h
end Go.Proofs.YtcpcojgmmpnkoaaGreatDoor
namespace Go.Proofs.YtcpcojgmmpnkoaaGreatDoor
open Go.RowKit Go.Shelf
def IsTab (w : World) (A : Option Addr) (n c : Nat) (l : List Nat) : Prop := Cells w A n c 1 (l.map fun (s : Nat) => Value.int .u64 (s : Int))
section tab
variable {w w' : World} {A : Option Addr} {n c : Nat} {l : List Nat}
theorem IsTab.len (h : IsTab w A n c l) : l.length = n := by have := h.1; simpa using this
theorem IsTab.below (h : IsTab w A n c l) {B : Nat} (hb : Below B w w') (hB : w.heap.size ≤ B) : IsTab w' A n c l := Cells.below h hb hB
theorem IsTab.max (h : IsTab w A n c l) : n ≤ c ∧ c ≤ 9223372036854775807 := by have h1 := h.2.1; have h2 := h.2.2.1; unfold maxLen at h2; omega
theorem IsTab.at_ (h : IsTab w A n c l) {k : Nat} (hk : k < n) : ∃ b off s, A = some ⟨b, off, none⟩ ∧ b < w.heap.size ∧ w.cell? ⟨b, off + k, none⟩ = some (.int .u64 ((s : Nat) : Int)) ∧ l[k]? = some s := by
 obtain ⟨b, off, v, hA, hb, hv, hc⟩ := h.at1 hk
 rw [List.getElem?_map] at hv
 cases hl : l[k]? with
 | none => rw [hl] at hv; cases hv
 | some x =>
  rw [hl] at hv
  obtain rfl : Value.int .u64 (x : Int) = v := by simpa using hv
  exact ⟨b, off, x, hA, hb, hc, rfl⟩
end tab
def tabC (l : List Nat) : Array Value := (l.map fun (s : Nat) => Value.int .u64 (s : Int)).toArray
theorem u64_info : (Tryz.prog.info? 235).map (fun i => (i.zero, i.size, i.bytes)) = some (some (.int .u64 0), 1, 8) := by kernel_rfl
theorem made_tab (n : Nat) : madeCells #[Value.int .u64 0] n = tabC (List.replicate n 0) := by
 apply Array.ext
 ·simp [size_madeCells, tabC]
 ·intro i h1 h2
  simp [madeCells, Nat.mod_one, tabC]
theorem tabC_set (l : List Nat) (j s : Nat) : (tabC l).setIfInBounds j (.int .u64 (s : Int)) = tabC (l.set j s) := by simp [tabC, List.map_set]
theorem tabC_get {w : World} {g j : Nat} {l : List Nat} {s : Nat} {t : TypeId} (h : w.heap[g]? = some (.cells (tabC l) t (0, 0))) (hx : l[j]? = some s) : w.cell? ⟨g, j, none⟩ = some (.int .u64 (s : Int)) :=
 cell_at_heap h (by simp [tabC, hx])
theorem tab_row {w : World} {g n : Nat} {l : List Nat} {t : TypeId} (h : w.heap[g]? = some (.cells (tabC l) t (0, 0))) (hl : l.length = n) (hn : n ≤ maxLen) : IsTab w (some ⟨g, 0, none⟩) n n l :=
 ⟨by simpa using hl, rr, hn, (fun h => by cases h), fun _ => ⟨g, 0, rfl, lt_of_block h, fun j v hv => by rw [Nat.zero_add]; exact cell_at_heap h (by simpa [tabC] using hv)⟩⟩
theorem set_at {l : List Nat} {j s : Nat} (h : l[j]? = some s) : l.set j s = l := by
 apply List.ext_getElem?
 intro i
 rw [List.getElem?_set]
 split
 ·rename_i e; subst e
  have := (List.getElem?_eq_some_iff.1 h).1
  rw [if_pos this, h]
 ·rfl
def RetTab (w : World) (l : List Nat) (e : Ending) (w' : World) : Prop := ∃ A n c, e = .returned (.slice A n c) ∧ IsTab w' A n c l ∧ Below w.heap.size w w'
def idT (n : Nat) : List Nat := (List.range (n + 1)).map fun k => 2 ^ k
def idTTo (n j : Nat) : List Nat := (List.range (n + 1)).map fun k => if k < j then 2 ^ k else 0
theorem idT_len (n : Nat) : (idT n).length = n + 1 := by simp [idT]
theorem idTTo_zero (n : Nat) : idTTo n 0 = List.replicate (n + 1) 0 := by
 apply List.ext_getElem?
 intro i
 unfold idTTo
 rw [List.getElem?_map, List.getElem?_replicate]
 by_cases h : i < n + 1
 ·rw [List.getElem?_range h, if_pos h, Option.map_some, if_neg (by omega)]
 ·rw [List.getElem?_eq_none (by simpa using h), if_neg h]; rfl
theorem idTTo_all (n : Nat) : idTTo n (n + 1) = idT n := List.map_congr_left fun k hk => by rw [if_pos (List.mem_range.1 hk)]
theorem idTTo_step (n j : Nat) : (idTTo n j).set j (2 ^ j) = idTTo n (j + 1) := by
 unfold idTTo
 refine range_set _ _ _ _ _ (by rw [if_pos (by omega)]) fun k hk => ?_
 by_cases h : k < j
 ·rw [if_pos h, if_pos (by omega)]
 ·rw [if_neg h, if_neg (by omega)]
theorem same_c (n : Nat) (w : World) (hn : n ≤ 32) : Calls Tryz.prog 242 #[.int .i64 n] w (RetTab w (idT n)) := by
 have hmk : ∀ w : World, (Instr.makeSlice 245 (.int .i64 ((n : Int) + 1)) (.int .i64 ((n : Int) + 1))).run Tryz.prog w = .ok (.slice (some ⟨w.heap.size, 0, none⟩) (n + 1) (n + 1)) (w.alloc (.cells (madeCells #[.int .u64 0] (n + 1)) 235)) :=
  fun w => run_make_row' (P := Tryz.prog) 245 235 (.int .u64 0) 8 Tryz.underlying245 u64_info rfl .i64 .i64 (n + 1) (by omega) (by omega) w
 go_enter Tryz.func242, Tryz.ntmps242
 go_wp2
 clear hmk
 rw [made_tab]
 have kg : (w.alloc (.cells (tabC (List.replicate (n + 1) 0)) 235)).heap[w.heap.size]? = some (.cells (tabC (List.replicate (n + 1) 0)) 235 (0, 0)) := heap_new_at rfl
 have kB : Below w.heap.size w (w.alloc (.cells (tabC (List.replicate (n + 1) 0)) 235)) := bel
 generalize (w.alloc (.cells (tabC (List.replicate (n + 1) 0)) 235)) = V0 at *
 go_loopw [4] (fun i wr => ∃ k : Nat, i = .int .i64 k ∧ k ≤ n + 1 ∧ Hid (wr.heap[w.heap.size]? = some (.cells (tabC (idTTo n k)) 235 (0, 0))) ∧ Below w.heap.size w wr) (fun i _ => n + 1 - (intOf i).toNat)
 case atStart => exact ⟨0, rfl, Nat.zero_le _, by rw [idTTo_zero]; exact kg, kB⟩
 case round =>
  obtain ⟨k, rfl, hk, hg, hB⟩ := hrel
  by_cases hlt : k < n + 1
  ·have h1 : (k : Int) < (n : Int) + 1 := by omega
   have h2 : (k : Int) ≤ (n : Int) := by omega
   have hz : (idTTo n k)[k]? = some 0 := by unfold idTTo; rw [List.getElem?_map, List.getElem?_range hlt, Option.map_some, if_neg (by omega)]
   have hc := tabC_get hg.out hz
   have hf := frozen_of_row wr w.heap.size k _ _ hg.out
   have hsh := shl_one' k (by omega)
   have hsh2 := shl_one k (by omega)
   clear hz
   go_wp2
   have t1 : (wr.setCell ⟨w.heap.size, k, none⟩ (.int .u64 (2 ^ k))).heap[w.heap.size]? = some (.cells (tabC (idTTo n (k + 1))) 235 (0, 0)) := by
    rw [← idTTo_step, ← tabC_set, show (((2 ^ k : Nat)) : Int) = 2 ^ k by simp]
    exact heap_setCell_same hg.out
   have tB : Below w.heap.size w (wr.setCell ⟨w.heap.size, k, none⟩ (.int .u64 (2 ^ k))) := hB.setCell (p := ⟨w.heap.size, k, none⟩) rr _
   go_roundw
   case rel => exact ⟨k + 1, by go_num, by omega, t1, tB⟩
   case measure => simp [intOf]; omega
  ·obtain rfl : k = n + 1 := by omega
   have h2 : ¬ ((n : Int) + 1 ≤ (n : Int)) := by omega
   have hg' := hg.out
   rw [idTTo_all] at hg'
   go_wp2
   go_ret
   exact ⟨_, _, _, rfl, tab_row hg' (idT_len n) (by unfold maxLen; omega), hB⟩
theorem G_take (y : List Nat) : ∀ (b s : Nat), G (y.take (b + 1)) s = G (y.take b) s ||| (if s.testBit b then y.getD b 0 else 0) := by
 intro b s
 apply Nat.eq_of_testBit_eq
 intro i
 have e : ∀ (q m : Nat), ((y.take q).getD m 0) = if m < q then y.getD m 0 else 0 := by
  intro q m
  rw [List.getD_eq_getElem?_getD, List.getElem?_take, List.getD_eq_getElem?_getD]
  split <;> rfl
 rw [Bool.eq_iff_iff, Nat.testBit_or, Bool.or_eq_true, G_bit, G_bit]
 constructor
 ·rintro ⟨m, h1, h2⟩
  rw [e] at h2
  by_cases hm : m < b
  ·exact .inl ⟨m, h1, by rw [e, if_pos hm]; rwa [if_pos (by omega)] at h2⟩
  ·by_cases hm' : m = b
   ·subst hm'
    rw [if_pos (by omega)] at h2
    rw [if_pos h1]; exact .inr h2
   ·rw [if_neg (by omega)] at h2; simp at h2
 ·rintro (⟨m, h1, h2⟩ | h)
  ·rw [e] at h2
   by_cases hm : m < b
   ·rw [if_pos hm] at h2
    exact ⟨m, h1, by rw [e, if_pos (by omega)]; exact h2⟩
   ·rw [if_neg hm] at h2; simp at h2
  ·by_cases h1 : s.testBit b = true
   ·rw [if_pos h1] at h
    exact ⟨b, h1, by rw [e, if_pos (by omega)]; exact h⟩
   ·rw [if_neg h1] at h; simp at h
def folTo (x y : List Nat) (a : Nat) : List Nat := (List.range x.length).map fun k => if k < a then G y (x.getD k 0) else 0
theorem folTo_len (x y : List Nat) (a : Nat) : (folTo x y a).length = x.length := by simp [folTo]
theorem folTo_zero (x y : List Nat) : folTo x y 0 = List.replicate x.length 0 := by
 apply List.ext_getElem?
 intro i
 unfold folTo
 rw [List.getElem?_map, List.getElem?_replicate]
 by_cases h : i < x.length
 ·rw [List.getElem?_range h, if_pos h, Option.map_some, if_neg (by omega)]
 ·rw [List.getElem?_eq_none (by simpa using h), if_neg h]; rfl
theorem folTo_all (x y : List Nat) : folTo x y x.length = thenM x y := by
 apply List.ext_getElem?
 intro i
 unfold folTo thenM
 rw [List.getElem?_map, List.getElem?_map]
 by_cases h : i < x.length
 ·rw [List.getElem?_range h, Option.map_some, if_pos h, List.getElem?_eq_getElem h, Option.map_some, getD_of (List.getElem?_eq_getElem h)]
 ·rw [List.getElem?_eq_none (by simpa using h), List.getElem?_eq_none (by omega)]; rfl
theorem folTo_step (x y : List Nat) (a : Nat) : (folTo x y a).set a (G y (x.getD a 0)) = folTo x y (a + 1) := by
 unfold folTo
 refine range_set _ _ _ _ _ (by rw [if_pos (by omega)]) fun k hk => ?_
 by_cases h : k < a
 ·rw [if_pos h, if_pos (by omega)]
 ·rw [if_neg h, if_neg (by omega)]
theorem G_nil (s : Nat) : G [] s = 0 := rfl
theorem take_small {y : List Nat} (h : AllSmall y) (b : Nat) : AllSmall (y.take b) := fun s hs => h s (List.mem_of_mem_take hs)
theorem follow_c (A A' : Option Addr) (n c n' c' : Nat) (x y : List Nat) (w : World) (hx : IsTab w A n c x) (hy : IsTab w A' n' c' y) (hn : n ≤ 33) (hn' : n' ≤ 33) (hsx : AllSmall x) (hsy : AllSmall y) :
  Calls Tryz.prog 243 #[.slice A n c, .slice A' n' c'] w (RetTab w (thenM x y)) := by
 have hxl := hx.len
 have hyl := hy.len
 have HX := hI hx; clear hx
 have HY := hI hy; clear hy
 have HSX := hI hsx; clear hsx
 have HSY := hI hsy; clear hsy
 have HXL := hI hxl; clear hxl
 have HYL := hI hyl; clear hyl
 have hmk := fun w => run_make_row' (P := Tryz.prog) 245 235 (.int .u64 0) 8 Tryz.underlying245 u64_info rfl .i64 .i64 n (by omega) (by omega) w
 go_enter Tryz.func243, Tryz.ntmps243
 go_wp2
 clear hmk
 rw [made_tab]
 have kg : (w.alloc (.cells (tabC (List.replicate n 0)) 235)).heap[w.heap.size]? = some (.cells (tabC (List.replicate n 0)) 235 (0, 0)) := heap_new_at rfl
 have kB : Below w.heap.size w (w.alloc (.cells (tabC (List.replicate n 0)) 235)) := bel
 generalize (w.alloc (.cells (tabC (List.replicate n 0)) 235)) = V0 at *
 go_loopw [6] (fun i wr => ∃ a : Nat, i = .int .i64 a ∧ a ≤ n ∧ Hid (wr.heap[w.heap.size]? = some (.cells (tabC (folTo x y a)) 235 (0, 0))) ∧ Below w.heap.size w wr) (fun i _ => n - (intOf i).toNat)
 case atStart => exact ⟨0, rfl, Nat.zero_le _, by rw [folTo_zero, HXL.out]; exact kg, kB⟩
 case round =>
  obtain ⟨a, rfl, ha, hg, hB⟩ := hrel
  have hBs := hB.size
  by_cases hlt : a < n
  ·have h1 : (a : Int) < (n : Int) := by omega
   obtain ⟨b, off, s, hA, hb, hc0, hxs⟩ := (HX.out.below hB rr).at_ hlt
   have hss := HSX.out s (List.mem_of_getElem? hxs)
   have HSS := hI hss; clear hss
   have HXS := hI (getD_of (d := 0) hxs); clear hxs
   obtain ⟨wo, hwo⟩ : ∃ wo, wo = wr := ⟨_, rfl⟩
   subst hwo
   have HC0 := hI hc0; clear hc0
   go_wp2
   go_loopw [7] (fun i wr => ∃ q : Nat, i = .int .i64 q ∧ q ≤ n' ∧ Hid (wr.heap[w.heap.size]? = some (.cells (tabC ((folTo x y a).set a (G (y.take q) s))) 235 (0, 0))) ∧ Hid (Keep (fun k => k = w.heap.size) wo wr)) (fun i _ => n' - (intOf i).toNat)
   case atStart =>
    refine ⟨0, rfl, Nat.zero_le _, ?_, Keep.refl _ _⟩
    show _ = _
    rw [List.take_zero, G_nil, set_at (by unfold folTo; rw [List.getElem?_map, List.getElem?_range (by rw [HXL.out]; exact hlt), Option.map_some, if_neg (by omega)])]
    exact hg.out
   case round =>
    obtain ⟨q, rfl, hq, hgq, hK⟩ := hrel
    by_cases hql : q < n'
    ·have h2 : (q : Int) < (n' : Int) := by omega
     have hbw : b ≠ w.heap.size := by
      have := HX.out
      obtain ⟨b', off', s', hA', hb', _⟩ := this.at_ hlt
      rw [hA] at hA'
      obtain ⟨rfl, _⟩ : b = b' ∧ off = off' := by simpa using hA'
      omega
     obtain ⟨by_, oy, t, hA', hby, hcy, hyt⟩ := HY.out.at_ hql
     have hcx : wr.cell? ⟨b, off + a, none⟩ = some (.int .u64 (s : Int)) := (World.cell?_of_block (hK.out.block b hb hbw)).trans HC0.out
     have hcy' : wr.cell? ⟨by_, oy + q, none⟩ = some (.int .u64 (t : Int)) := (World.cell?_of_block (hK.out.block by_ (by omega) (by omega))).trans ((hB.cell (p := ⟨by_, oy + q, none⟩) hby).trans hcy)
     have hts := HSY.out t (List.mem_of_getElem? hyt)
     have hGs : Small (G (y.take q) s) := G_small _ _ (take_small HSY.out q)
     have hal : a < (folTo x y a).length := by rw [folTo_len, HXL.out]; exact hlt
     have hcg := tabC_get hgq.out (j := a) (s := G (y.take q) s) (by rw [List.getElem?_set_self hal])
     have hfg := frozen_of_row wr w.heap.size a _ _ hgq.out
     have HST : Hid (G (y.take (q + 1)) s = G (y.take q) s ||| (if s.testBit q then t else 0)) := by show _ = _; rw [G_take, getD_of hyt]
     have hbt := bit_at s q HSS.out
     have hor := or_bits (G (y.take q) s) t hGs hts
     have HOR := hI hor; clear hor
     obtain ⟨d, hd⟩ : ∃ d, d = s.testBit q := ⟨_, rfl⟩
     rw [← hd] at hbt HST
     subst hA'
     clear hcy hyt hts hGs hal hd
     cases d
     ·have HN : Hid (G (y.take (q + 1)) s = G (y.take q) s) := by show _ = _; rw [HST.out]; simp
      subst hA
      clear hcg hfg hcy'
      go_wp2
      go_roundw
      case rel => exact ⟨q + 1, by go_num, by omega, by show _ = _; rw [HN.out]; exact hgq.out, hK⟩
      case measure => simp [intOf]; omega
     ·have HN : Hid (G (y.take (q + 1)) s = G (y.take q) s ||| t) := by show _ = _; rw [HST.out]; simp
      subst hA
      obtain ⟨gv, hgv⟩ : ∃ gv, gv = G (y.take q) s := ⟨_, rfl⟩
      rw [← hgv] at hcg HN HOR
      have HGV := hI hgv; clear hgv
      go_wp2
      refine plain_region (fun W' => W'.cell? ⟨w.heap.size, a, none⟩ = some (.int .u64 (gv : Int)) ∧ W'.cell? ⟨by_, oy + q, none⟩ = some (.int .u64 (t : Int)) ∧ W'.frozen? ⟨w.heap.size, a, none⟩ = false) (by kernel_rfl) ⟨hcg, hcy', hfg⟩ (fun hHeld => ?_)
      (refine' anyT_tk 0 rfl ?_; (try simp only [Act.put, nY, nX])); (refine' anyT_tk 1 rfl ?_; (try simp only [Act.put, nY, nX])); (refine' anyT_tk 2 rfl ?_; (try simp only [Act.put, nY, nX])); (refine' anyT_tk 3 rfl ?_; (try simp only [Act.put, nY, nX])); (refine' anyT_tk 4 rfl ?_; (try simp only [Act.put, nY, nX])); (refine' anyT_tk 5 rfl ?_; (try simp only [Act.put, nY, nX])); (refine' anyT_tk 6 rfl ?_; (try simp only [Act.put, nY, nX])); (refine' anyT_tk 7 rfl ?_; (try simp only [Act.put, nY, nX])); (refine' anyT_tk 8 rfl ?_; (try simp only [Act.put, nY, nX])); (refine' anyT_tk 9 rfl ?_; (try simp only [Act.put, nY, nX])); (refine' anyT_tk 10 rfl ?_; (try simp only [Act.put, nY, nX])); (refine' anyT_tk 11 rfl ?_; (try simp only [Act.put, nY, nX]))
      (refine anyT_sp 12 rfl (fun K' hK' => ?_); simp only [nY]; go_simp)
      refine hK' _ _ ⟨.inl (by kernel_rfl), fun _ => anyT_done (by kernel_rfl) ?_ _⟩
      clear hK' K' hHeld
      rw [HOR.out]
      have t1 : (wr.setCell ⟨w.heap.size, a, none⟩ (.int .u64 ((gv ||| t : Nat) : Int))).drew.heap[w.heap.size]? = some (.cells (tabC ((folTo x y a).set a (G (y.take (q + 1)) s))) 235 (0, 0)) := by
       rw [HN.out, show (folTo x y a).set a (gv ||| t) = ((folTo x y a).set a gv).set a (gv ||| t) by rw [List.set_set], ← tabC_set]
       have := hgq.out
       rw [← HGV.out] at this
       exact heap_setCell_same this
      have tK := (hK.out.setCell (p := ⟨w.heap.size, a, none⟩) rfl (.int .u64 ((gv ||| t : Nat) : Int))).drew
      generalize (wr.setCell ⟨w.heap.size, a, none⟩ (.int .u64 ((gv ||| t : Nat) : Int))).drew = W5 at *
      clear hcg hfg hcy'
      go_wp2
      go_roundw
      case rel => exact ⟨q + 1, by go_num, by omega, t1, tK⟩
      case measure => simp [intOf]; omega
    ·obtain rfl : q = n' := by omega
     have hN : (folTo x y a).set a (G (y.take q) s) = folTo x y (a + 1) := by rw [List.take_of_length_le (by rw [HYL.out]; exact rr), ← HXS.out]; exact folTo_step x y a
     have HN := hI hN; clear hN
     have hB2 : Below w.heap.size w wr := hB.trans (hK.out.to_below (fun k hk => by have hk' : k = w.heap.size := hk; omega) hB.size)
     have hg2 := hgq.out
     rw [HN.out] at hg2
     go_wp2
     go_roundw
     case rel => exact ⟨a + 1, by go_num, by omega, hg2, hB2⟩
     case measure => simp [intOf]; omega
  ·obtain rfl : a = n := by omega
   have hg' := hg.out
   rw [show folTo x y a = thenM x y by rw [← HXL.out]; exact folTo_all x y] at hg'
   go_wp2
   go_ret
   exact ⟨_, _, _, rfl, tab_row hg' (by rw [thenM_len, HXL.out]) (by unfold maxLen; omega), hB⟩
def joinTo (x y : List Nat) (a : Nat) : List Nat := (List.range x.length).map fun k => if k < a then x.getD k 0 ||| y.getD k 0 else 0
theorem joinTo_zero (x y : List Nat) : joinTo x y 0 = List.replicate x.length 0 := by
 apply List.ext_getElem?
 intro i
 unfold joinTo
 rw [List.getElem?_map, List.getElem?_replicate]
 by_cases h : i < x.length
 ·rw [List.getElem?_range h, if_pos h, Option.map_some, if_neg (by omega)]
 ·rw [List.getElem?_eq_none (by simpa using h), if_neg h]; rfl
theorem joinTo_all {x y : List Nat} (hl : x.length = y.length) : joinTo x y x.length = orR x y := by
 apply List.ext_getElem?
 intro i
 unfold joinTo orR
 rw [List.getElem?_map, List.getElem?_zipWith]
 by_cases h : i < x.length
 ·rw [List.getElem?_range h, Option.map_some, if_pos h, List.getElem?_eq_getElem h, List.getElem?_eq_getElem (show i < y.length by omega), getD_of (List.getElem?_eq_getElem h), getD_of (List.getElem?_eq_getElem (show i < y.length by omega))]
 ·rw [List.getElem?_eq_none (by simpa using h), List.getElem?_eq_none (by omega)]; rfl
theorem joinTo_step (x y : List Nat) (a : Nat) : (joinTo x y a).set a (x.getD a 0 ||| y.getD a 0) = joinTo x y (a + 1) := by
 unfold joinTo
 refine range_set _ _ _ _ _ (by rw [if_pos (by omega)]) fun k hk => ?_
 by_cases h : k < a
 ·rw [if_pos h, if_pos (by omega)]
 ·rw [if_neg h, if_neg (by omega)]
theorem join_c (A A' : Option Addr) (n c c' : Nat) (x y : List Nat) (w : World) (hx : IsTab w A n c x) (hy : IsTab w A' n c' y) (hn : n ≤ 33) (hsx : AllSmall x) (hsy : AllSmall y) :
  Calls Tryz.prog 244 #[.slice A n c, .slice A' n c'] w (RetTab w (orR x y)) := by
 have hxl := hx.len
 have hyl := hy.len
 have HX := hI hx; clear hx
 have HY := hI hy; clear hy
 have HSX := hI hsx; clear hsx
 have HSY := hI hsy; clear hsy
 have HXL := hI hxl; clear hxl
 have HYL := hI hyl; clear hyl
 have hmk := fun w => run_make_row' (P := Tryz.prog) 245 235 (.int .u64 0) 8 Tryz.underlying245 u64_info rfl .i64 .i64 n (by omega) (by omega) w
 go_enter Tryz.func244, Tryz.ntmps244
 go_wp2
 clear hmk
 rw [made_tab]
 have kg : (w.alloc (.cells (tabC (List.replicate n 0)) 235)).heap[w.heap.size]? = some (.cells (tabC (List.replicate n 0)) 235 (0, 0)) := heap_new_at rfl
 have kB : Below w.heap.size w (w.alloc (.cells (tabC (List.replicate n 0)) 235)) := bel
 generalize (w.alloc (.cells (tabC (List.replicate n 0)) 235)) = V0 at *
 go_loopw [6] (fun i wr => ∃ a : Nat, i = .int .i64 a ∧ a ≤ n ∧ Hid (wr.heap[w.heap.size]? = some (.cells (tabC (joinTo x y a)) 235 (0, 0))) ∧ Below w.heap.size w wr) (fun i _ => n - (intOf i).toNat)
 case atStart => exact ⟨0, rfl, Nat.zero_le _, by rw [joinTo_zero, HXL.out]; exact kg, kB⟩
 case round =>
  obtain ⟨a, rfl, ha, hg, hB⟩ := hrel
  have hBs := hB.size
  by_cases hlt : a < n
  ·have h1 : (a : Int) < (n : Int) := by omega
   obtain ⟨b, off, s, rfl, hb, hc0, hxs⟩ := (HX.out.below hB rr).at_ hlt
   obtain ⟨by_, oy, t, rfl, hby, hcy, hyt⟩ := (HY.out.below hB rr).at_ hlt
   have hor := or_bits s t (HSX.out s (List.mem_of_getElem? hxs)) (HSY.out t (List.mem_of_getElem? hyt))
   have HN : Hid ((joinTo x y a).set a (s ||| t) = joinTo x y (a + 1)) := by show _ = _; rw [← joinTo_step, getD_of hxs, getD_of hyt]
   have hz : (joinTo x y a)[a]? = some 0 := by unfold joinTo; rw [List.getElem?_map, List.getElem?_range (by rw [HXL.out]; exact hlt), Option.map_some, if_neg (by omega)]
   have hcg := tabC_get hg.out hz
   have hfg := frozen_of_row wr w.heap.size a _ _ hg.out
   have HOR := hI hor
   clear hor hxs hyt hz
   go_wp2
   refine plain_region (fun W' => W'.cell? ⟨b, off + a, none⟩ = some (.int .u64 (s : Int)) ∧ W'.cell? ⟨by_, oy + a, none⟩ = some (.int .u64 (t : Int))) (by kernel_rfl) ⟨hc0, hcy⟩ (fun hHeld => ?_)
   (refine' anyT_tk 0 rfl ?_; (try simp only [Act.put, nY, nX])); (refine' anyT_tk 1 rfl ?_; (try simp only [Act.put, nY, nX])); (refine' anyT_tk 2 rfl ?_; (try simp only [Act.put, nY, nX])); (refine' anyT_tk 3 rfl ?_; (try simp only [Act.put, nY, nX])); (refine' anyT_tk 4 rfl ?_; (try simp only [Act.put, nY, nX])); (refine' anyT_tk 5 rfl ?_; (try simp only [Act.put, nY, nX])); (refine' anyT_tk 6 rfl ?_; (try simp only [Act.put, nY, nX])); (refine' anyT_tk 7 rfl ?_; (try simp only [Act.put, nY, nX])); (refine' anyT_tk 8 rfl ?_; (try simp only [Act.put, nY, nX])); (refine' anyT_tk 9 rfl ?_; (try simp only [Act.put, nY, nX])); (refine' anyT_tk 10 rfl ?_; (try simp only [Act.put, nY, nX])); (refine' anyT_tk 11 rfl ?_; (try simp only [Act.put, nY, nX]))
   (refine anyT_sp 12 rfl (fun K' hK' => ?_); simp only [nY]; go_simp)
   refine hK' _ _ ⟨.inl (by kernel_rfl), fun _ => anyT_done (by kernel_rfl) ?_ _⟩
   clear hK' K' hHeld
   rw [HOR.out]
   have t1 : (wr.setCell ⟨w.heap.size, a, none⟩ (.int .u64 ((s ||| t : Nat) : Int))).drew.heap[w.heap.size]? = some (.cells (tabC (joinTo x y (a + 1))) 235 (0, 0)) := by
    rw [← HN.out, ← tabC_set]
    exact heap_setCell_same hg.out
   have tB : Below w.heap.size w (wr.setCell ⟨w.heap.size, a, none⟩ (.int .u64 ((s ||| t : Nat) : Int))).drew := (hB.setCell (p := ⟨w.heap.size, a, none⟩) rr _).drew
   generalize (wr.setCell ⟨w.heap.size, a, none⟩ (.int .u64 ((s ||| t : Nat) : Int))).drew = W5 at *
   clear hcg hfg hc0 hcy
   go_wp2
   go_roundw
   case rel => exact ⟨a + 1, by go_num, by omega, t1, tB⟩
   case measure => simp [intOf]; omega
  ·obtain rfl : a = n := by omega
   have hg' := hg.out
   rw [show joinTo x y a = orR x y by rw [← HXL.out]; exact joinTo_all (by rw [HXL.out, HYL.out])] at hg'
   go_wp2
   go_ret
   exact ⟨_, _, _, rfl, tab_row hg' (by unfold orR; rw [List.length_zipWith, HXL.out, HYL.out]; simp) (by unfold maxLen; omega), hB⟩
theorem equalT_c (A A' : Option Addr) (n c c' : Nat) (x y : List Nat) (w : World) (hx : IsTab w A n c x) (hy : IsTab w A' n c' y) :
  Calls Tryz.prog 245 #[.slice A n c, .slice A' n c'] w fun e w' => e = .returned (.bool (decide (x = y))) ∧ Below w.heap.size w w' := by
 have hm := hx.max
 have HX := hI hx; clear hx
 have HY := hI hy; clear hy
 go_enter Tryz.func245, Tryz.ntmps245
 go_wp2
 go_loopw [5] (fun i wr => ∃ k : Nat, k ≤ n ∧ i = .int .i64 k ∧ Hid (x.take k = y.take k) ∧ Below w.heap.size w wr) (fun i _ => n - (intOf i).toNat)
 case atStart => exact ⟨0, Nat.zero_le _, rfl, by simp [Hid], Below.refl _ _⟩
 case round =>
  obtain ⟨k, hk, rfl, HA, hB⟩ := hrel
  by_cases hlt : k < n
  ·obtain ⟨b, off, p, rfl, hb, hc0, hxk⟩ := (HX.out.below hB rr).at_ hlt
   obtain ⟨b', off', p', rfl, hb', hc0', hyk⟩ := (HY.out.below hB rr).at_ hlt
   have h1 : (k : Int) < (n : Int) := by omega
   have HK := hI hxk; clear hxk
   have HK' := hI hyk; clear hyk
   go_wp2
   by_cases he : p = p'
   ·subst he
    have HS := hI (take_snoc' x k p HK.out)
    have HS' := hI (take_snoc' y k p HK'.out)
    have he2 : ((p : Int) != (p : Int)) = false := by simp
    go_quiet (fail)
    go_wp2
    go_roundw
    case rel => exact ⟨k + 1, by omega, by go_num, by show _ = _; rw [HS.out, HS'.out, HA.out], hB.drewN nq⟩
    case measure => simp [intOf]; omega
   ·have hf : decide (x = y) = false := by
     apply decide_eq_false
     rintro rfl
     exact he (Option.some.inj (HK.out.symm.trans HK'.out))
    have HF := hI hf; clear hf
    have he2 : ((p : Int) != (p' : Int)) = true := by simp; omega
    have he3 : (p != p') = true := by simpa using he
    clear he
    go_quiet (fail)
    go_wp2
    go_ret
    exact ⟨by rw [HF.out]; rfl, hB.drewN nq⟩
  ·obtain rfl : k = n := by omega
   have hf : decide (x = y) = true := by
    apply decide_eq_true
    have := HA.out
    rwa [List.take_of_length_le (by rw [HX.out.len]; exact rr), List.take_of_length_le (by rw [HY.out.len]; exact rr)] at this
   have HF := hI hf; clear hf
   go_wp2
   go_ret
   exact ⟨by rw [HF.out]; rfl, hB⟩
theorem sat_hit {s : Snd} {p m : Int} (hp : U32 p) (hm : U32 m) : (bits .and .u32 s.1 p == p && bits .and .u32 s.2 m == m) = hitS p m false s := by
 unfold hitS
 have key : ∀ (a b : BitVec 32), ((a &&& b).toNat : Int) = (b.toNat : Int) ↔ ∀ i, (b &&& ~~~ a).getLsbD i = false := by
  intro a b
  constructor
  ·intro h i
   have h1 : a &&& b = b := BitVec.eq_of_toNat_eq (by omega)
   by_cases hi : i < 32
   ·have h2 := congrArg (fun z => z.getLsbD i) h1
    simp only [BitVec.getLsbD_and] at h2
    rw [BitVec.getLsbD_and, BitVec.getLsbD_not]
    revert h2
    cases a.getLsbD i <;> cases b.getLsbD i <;> simp
   ·exact BitVec.getLsbD_of_ge _ _ (by omega)
  ·intro h
   have h1 : a &&& b = b := BitVec.eq_of_getLsbD_eq fun i hi => by
    have h2 := h i
    rw [BitVec.getLsbD_and, BitVec.getLsbD_not] at h2
    rw [BitVec.getLsbD_and]
    revert h2
    cases a.getLsbD i <;> cases b.getLsbD i <;> simp [hi]
   rw [h1]
 rw [Bool.eq_iff_iff, Bool.and_eq_true, beq_iff_eq, beq_iff_eq, and_bv, and_bv]
 have ep := toI_bv hp
 have em := toI_bv hm
 unfold toI at ep em
 rw [show (((bv s.1 &&& bv p).toNat : Int) = p) = (((bv s.1 &&& bv p).toNat : Int) = ((bv p).toNat : Int)) by rw [ep], show (((bv s.2 &&& bv m).toNat : Int) = m) = (((bv s.2 &&& bv m).toNat : Int) = ((bv m).toNat : Int)) by rw [em], key, key]
 rw [or_bv, andNot_bv, bv_nat, andNot_bv, bv_nat]
 simp only [bne_iff_ne, ne_eq, Bool.not_eq_false, beq_iff_eq]
 rw [zero_iff]
 simp only [BitVec.getLsbD_or, Bool.or_eq_false_iff]
 exact ⟨fun h i => ⟨h.1 i, h.2 i⟩, fun h => ⟨fun i => (h i).1, fun i => (h i).2⟩⟩
theorem r6Sat_c (s : Snd) (p m : Int) (w : World) (hp : U32 p) (hm : U32 m) :
  Calls Tryz.prog 241 #[sndV s.1 s.2, sndV p m] w fun e w' => e = .returned (.bool (hitS p m false s)) ∧ Below w.heap.size w w' := by
 have H := hI (sat_hit (s := s) hp hm)
 obtain ⟨a, b⟩ := s
 obtain ⟨d1, hd1⟩ : ∃ d1, (bits .and .u32 a p == p) = d1 := ⟨_, rfl⟩
 obtain ⟨d2, hd2⟩ : ∃ d2, (bits .and .u32 b m == m) = d2 := ⟨_, rfl⟩
 have H1 : Hid (hitS p m false (a, b) = (d1 && d2)) := by show _ = _; rw [← H.out, ← hd1, ← hd2]
 clear H
 cases d1
 ·clear hd2
  go_enter Tryz.func241, Tryz.ntmps241
  go_wp2
  go_ret
  exact ⟨by rw [H1.out]; rfl, bel⟩
 ·go_enter Tryz.func241, Tryz.ntmps241
  go_wp2
  go_ret
  exact ⟨by rw [H1.out]; rfl, bel⟩
end Go.Proofs.YtcpcojgmmpnkoaaGreatDoor
