/-
  ablautlaw10.DeriveIdle is true.
-/
import Derived.Test.YtfgilinjaldhhaaGreatDoorXIdle1
import Derived.Test.YtfgilinjaldhhaaGreatDoorXS9
set_option linter.unusedVariables false
set_option linter.unusedSimpArgs false
namespace Go.Proofs.YtfgilinjaldhhaaGreatDoor
open Go.RowKit Go.Shelf


theorem wp_append_laws {o : Oper} {a : Act} {w : World} {K : Act → World → Prop} {Q : Exit → Act → World → Prop} (s x : Operand)
    (ho : o.op = .call { callee := .builtin .append, args := #[s, x], argTypes := #[22, 22] })
    (base : Nat) (v : Value) (n : Nat) (xs : List LawR) (hs : a.eval s = v) (hown : w.ownsRow base 49 18 v n (xs.flatMap LawR.cells))
    (A : Option Addr) (m c : Nat) (ys : List LawR) (hx : a.eval x = .slice A m c) (hr : Recs LawR.cells 18 w A m c ys) (hl : n + m ≤ 4096) (hbase : base ≤ w.heap.size)
    (h : ∀ v' w', w'.ownsRow base 49 18 v' (n + m) ((xs ++ ys).flatMap LawR.cells) → w.grownBy w' v.ownBlock → (v' = .slice none 0 0 ↔ v = .slice none 0 0 ∧ m = 0) → K (a.put o.dst v') w') : o.wp Tryz.prog a w K Q := by
  obtain ⟨i0, hi, hz0, hz1, hz2⟩ := info_parts law_info
  refine wp_append_cells w s x 22 ho base 49 i0 _ 18 200 Tryz.underlying22 hi hz0 hz1 hz2 lawZ_size (by decide) v n _ hs hown A m c _ hx hr.1
    (laws_one ys) (by unfold maxLen; omega) (by omega) hbase ?_
  rw [← List.flatMap_append]
  exact h
theorem any_filter (p : Nat → Bool) (n k : Nat) (hk : k < n) : (((List.range n).filter p).map fun (j : Nat) => (j : Int)).any (· == (k : Int)) = p k := by
  rw [List.any_map, Bool.eq_iff_iff, List.any_eq_true]
  constructor
  · rintro ⟨x, hx, he⟩
    obtain rfl : x = k := by
      have h1 : (x : Int) = k := by simpa using he
      omega
    exact (List.mem_filter.1 hx).2
  · intro h
    exact ⟨k, List.mem_filter.2 ⟨List.mem_range.2 hk, h⟩, by simp⟩

set_option maxRecDepth 100000 in
set_option maxHeartbeats 4000000 in
theorem deriveIdle_c (A : Option Addr) (n c : Nat) (xs : List LawR) (A' : Option Addr) (n' c' : Nat) (wss : List (List Snd)) (a : Int) (ha0 : 0 ≤ a) (ha1 : a ≤ 255) (w : World) (hx : IsLaws w A n c xs) (hw : IsWords w A' n' c' wss) (hT : TabOK w) :
    Calls Tryz.prog 11 #[.slice A n c, .slice A' n' c', .int .u8 a] w (RetTrue w) := by
  have hmx := hx.max
  have hmw := hw.max
  have HX := Lib.hid hx; clear hx
  have HW := Lib.hid hw; clear hw
  have HT := Lib.hid hT; clear hT
  have HLN : Hid ((lawsD xs).length = n) := by show (lawsD xs).length = n; rw [lawsD, List.length_map]; exact HX.out.len
  go_enter Tryz.func11, Tryz.ntmps11
  go_wp2_with fail
  refine (light_c A n c xs w HX.out).mono ?_
  rintro e w1 ⟨⟨b1, rfl⟩, hB1⟩
  have HB1 := Lib.hid hB1; clear hB1
  cases b1
  · go_wp2_with fail
    refine (works_c _ (HT.out.below HB1.out (Nat.le_refl _))).mono ?_
    rintro e w2 ⟨rfl, hbw⟩
    go_wp2
    go_ret
    exact ⟨rfl, Below.trans HB1.out (hbw.mono (Below.size HB1.out))⟩
  go_wp2_with fail
  refine (short_c A' n' c' wss w1 (HW.out.below HB1.out (Nat.le_refl _))).mono ?_
  rintro e w2 ⟨⟨b2, rfl⟩, hB2'⟩
  have hB2 := HB1.out.trans (hB2'.mono HB1.out.size)
  have HB2 := Lib.hid hB2; clear hB2 hB2' HB1
  cases b2
  · go_wp2_with fail
    refine (works_c _ (HT.out.below HB2.out (Nat.le_refl _))).mono ?_
    rintro e w3 ⟨rfl, hbw⟩
    go_wp2
    go_ret
    exact ⟨rfl, Below.trans HB2.out (hbw.mono (Below.size HB2.out))⟩
  by_cases hn0 : n = 0
  · subst hn0
    go_wp2_with fail
    refine (works_c _ (HT.out.below HB2.out (Nat.le_refl _))).mono ?_
    rintro e w3 ⟨rfl, hbw⟩
    go_wp2
    go_ret
    exact ⟨rfl, Below.trans HB2.out (hbw.mono (Below.size HB2.out))⟩
  have hnp : 0 < n := by omega
  have hne : ((n : Int) == 0) = false := by simpa using hn0
  clear hn0
  go_wp2_with fail
  refine (idle_c A n c xs A' n' c' wss w2 (HX.out.below HB2.out (Nat.le_refl _)) (HW.out.below HB2.out (Nat.le_refl _)) (HT.out.below HB2.out (Nat.le_refl _))).mono ?_
  rintro e w3 ⟨A3, n3, c3, rfl, hi3, hB3'⟩
  have HI3 := Lib.hid hi3; clear hi3
  have hB3 := HB2.out.trans (hB3'.mono HB2.out.size)
  have HB3 := Lib.hid hB3; clear hB3 hB3' HB2
  go_wp2_with fail
  refine (pairs_c A n c xs A' n' c' wss w3 (HX.out.below HB3.out (Nat.le_refl _)) (HW.out.below HB3.out (Nat.le_refl _)) (HT.out.below HB3.out (Nat.le_refl _))).mono ?_
  rintro e w4 ⟨A4, n4, c4, ss, rfl, hss, hp4, hB4'⟩
  have HP4 := Lib.hid hp4; clear hp4
  have HI4 := Lib.hid (HI3.out.below hB4' (Nat.le_refl _)); clear HI3
  have hB4 := HB3.out.trans (hB4'.mono HB3.out.size)
  have HB4 := Lib.hid hB4; clear hB4 hB4' HB3
  go_wp2_with fail
  refine (used_c A n c xs A' n' c' wss w4 (HX.out.below HB4.out (Nat.le_refl _)) (HW.out.below HB4.out (Nat.le_refl _)) (HT.out.below HB4.out (Nat.le_refl _))).mono ?_
  rintro e w5 ⟨A5, n5, c5, rfl, hi5, hB5'⟩
  have HU5 := Lib.hid hi5; clear hi5
  have HP5 := Lib.hid (HP4.out.below hB5' (Nat.le_refl _)); clear HP4
  have HI5 := Lib.hid (HI4.out.below hB5' (Nat.le_refl _)); clear HI4
  have hB5 := HB4.out.trans (hB5'.mono HB4.out.size)
  have HB5 := Lib.hid hB5; clear hB5 hB5' HB4
  rcases counts_cases (lawsD xs) wss with ⟨er, her, hu, hp⟩ | ⟨hl0, hl64, hw256, hu, hp, hall⟩
  · have h1 : (er != 0) = true := by simpa using her
    have h2 : (er != er) = false := by simp
    have hid : idleM (lawsD xs) wss = (er, []) := by unfold idleM; rw [hp, if_pos her]
    rw [hid] at HI5 ⊢
    rw [hu, hp]
    obtain rfl : n3 = 0 := HI5.out.len.symm
    clear hss hu hp her hid HI5 HP5 HU5
    go_wp2_with fail
    refine (works_c _ (HT.out.below HB5.out (Nat.le_refl _))).mono ?_
    rintro e w6 ⟨rfl, hbw⟩
    go_wp2
    go_ret
    exact ⟨rfl, Below.trans HB5.out (hbw.mono (Below.size HB5.out))⟩
  obtain ⟨L, hL⟩ : ∃ L : List Int, L = (((List.range n).filter fun k => wss.all (sameB (lawsD xs) k)).map fun (k : Nat) => (k : Int)) := ⟨_, rfl⟩
  have hid : idleM (lawsD xs) wss = (0, L) := by
    unfold idleM
    rw [hp, if_neg (by simp), HLN.out, hL]
    congr 3
    funext k
    exact idleB_all hl0 (fun ws hws => (hall ws hws).1)
  rw [hid] at HI5 ⊢
  rw [hu] at HU5 ⊢
  rw [hp] at hss ⊢
  rw [HLN.out] at hl64 HU5
  rw [HW.out.len] at hw256
  obtain rfl : n5 = n := by have h1 := HU5.out.len; simp only [bumps_len, List.length_replicate] at h1; exact h1.symm
  obtain rfl : n4 = n' := by have h1 := congrArg List.length hss; have h2 := HP5.out.1.2; have h3 := HW.out.len; simp only [List.length_map] at h1; omega
  have HALL := Lib.hid hall; clear hall
  have HL0 := Lib.hid hl0; clear hl0
  have HSS := Lib.hid hss; clear hss hu hp hid
  have hn3 := HI5.out.max
  obtain ⟨k, hk⟩ : ∃ k : Nat, a % (n5 : Int) = k := ⟨(a % (n5 : Int)).toNat, by have := Int.emod_nonneg a (b := (n5 : Int)) (by omega); omega⟩
  have hkn : k < n5 := by have := Int.emod_lt_of_pos a (b := (n5 : Int)) (by omega); omega
  have HLL : Hid (∀ (j : Nat) (x : Int), L[j]? = some x → ∃ m : Nat, x = (m : Int) ∧ m < n5) := by
    show ∀ (j : Nat) (x : Int), L[j]? = some x → ∃ m : Nat, x = (m : Int) ∧ m < n5
    intro j x hj
    rw [hL, List.getElem?_map] at hj
    cases hm : ((List.range n5).filter fun k => wss.all (sameB (lawsD xs) k))[j]? with
    | none => rw [hm] at hj; cases hj
    | some m => rw [hm] at hj; exact ⟨m, (Option.some.inj hj).symm, idle_mem hm⟩
  have HLS : Hid (∀ (j : Nat) (x y : Int), L[j]? = some x → L[j + 1]? = some y → x < y) := by
    show ∀ (j : Nat) (x y : Int), L[j]? = some x → L[j + 1]? = some y → x < y
    intro j x y hj hj'
    rw [hL, List.getElem?_map] at hj hj'
    cases hm : ((List.range n5).filter fun k => wss.all (sameB (lawsD xs) k))[j]? with
    | none => rw [hm] at hj; cases hj
    | some m =>
      cases hm' : ((List.range n5).filter fun k => wss.all (sameB (lawsD xs) k))[j + 1]? with
      | none => rw [hm'] at hj'; cases hj'
      | some m' =>
        rw [hm] at hj; rw [hm'] at hj'
        have := idle_sorted _ _ j m m' hm hm'
        obtain rfl : (m : Int) = x := Option.some.inj hj
        obtain rfl : (m' : Int) = y := Option.some.inj hj'
        omega
  have HLK : Hid (L.any (· == (k : Int)) = wss.all (sameB (lawsD xs) k)) := by show _ = _; rw [hL]; exact any_filter (fun k => wss.all (sameB (lawsD xs) k)) n5 k hkn
  clear hL
  go_wp2
  rw [hk]
  clear hk ha0 ha1
  go_loopw [14, 15] (fun vb vi wr => ∃ (d : Bool) (j : Nat), vb = .bool d ∧ vi = .int .i64 j ∧ j ≤ n3 ∧ Hid (d = (L.take j).any (· == (k : Int))) ∧ Below w5.heap.size w5 wr) (fun _ vi _ => n3 - (intOf vi).toNat)
  case atStart => exact ⟨false, 0, rfl, rfl, Nat.zero_le _, rfl, Below.refl _ _⟩
  case round =>
    obtain ⟨d, j, rfl, rfl, hj, hd, hB⟩ := hrel
    have hBs := hB.size
    by_cases hlt : j < n3
    · obtain ⟨b, off, x, hA3, hb, hc, hLx⟩ := (HI5.out.below hB (Nat.le_refl _)).at_ hlt
      obtain ⟨m, rfl, hm⟩ := HLL.out j x hLx
      have hj1 : (j : Int) < (n3 : Int) := by omega
      have e1 : decide ((m : Int) < 0) = false := decide_eq_false (by omega)
      have e2 : decide (n5 ≤ m) = false := decide_eq_false (by omega)
      have HD : Hid ((d || ((m : Int) == (k : Int))) = (L.take (j + 1)).any (· == (k : Int))) := by show _ = _; rw [take_snoc' L j _ hLx, List.any_append, ← hd.out]; simp
      by_cases hj0 : j = 0
      · subst hj0
        have e3 : decide ((0 : Int) < ((0 : Nat) : Int)) = false := by decide
        subst hA3
        rw [Nat.add_zero] at hc
        clear hLx
        go_wp2
        go_quiet (fail)
        have hBn := hB.drewN nq
        cases d
        · clear e1 e2 e3
          go_wp2
          go_roundw
          case rel => exact ⟨_, 0 + 1, rfl, by go_num, by omega, (Bool.false_or _).symm.trans HD.out, hBn⟩
          case measure => simp [intOf]; omega
        · go_wp2
          go_roundw
          case rel => exact ⟨true, 0 + 1, rfl, by go_num, by omega, (Bool.true_or _).symm.trans HD.out, hBn⟩
          case measure => simp [intOf]; omega
      · have e3 : decide (0 < j) = true := decide_eq_true (by omega)
        obtain ⟨y, hLy⟩ : ∃ y, L[j - 1]? = some y := ⟨L[j - 1]'(by have := HI5.out.len; omega), List.getElem?_eq_getElem _⟩
        obtain ⟨m', rfl, hm'⟩ := HLL.out (j - 1) y hLy
        have hmm := HLS.out (j - 1) _ _ hLy (by rw [show j - 1 + 1 = j by omega]; exact hLx)
        obtain ⟨b', off', x', hA3', hb', hc', hLx'⟩ := (HI5.out.below hB (Nat.le_refl _)).at_ (k := j - 1) (by omega)
        obtain ⟨rfl, rfl⟩ : b = b' ∧ off = off' := by have h1 := hA3.symm.trans hA3'; simpa using h1
        obtain rfl : x' = (m' : Int) := Option.some.inj (hLx'.symm.trans hLy)
        have e4 : decide (m ≤ m') = false := decide_eq_false (by omega)
        have w1 : IntKind.i64.wrap ((j : Int) - 1) = (j : Int) - 1 := IntWalk.i64_in _ (by omega)
        have w2 : ((j : Int) - 1).toNat = j - 1 := by omega
        have w3 : (j : Int) - 1 < (n3 : Int) := by omega
        have w4 : (0 : Int) ≤ (j : Int) - 1 := by omega
        have w5 : 1 ≤ j := by omega
        subst hA3
        clear hLx hLy hA3' hLx' hmm hj0
        go_wp2
        go_quiet (fail)
        clear w1 w2 w3 w4 w5 e4
        have hBn := hB.drewN nq
        cases d
        · clear e1 e2 e3
          go_wp2
          go_roundw
          case rel => exact ⟨_, j + 1, rfl, by go_num, by omega, (Bool.false_or _).symm.trans HD.out, hBn⟩
          case measure => simp [intOf]; omega
        · go_wp2
          go_roundw
          case rel => exact ⟨true, j + 1, rfl, by go_num, by omega, (Bool.true_or _).symm.trans HD.out, hBn⟩
          case measure => simp [intOf]; omega
    · obtain rfl : j = n3 := by omega
      have hdd : d = wss.all (sameB (lawsD xs) k) := by
        have h1 := hd.out
        rw [List.take_of_length_le (by rw [HI5.out.len]; exact Nat.le_refl _)] at h1
        exact h1.trans HLK.out
      have HDD := Lib.hid hdd; clear hdd hd
      have hBB := HB5.out.trans (hB.mono HB5.out.size)
      have HBB := Lib.hid hBB; clear hBB
      have hi1 : (0 : Int) ≤ (k : Int) := by omega
      have hi2 : (k : Int) ≤ (c : Int) := by omega
      have hi3 : (k : Int) + 1 ≤ (n5 : Int) := by omega
      have hi4 : (k : Int) + 1 ≤ (c : Int) := by omega
      have hi5 : ((k : Int) + 1).toNat = k + 1 := by omega
      have hi6 : (0 : Int) ≤ (k : Int) + 1 := by omega
      have hi7 : IntKind.i64.wrap ((k : Int) + 1) = (k : Int) + 1 := IntWalk.i64_in _ (by omega)
      go_upto_region 20 with fail
      go_cut [16] from 131 to 140 (fun s16 wx => ∃ (A9 : Option Addr) (n9 c9 : Nat), s16 = .slice A9 n9 c9 ∧ Hid (IsLaws wx A9 n9 c9 (xs.take k ++ xs.drop (k + 1))) ∧ Below wr.heap.size wr wx)
      case first =>
        refine plain_region (fun _ => True) (by kernel_rfl) trivial (fun hHeld => ?_)
        (refine' anyT_take (i := 1) (v := _) rfl (by kernel_rfl) (by kernel_rfl) (by kernel_rfl) (by kernel_rfl) (fun _ _ _ h => h) (Or.inl ⟨by rfl, fun w' hSw => by (try dsimp only at hSw); go_split_ands; go_simp; (try with_reducible rfl)⟩) (by assumption) ?_; (try simp only [Act.put, List.getElem_toArray, List.getElem_cons_zero, List.getElem_cons_succ, List.setIfInBounds_toArray, List.set_cons_zero, List.set_cons_succ])); (refine' anyT_take (i := 2) (v := _) rfl (by kernel_rfl) (by kernel_rfl) (by kernel_rfl) (by kernel_rfl) (fun _ _ _ h => h) (Or.inl ⟨by rfl, fun w' hSw => by (try dsimp only at hSw); go_split_ands; go_simp; (try with_reducible rfl)⟩) (by assumption) ?_; (try simp only [Act.put, List.getElem_toArray, List.getElem_cons_zero, List.getElem_cons_succ, List.setIfInBounds_toArray, List.set_cons_zero, List.set_cons_succ])); (refine' anyT_take (i := 3) (v := _) rfl (by kernel_rfl) (by kernel_rfl) (by kernel_rfl) (by kernel_rfl) (fun _ _ _ h => h) (Or.inl ⟨by rfl, fun w' hSw => by (try dsimp only at hSw); go_split_ands; go_simp; (try with_reducible rfl)⟩) (by assumption) ?_; (try simp only [Act.put, List.getElem_toArray, List.getElem_cons_zero, List.getElem_cons_succ, List.setIfInBounds_toArray, List.set_cons_zero, List.set_cons_succ])); (refine' anyT_take (i := 5) (v := _) rfl (by kernel_rfl) (by kernel_rfl) (by kernel_rfl) (by kernel_rfl) (fun _ _ _ h => h) (Or.inl ⟨by rfl, fun w' hSw => by (try dsimp only at hSw); go_split_ands; go_simp; (try with_reducible rfl)⟩) (by assumption) ?_; (try simp only [Act.put, List.getElem_toArray, List.getElem_cons_zero, List.getElem_cons_succ, List.setIfInBounds_toArray, List.set_cons_zero, List.set_cons_succ])); (refine' anyT_take (i := 6) (v := _) rfl (by kernel_rfl) (by kernel_rfl) (by kernel_rfl) (by kernel_rfl) (fun _ _ _ h => h) (Or.inl ⟨by rfl, fun w' hSw => by (try dsimp only at hSw); go_split_ands; go_simp; (try with_reducible rfl)⟩) (by assumption) ?_; (try simp only [Act.put, List.getElem_toArray, List.getElem_cons_zero, List.getElem_cons_succ, List.setIfInBounds_toArray, List.set_cons_zero, List.set_cons_succ])); (refine' anyT_take (i := 7) (v := _) rfl (by kernel_rfl) (by kernel_rfl) (by kernel_rfl) (by kernel_rfl) (fun _ _ _ h => h) (Or.inl ⟨by rfl, fun w' hSw => by (try dsimp only at hSw); go_split_ands; go_simp; (try with_reducible rfl)⟩) (by assumption) ?_; (try simp only [Act.put, List.getElem_toArray, List.getElem_cons_zero, List.getElem_cons_succ, List.setIfInBounds_toArray, List.set_cons_zero, List.set_cons_succ])); (refine' anyT_take (i := 8) (v := _) rfl (by kernel_rfl) (by kernel_rfl) (by kernel_rfl) (by kernel_rfl) (fun _ _ _ h => h) (Or.inl ⟨by rfl, fun w' hSw => by (try dsimp only at hSw); go_split_ands; go_simp; (try with_reducible rfl)⟩) (by assumption) ?_; (try simp only [Act.put, List.getElem_toArray, List.getElem_cons_zero, List.getElem_cons_succ, List.setIfInBounds_toArray, List.set_cons_zero, List.set_cons_succ]))
        have hD0 : Below wr.heap.size wr wr.drew := (by repeat' (first | exact Below.refl _ _ | assumption | refine Below.alloc ?_ (by first | omega | (simp; done) | (simp; omega)) _ | refine Below.setCell ?_ (by first | omega | (simp; done) | (simp; omega)) _ | refine Below.drew ?_ | refine Below.drewN ?_ _ | refine Below.step (by assumption) (by first | omega | (simp; done) | (simp; omega)) ?_))
        have hZ0 : wr.drew.heap.size ≤ wr.heap.size := Nat.le_refl _
        have hZ1 : wr.heap.size ≤ wr.drew.heap.size := Nat.le_refl _
        generalize wr.drew = W0 at *
        obtain ⟨A8, hA8⟩ : ∃ A8, A8 = if c = k + 1 then A else Option.map (fun x => x.add ((k + 1) * 18)) A := ⟨_, rfl⟩
        rw [← hA8]
        have HT1 : Hid (IsLaws w A k c (xs.take k)) := HX.out.take (by omega)
        have HT2 : Hid (IsLaws w A8 (n5 - (k + 1)) (c - (k + 1)) (xs.drop (k + 1))) := by show IsLaws _ _ _ _ _; rw [hA8]; exact HX.out.drop (by omega)
        clear hA8
        (refine anyT_step (i := 0) (by kernel_rfl) rfl (fun K' hK' => ?_); simp only [List.getElem_toArray, List.getElem_cons_zero, List.getElem_cons_succ]; go_simp)
        refine hK' _ _ ⟨.inr trivial, fun _ => ?_⟩
        clear hK' K'
        (try simp only [Act.put, List.getElem_toArray, List.getElem_cons_zero, List.getElem_cons_succ, List.setIfInBounds_toArray, List.set_cons_zero, List.set_cons_succ])
        have hB1 : Below wr.heap.size wr (W0.alloc (.cells #[] 49)) := hD0.alloc (by omega) _
        have hown := World.ownsRow_made (e := 49) (size := 18) W0 #[] 0 (Nat.le_refl _) (by simp [maxLen]) rfl
        refine anyT_step (i := 4) (by kernel_rfl) rfl (fun K' hK' => ?_)
        rw [if_pos (by rfl)]
        refine wp_append_laws (.tmp 131) (.tmp 134) rfl W0.heap.size _ 0 [] (by rfl) hown A k c (xs.take k) (by rfl) (HT1.out.1.below (HBB.out.trans (hB1.mono HBB.out.size)) (Nat.le_refl _)) (by omega) (by simp) ?_
        intro v1 X1 hown1 hg1 _
        have hX1 : Below wr.heap.size wr X1 := hB1.grown hg1 hB1.size (fun b hb => by have := (hown.lt b hb).1; omega)
        refine hK' _ _ ⟨.inr trivial, fun _ => ?_⟩
        clear hK' K'
        (try simp only [Act.put, List.getElem_toArray, List.getElem_cons_zero, List.getElem_cons_succ, List.setIfInBounds_toArray, List.set_cons_zero, List.set_cons_succ])
        refine anyT_step (i := 9) (by kernel_rfl) rfl (fun K' hK' => ?_)
        rw [if_pos (by rfl)]
        refine wp_append_laws (.tmp 135) (.tmp 139) rfl W0.heap.size _ (0 + k) ([] ++ xs.take k) (by rfl) hown1 A8 (n5 - (k + 1)) (c - (k + 1)) (xs.drop (k + 1)) (by rfl) (HT2.out.1.below (HBB.out.trans (hX1.mono HBB.out.size)) (Nat.le_refl _)) (by omega) (by have := hX1.size; omega) ?_
        intro v2 X2 hown2 hg2 _
        have hX2 : Below wr.heap.size wr X2 := hX1.grown hg2 hX1.size (fun b hb => by have := (hown1.lt b hb).1; omega)
        refine hK' _ _ ⟨.inr trivial, fun _ => ?_⟩
        clear hK' K'
        (try simp only [Act.put, List.getElem_toArray, List.getElem_cons_zero, List.getElem_cons_succ, List.setIfInBounds_toArray, List.set_cons_zero, List.set_cons_succ])
        (refine anyT_step (i := 10) (by kernel_rfl) rfl (fun K' hK' => ?_); simp only [List.getElem_toArray, List.getElem_cons_zero, List.getElem_cons_succ]; go_simp)
        refine hK' _ _ ⟨.inl (by kernel_rfl), fun _ => anyT_done (by kernel_rfl) ?_ _⟩
        clear hK' K'
        obtain ⟨A9, c9, rfl⟩ := own_form hown2
        go_wp2_with fail
        go_meet
        rw [List.nil_append] at hown2
        refine ⟨A9, _, c9, rfl, ⟨Recs.of_own hown2 LawR.len (by decide), fun x hx => ?_⟩, hX2⟩
        rcases List.mem_append.1 hx with h | h
        · exact (HX.out.2 x (List.mem_of_mem_take h)).below (HBB.out.trans (hX2.mono HBB.out.size)) (Nat.le_refl _)
        · exact (HX.out.2 x (List.mem_of_mem_drop h)).below (HBB.out.trans (hX2.mono HBB.out.size)) (Nat.le_refl _)
      case rest =>
        obtain ⟨A9, n9, c9, rfl, hl9, hb9⟩ := hcut
        have hB9 := hB.trans (hb9.mono hBs)
        have HWO : Hid (lawsD (xs.take k ++ xs.drop (k + 1)) = without (lawsD xs) k) := by show _ = _; unfold without; simp [lawsD, List.map_take, List.map_drop]
        clear hi1 hi2 hi3 hi4 hi5 hi6 hi7 HBB hB hb9
        obtain ⟨wv, hwv⟩ : ∃ wv, wv = wc := ⟨_, rfl⟩
        subst hwv
        go_wp2
        go_loopw [17, 18] (fun vb vi wr => ∃ (a : Bool) (i : Nat), vb = .bool a ∧ vi = .int .i64 i ∧ i ≤ n4 ∧ Hid (a = (wss.take i).all (sameB (lawsD xs) k)) ∧ Below wv.heap.size wv wr) (fun _ vi _ => n4 - (intOf vi).toNat)
        case atStart => exact ⟨true, 0, rfl, rfl, Nat.zero_le _, rfl, Below.refl _ _⟩
        case round =>
          obtain ⟨al, i, rfl, rfl, hi, hal, hC⟩ := hrel
          have hCs := hC.size
          have hCC := HB5.out.trans ((hB9.trans (hC.mono hB9.size)).mono HB5.out.size)
          have hC5 := hB9.trans (hC.mono hB9.size)
          by_cases hlt : i < n4
          · obtain ⟨b, off, Aw, nw, cw, ws, rfl, hb, hcw, hwk, hws⟩ := (HW.out.below hCC (Nat.le_refl _)).at_ hlt
            have HWK := Lib.hid hwk; clear hwk
            have hi1 : (i : Int) < (n4 : Int) := by omega
            obtain ⟨s, hs⟩ : ∃ s, ss[i]? = some s := ⟨ss[i]'(by rw [HP5.out.1.2]; exact hlt), List.getElem?_eq_getElem _⟩
            have hsd : s.data = (ws, (endM (lawsD xs) ws).2) := by
              have h1 := congrArg (fun l => l[i]?) HSS.out
              simp only [List.getElem?_map, hs, HWK.out, Option.map_some] at h1
              exact Option.some.inj h1
            obtain ⟨bp, op, hA4, hbp, hcp, hcq⟩ := HP5.out.at_ hs
            have hwpq := HP5.out.2 _ (List.mem_of_getElem? hs)
            clear hs hcp
            obtain ⟨⟨Ap, np, cp, x⟩, ⟨Aq, nq, cq, y⟩⟩ := s
            have hsd2 : y = (endM (lawsD xs) ws).2 := congrArg Prod.snd hsd
            have HS : Hid (sameB (lawsD xs) k ws = ((deriveM (without (lawsD xs) k) ws).1 == 0 && decide ((deriveM (without (lawsD xs) k) ws).2 = y))) := by show _ = _; rw [hsd2]; rfl
            have HAL : Hid ((wss.take (i + 1)).all (sameB (lawsD xs) k) = (al && sameB (lawsD xs) k ws)) := by show _ = _; rw [take_snoc' wss i _ HWK.out, List.all_append, ← hal.out]; simp
            clear hsd hsd2
            have hwq := hwpq.2
            clear hwpq
            dsimp only at hwq
            have HWQ := Lib.hid (hwq.below hC5 (Nat.le_refl _)); clear hwq
            have hcq' : wr.cell? ⟨bp, op + i * 2 + 1, none⟩ = some (.slice Aq nq cq) := (hC5.cell (p := ⟨bp, op + i * 2 + 1, none⟩) hbp).trans hcq
            have hbp' : bp < wr.heap.size := Nat.lt_of_lt_of_le hbp hC5.size
            have HCQ := Lib.hid hcq'; clear hcq hcq' hbp
            subst hA4
            go_wp2_with fail
            refine (derive_c A9 n9 c9 (xs.take k ++ xs.drop (k + 1)) Aw nw cw ws wr (hl9.out.below hC (Nat.le_refl _)) hws (HT.out.below hCC (Nat.le_refl _))).mono ?_
            rw [HWO.out]
            obtain ⟨er, z, hdz⟩ : ∃ er z, deriveM (without (lawsD xs) k) ws = (er, z) := ⟨_, _, rfl⟩
            rw [hdz]
            have HS' : Hid (sameB (lawsD xs) k ws = (er == 0 && decide (z = y))) := by show _ = _; rw [HS.out, hdz]
            clear HS hdz
            rintro e X6 ⟨A6, n6, c6, rfl, hw6, hb6, _⟩
            have HW6 := Lib.hid hw6; clear hw6
            have hC6 := hC.trans (hb6.mono hCs)
            have hcq6 := (hb6.cell (p := ⟨bp, op + i * 2 + 1, none⟩) hbp').trans HCQ.out
            have HWQ6 := Lib.hid (HWQ.out.below hb6 (Nat.le_refl _)); clear HWQ
            clear hb6 hcw
            cases al
            · go_wp2
              go_roundw
              case rel => exact ⟨false, i + 1, rfl, by go_num, by omega, (HAL.out.trans (Bool.false_and _)).symm, hC6⟩
              case measure => simp [intOf]; omega
            by_cases her : er = 0
            · subst her
              go_wp2_with fail
              refine (wEqual_c A6 Aq n6 nq c6 cq z y X6 HW6.out HWQ6.out).mono ?_
              rintro e X7 ⟨rfl, hb7⟩
              have hC7 := hC6.trans (hb7.mono hC6.size)
              have HZ : Hid (decide (z = y) = sameB (lawsD xs) k ws) := by show _ = _; rw [HS'.out]; simp
              rw [HZ.out]
              clear hb7 hcq6
              go_wp2
              go_roundw
              case rel => exact ⟨_, i + 1, rfl, by go_num, by omega, (HAL.out.trans (Bool.true_and _)).symm, hC7⟩
              case measure => simp [intOf]; omega
            · have he : (er == 0) = false := by simpa using her
              have HZ : Hid (sameB (lawsD xs) k ws = false) := by show _ = _; rw [HS'.out, he]; rfl
              clear her
              go_wp2
              go_roundw
              case rel => exact ⟨false, i + 1, rfl, by go_num, by omega, by show _ = _; rw [HAL.out, HZ.out]; rfl, hC6⟩
              case measure => simp [intOf]; omega
          · obtain rfl : i = n4 := by omega
            have hfin : al = d := by
              have h1 := hal.out
              rw [List.take_of_length_le (by rw [HW.out.len]; exact Nat.le_refl _)] at h1
              exact h1.trans HDD.out.symm
            subst hfin
            obtain ⟨bu, ou, x, hA5, hbu, hcu, hux⟩ := (HU5.out.below hC5 (Nat.le_refl _)).at_ hkn
            have hui : 0 < x ∨ al = true := by
              by_cases h0 : 0 < x
              · exact .inl h0
              · refine .inr (HDD.out.trans (unused_idle (x := x) (by rw [HLN.out]; exact hkn) HL0.out HALL.out ?_ h0))
                rw [HLN.out]; exact hux
            have hk1 : (k : Int) < (n5 : Int) := by omega
            have HCC := Lib.hid hCC
            subst hA5
            clear hux hCC
            by_cases hx : 0 < x
            · have hx1 : decide (0 < x) = true := decide_eq_true hx
              clear hui
              cases al
              · go_wp2_with fail
                refine (works_c _ (HT.out.below HCC.out (Nat.le_refl _))).mono ?_
                rintro e w9 ⟨rfl, hbw⟩
                go_wp2
                go_ret
                exact ⟨rfl, Below.trans HCC.out (hbw.mono (Below.size HCC.out))⟩
              · go_wp2_with fail
                refine (works_c _ (HT.out.below HCC.out (Nat.le_refl _))).mono ?_
                rintro e w9 ⟨rfl, hbw⟩
                go_wp2
                go_ret
                exact ⟨rfl, Below.trans HCC.out (hbw.mono (Below.size HCC.out))⟩
            · have hx1 : decide (0 < x) = false := decide_eq_false hx
              obtain rfl : al = true := hui.resolve_left hx
              clear hui
              go_wp2_with fail
              refine (works_c _ (HT.out.below HCC.out (Nat.le_refl _))).mono ?_
              rintro e w9 ⟨rfl, hbw⟩
              go_wp2
              go_ret
              exact ⟨rfl, Below.trans HCC.out (hbw.mono (Below.size HCC.out))⟩
end Go.Proofs.YtfgilinjaldhhaaGreatDoor
