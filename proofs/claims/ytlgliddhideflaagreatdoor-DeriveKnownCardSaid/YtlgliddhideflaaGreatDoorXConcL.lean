/-
  slices.Concat over laws.
-/
import Derived.Test.YtlgliddhideflaaGreatDoorG34
set_option linter.all false
set_option maxRecDepth 100000
set_option maxHeartbeats 4000000
namespace Go.Proofs.YtlgliddhideflaaGreatDoor
open Go.RowKit Go.Shelf
theorem append_make_law (n : Nat) (h0 : 0 < n) (hb : n ≤ 4096) (ty : TypeId) (w : World) : ∃ cap cur, n ≤ cap ∧ cap ≤ maxLen ∧ cur.size = cap * 18 ∧
  (Builtin.append_ #[35, 3] ty #[.slice none 0 0, .int .i64 (n : Int)]).run Tryz.prog w = .ok (.slice (some ⟨w.heap.size, 0, none⟩) n cap) (w.drew.alloc (.cells cur 34)) := by
 obtain ⟨i0, hi, hz0, hz1, hz2⟩ := info_parts law_info
 have hge := grownCap_ge w n 0 34
 refine ⟨_, _, hge, grownCap_le_maxLen w n 0 34 (by unfold maxLen; omega), ?_, run_append_make_nil w 35 3 ty 34 i0 _ Tryz.underlying35 Tryz.underlying3 hi hz0 n h0 (by rw [hz2]; omega) (by omega) (by omega)⟩
 simp only [Array.size_append, size_zeroCells]
 rw [lawZ_size]
 omega
theorem appendMake_law {ops : Array Oper} {rest : List Oper} {o : Oper} {a : Act} {w : World} {Q : Exit → Act → World → Prop} (hgd : o.guard = none) (s x : Operand)
  (ho : o.op = .call { callee := .builtin .append, args := #[s, x], argTypes := #[35, 3] })
  (n : Nat) (hs : a.eval s = .slice none 0 0) (hx : a.eval x = .int .i64 (n : Int)) (h0 : 0 < n) (hb : n ≤ 4096)
  (h : ∀ cap cur, n ≤ cap → Hid (cap ≤ maxLen) → Hid (cur.size = cap * 18) → wpList Tryz.prog ops Q rest (a.put o.dst (.slice (some ⟨w.heap.size, 0, none⟩) n cap)) (w.drew.alloc (.cells cur 34))) :
  wpList Tryz.prog ops Q (o :: rest) a w := by
 obtain ⟨cap, cur, h1, h2, h3, hrun⟩ := append_make_law n h0 hb o.type w
 refine wpList_plain hgd fun _ hK => ?_
 unfold Oper.wp execOp
 simp only [ho, resolve, invoke, builtin, Sem.run_bind, Sem.run_pure, Result.andThen_ok, List.map_toArray, List.map_cons, List.map_nil, hs, hx, hrun]
 exact hK _ _ (h cap cur h1 h2 h3)
theorem growLaw_c (n : Nat) (w : World) (hb : n ≤ 4096) :
  Calls Tryz.prog 148 #[.slice none 0 0, .int .i64 n] w fun e w' => ∃ v, e = .returned v ∧ w'.ownsRow w.heap.size 34 18 v 0 [] ∧ Below w.heap.size w w' := by
 by_cases h0 : 0 < n
 ·go_enter Tryz.func148, Tryz.ntmps148
  go_wp2_with (at_builtin; refine appendMake_law rfl (.tmp 20) (.tmp 21) rfl n rfl rfl h0 hb ?_; intro cap cur h1 H2 H3)
  go_ret
  exact ⟨_, rfl, World.ownsRow_made w.drew cur cap rr H2.out H3.out, bel⟩
 ·obtain rfl : n = 0 := by omega
  go_enter Tryz.func148, Tryz.ntmps148
  go_wp2
  go_ret
  exact ⟨_, rfl, World.ownsRow_nil _ _ _ _, Below.refl _ _⟩
abbrev PartL := Option Addr × Nat × Nat × List LawR
def PartL.val (p : PartL) : Value := .slice p.1 p.2.1 p.2.2.1
def PartL.laws (p : PartL) : List LawR := p.2.2.2
def PartsL (w : World) (ps : List PartL) : Prop := ∀ p ∈ ps, IsLaws w p.1 p.2.1 p.2.2.1 p.2.2.2
def catL (ps : List PartL) : List LawR := ps.flatMap PartL.laws
theorem catL_snoc (ps : List PartL) (p : PartL) : catL (ps ++ [p]) = catL ps ++ p.laws := by simp [catL]
theorem catL_take (ps : List PartL) (k : Nat) : (catL (ps.take k)).length ≤ (catL ps).length := by
 conv => rhs; rw [← List.take_append_drop k ps]
 unfold catL
 rw [List.flatMap_append, List.length_append]
 omega
theorem concatLaw_c (A : Option Addr) (n c : Nat) (ps : List PartL) (w : World) (hx : Cells w A n c 1 (ps.map PartL.val)) (hp : PartsL w ps) (hb : (catL ps).length ≤ 4096) :
  Calls Tryz.prog 79 #[.slice A n c] w (RetLaws w (catL ps)) := by
 have HX := hI hx; clear hx
 have HP := hI hp; clear hp
 have hlen : ps.length = n := by have := HX.out.1; simpa using this
 have HL := hI hlen; clear hlen
 have hm : n ≤ 9223372036854775807 := by have h1 := HX.out.2.1; have h2 := HX.out.2.2.1; unfold maxLen at h2; omega
 have HB := hI hb; clear hb
 have HLA : Hid (∀ x ∈ catL ps, LawAt w x.l x.a) := by
  show ∀ x ∈ catL ps, LawAt w x.l x.a
  intro x hx
  obtain ⟨p, hp, hx⟩ := List.mem_flatMap.1 hx
  exact (HP.out p hp).2 x hx
 go_enter Tryz.func79, Tryz.ntmps79
 go_wp2
 go_loop [3, 5, 11] (fun s _ i => ∃ k m : Nat, k ≤ n ∧ i = .int .i64 k ∧ s = .int .i64 m ∧ Hid (m = (catL (ps.take k)).length)) (fun _ _ i => n - (intOf i).toNat)
 case atStart => exact ⟨0, 0, Nat.zero_le _, rfl, rfl, by simp [catL, Hid]⟩
 case round =>
  obtain ⟨k, m, hk, rfl, rfl, hm2⟩ := hrel
  have hmb : m ≤ 4096 := by have h1 := hm2.out; have h2 := catL_take ps k; have h3 := HB.out; omega
  by_cases hlt : k < n
  ·obtain ⟨b, off, v, rfl, hblt, hv, hc0⟩ := HX.out.at1 hlt
   have hpk : ∃ p, ps[k]? = some p ∧ v = p.val := by
    rw [List.getElem?_map] at hv
    cases hq : ps[k]? with
    | none => rw [hq] at hv; cases hv
    | some p => rw [hq] at hv; exact ⟨p, rfl, by simpa using hv.symm⟩
   clear hv
   obtain ⟨⟨A', n', c', xs⟩, hpk, rfl⟩ := hpk
   have HK := hI hpk; clear hpk
   have hw := HP.out _ (List.mem_of_getElem? HK.out)
   have hs := take_snoc' ps k _ HK.out
   have hcat : (catL (ps.take (k + 1))).length = m + n' := by
    rw [hs, catL_snoc, List.length_append, ← hm2.out]
    have : xs.length = n' := IsLaws.len hw
    simp only [PartL.laws]
    omega
   have hnb : m + n' ≤ 4096 := by have h2 := catL_take ps (k + 1); have h3 := HB.out; omega
   have HC := hI hcat; clear hcat hs hw
   simp only [PartL.val] at hc0
   go_wp2
   go_round
   case rel => exact ⟨k + 1, m + n', by omega, by go_num, by go_num, HC.out.symm⟩
   case measure => simp [intOf]; omega
  ·obtain rfl : k = n := by omega
   have hmt : m = (catL ps).length := by have := hm2.out; rwa [List.take_of_length_le (by rw [HL.out]; exact rr)] at this
   have HM := hI hmt; clear hmt
   go_wp2_with (go_at_call 148; refine (growLaw_c _ _ hmb).mono ?_; rintro e w1 ⟨v, rfl, hown, hbl⟩)
   go_loopw [6, 8, 27] (fun v _ i wr => ∃ j q : Nat, j ≤ k ∧ i = .int .i64 j ∧ Hid (wr.ownsRow w.heap.size 34 18 v q ((catL (ps.take j)).flatMap LawR.cells)) ∧ q ≤ 4096 ∧ Hid (q = (catL (ps.take j)).length) ∧ Below w.heap.size w wr) (fun _ _ i _ => k - (intOf i).toNat)
   case atStart => exact ⟨0, 0, Nat.zero_le _, rfl, by show World.ownsRow _ _ _ _ _ _ _; simpa [catL] using hown, by omega, by simp [catL, Hid], hbl⟩
   case round =>
    obtain ⟨j, q, hj, rfl, hown, hq, hql, hB⟩ := hrel
    by_cases hlt : j < k
    ·obtain ⟨b, off, v, rfl, hblt, hv, hc0⟩ := HX.out.at1 hlt
     have hpk : ∃ p, ps[j]? = some p ∧ v = p.val := by
      rw [List.getElem?_map] at hv
      cases hq : ps[j]? with
      | none => rw [hq] at hv; cases hv
      | some p => rw [hq] at hv; exact ⟨p, rfl, by simpa using hv.symm⟩
     clear hv
     obtain ⟨⟨A', n', c', xs⟩, hpk, rfl⟩ := hpk
     have HK := hI hpk; clear hpk
     have hw : IsLaws w A' n' c' xs := HP.out _ (List.mem_of_getElem? HK.out)
     have hs := take_snoc' ps j _ HK.out
     have hcat : (catL (ps.take (j + 1))).length = q + n' := by
      rw [hs, catL_snoc, List.length_append, ← hql.out]
      have : xs.length = n' := IsLaws.len hw
      simp only [PartL.laws]
      omega
     have hnb : q + n' ≤ 4096 := by have h2 := catL_take ps (j + 1); have h3 := HB.out; omega
     have HC := hI hcat; clear hcat
     have HS := hI hs; clear hs
     have hwr := hw.below hB rr
     have hc0' : wr.cell? ⟨b, off + j, none⟩ = some (.slice A' n' c') := (hB.cell (p := ⟨b, off + j, none⟩) hblt).trans hc0
     have HW := hI hwr; clear hwr hw hc0
     go_wp2_with (at_builtin; refine append_laws rfl (.tmp 31) (.tmp 32) rfl w.heap.size _ q (catL (ps.take j)) rfl hown.out A' n' c' xs rfl HW.out.1 hnb hB.size ?_; intro v1 w1 hown1 hg1 _)
     go_roundw
     case rel =>
      refine ⟨j + 1, q + n', by omega, by go_num, ?_, hnb, HC.out.symm, own_below hB hown.out hg1 rr hB.size⟩
      rw [HS.out, catL_snoc]
      exact hown1
     case measure => simp [intOf]; omega
    ·obtain rfl : k = j := by omega
     go_wp2
     go_ret
     have h2 : ps.take k = ps := List.take_of_length_le (by rw [HL.out]; exact rr)
     have hown' := hown.out
     rw [h2] at hown'
     exact RetLaws.of_own rfl hown' (fun x hx => (HLA.out x hx).below hB rr) hB rr
end Go.Proofs.YtlgliddhideflaaGreatDoor
