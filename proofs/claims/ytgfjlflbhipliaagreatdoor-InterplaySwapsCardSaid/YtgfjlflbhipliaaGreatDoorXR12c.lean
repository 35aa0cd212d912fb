/-
  ablautref12.Swaps.
-/
import Derived.Test.YtgfjlflbhipliaaGreatDoorXR12b
import Derived.Test.YtgfjlflbhipliaaGreatDoorXSwp12
set_option linter.unusedVariables false
set_option linter.unusedSimpArgs false
set_option maxRecDepth 100000
set_option maxHeartbeats 4000000
namespace Go.Proofs.YtgfjlflbhipliaaGreatDoor
open Go.RowKit Go.Shelf
theorem r12Swaps_c (A : Option Addr) (n c : Nat) (xs : List LawR) (A' : Option Addr) (n' c' : Nat) (wss : List (List Snd)) (w : World) (hx : IsLaws w A n c xs) (hw : IsWords w A' n' c' wss) (hu : LawsU xs) (hwu : ∀ x ∈ wss, WordU x) :
  Calls Tryz.prog 36 #[.slice A n c, .slice A' n' c'] w (RetPl w (swapsM (lawsD xs) wss)) := by
 have hmx := hx.max
 have hmw := hw.max
 have HX := hI hx; clear hx
 have HW := hI hw; clear hw
 have HU := hI hu; clear hu
 have HWU := hI hwu; clear hwu
 have HLN : Hid ((lawsD xs).length = n) := by show (lawsD xs).length = n; rw [lawsD, List.length_map]; exact HX.out.len
 obtain ⟨er, her⟩ : ∃ er, er = chkM (lawsD xs) wss := ⟨_, rfl⟩
 have HER := hI her
 go_enter Tryz.func36, Tryz.ntmps36
 go_wp2_with fail
 refine (r12check_c A n c xs A' n' c' wss w HX.out HW.out HU.out HWU.out).mono ?_
 rintro e w1 ⟨rfl, hB1⟩
 rw [← her]
 clear her
 have HB1 := hI hB1; clear hB1
 by_cases h0 : er = 0
 case neg =>
  have h1 : (er != 0) = true := by simpa using h0
  have HM : Hid (swapsM (lawsD xs) wss = (er, [])) := by show _ = _; unfold swapsM; rw [← HER.out, if_pos h0]
  clear h0
  go_wp2
  go_ret2
  exact RetPl.bad HM.out HB1.out
 have h1 : (er != 0) = false := by simpa using h0
 have hc0 : chkM (lawsD xs) wss = 0 := by rw [← HER.out]; exact h0
 have hn64 : n ≤ 64 := by have h := lawsE_len (chk_laws hc0); rw [HLN.out] at h; exact h
 have HM : Hid (swapsM (lawsD xs) wss = swapsGo (lawsD xs) wss (n - 1) 0 []) := by show _ = _; unfold swapsM; rw [if_neg (by rw [hc0]; decide), HLN.out]
 clear hc0 h0
 have hb1s := HB1.out.size
 obtain ⟨m, hm⟩ : ∃ m : Nat, m = n - 1 := ⟨_, rfl⟩
 have hmax : max (0 : Int) (IntKind.i64.wrap ((n : Int) - 1)) = (m : Int) := by rw [IntWalk.i64_in _ (by omega)]; omega
 have hmax' : max (0 : Int) ((n : Int) - 1) = (m : Int) := by omega
 have hwn : IntKind.i64.wrap ((n : Int) - 1) = (n : Int) - 1 := IntWalk.i64_in _ (by omega)
 rw [← hm] at HM
 have hmn : m ≤ n := by omega
 have HMN : Hid (m = n - 1) := hm
 clear hm
 go_wp2_with fail
 go_loopw [7, 8] (fun v i wr => ∃ (k : Nat) (dn : List Nat), i = .int .i64 k ∧ k ≤ m ∧ dn.length ≤ k ∧ Hid (wr.ownsRow w1.heap.size 3 1 v dn.length (ints dn)) ∧ Hid (swapsM (lawsD xs) wss = swapsGo (lawsD xs) wss (m - k) k dn) ∧ Below w1.heap.size w1 wr) (fun _ i _ => m - (intOf i).toNat)
 case atStart => exact ⟨0, [], rfl, Nat.zero_le _, rr, World.ownsRow_nil _ _ _ _, HM.out, Below.refl _ _⟩
 case round =>
  obtain ⟨k, dn, rfl, hk, hdl, hown, hgo, hB⟩ := hrel
  have hBs := hB.size
  by_cases hlt : k < m
  ·have hk1 : (k : Int) < (m : Int) := by omega
   have HBW := hI (HB1.out.trans (hB.mono HB1.out.size))
   go_wp2_with fail
   refine (r12Matters_c A n c xs k A' n' c' wss wr (HX.out.below HBW.out rr) (HW.out.below HBW.out rr) HU.out HWU.out).mono ?_
   obtain ⟨r, hr⟩ : ∃ r, r = matM (lawsD xs) k wss := ⟨_, rfl⟩
   rw [← hr]
   rintro e w5 ⟨rfl, hb⟩
   have hB5 := hB.trans (hb.mono hBs)
   have HOWN : Hid (w5.ownsRow w1.heap.size 3 1 u7 dn.length (ints dn)) := own_heap hown.out fun b e => hb.block b (hown.out.lt b e).2
   clear hb
   by_cases h4 : r.2.2 = 0
   case neg =>
    have h5 : (r.2.2 != 0) = true := by simpa using h4
    have HM' : Hid (swapsM (lawsD xs) wss = (r.2.2, [])) := by show _ = _; rw [hgo.out, swapsGo_bad hlt (by rw [← hr]; exact h4), ← hr]
    clear h4 hr
    go_wp2
    go_ret2
    exact RetPl.bad HM'.out (HB1.out.trans (hB5.mono HB1.out.size))
   have h5 : (r.2.2 != 0) = false := by simpa using h4
   have hgn := hgo.out.trans (swapsGo_next hlt (by rw [← hr]; exact h4))
   rw [← hr] at hgn
   clear h4 hr
   obtain ⟨d, hd⟩ : ∃ d, d = r.2.1 := ⟨_, rfl⟩
   rw [← hd] at hgn ⊢
   clear hd
   have HGN := hI hgn; clear hgn
   have hdl64 : dn.length ≤ 64 := by omega
   have hz5 := hB5.size
   cases d
   ·have HGF : Hid (swapsM (lawsD xs) wss = swapsGo (lawsD xs) wss (m - (k + 1)) (k + 1) dn) := HGN.out
    go_wp2
    go_roundw
    case rel => exact ⟨k + 1, dn, by go_num, by omega, by omega, HOWN.out, HGF.out, hB5⟩
    case measure => simp [intOf]; omega
   ·have HGF : Hid (swapsM (lawsD xs) wss = swapsGo (lawsD xs) wss (m - (k + 1)) (k + 1) (dn ++ [k])) := HGN.out
    obtain ⟨A8, c8, hv8⟩ := own_form HOWN.out
    subst hv8
    go_wp2_with (at_builtin; refine append_int rfl (.tmp 37) (.tmp 39) rfl w1.heap.size (.slice A8 dn.length c8) dn.length (ints dn) rfl ?ho ⟨w5.heap.size, 0, none⟩ 1 (.int .i64 k) rfl (cell_one_new _ _ _) rfl ?hl ?hz ?hc)
    case ho => exact HOWN.out.alloc _
    case hl => omega
    case hz => first | omega | (simp; omega)
    case hc =>
     intro v' w9 hown9 hg9 _
     have HOWN9 : Hid (w9.ownsRow w1.heap.size 3 1 v' (dn ++ [k]).length (ints (dn ++ [k]))) := by show World.ownsRow _ _ _ _ _ _ _; simpa [ints] using hown9
     have hB9 : Below w1.heap.size w1 w9 := own_below (hB5.alloc hB5.size _) (HOWN.out.alloc _) hg9 rr (by simp; omega)
     clear hown9 hg9
     go_wp2
     go_roundw
     case rel => exact ⟨k + 1, dn ++ [k], by go_num, by omega, by rw [List.length_append, List.length_singleton]; omega, HOWN9, HGF.out, hB9⟩
     case measure => simp [intOf]; omega
  ·obtain rfl : k = m := by omega
   have hk1 : ¬ ((k : Int) < (n : Int) - 1) := by have := HMN.out; omega
   have HM' : Hid (swapsM (lawsD xs) wss = (0, dn)) := by show _ = _; rw [hgo.out, Nat.sub_self]; rfl
   obtain ⟨A9, c9, hv9⟩ := own_form hown.out
   subst hv9
   go_wp2
   go_ret2
   refine ⟨A9, _, c9, by rw [HM'.out]; rfl, ?_, HB1.out.trans (hB.mono HB1.out.size)⟩
   rw [HM'.out]
   have := Cells.of_own hown.out (by decide)
   show Cells _ _ _ _ _ (List.map _ _)
   rw [List.map_map]
   exact this
end Go.Proofs.YtgfjlflbhipliaaGreatDoor
