/-
  The parts of compiled patterns that have nothing below them: sounds and edges.
  The parts of compiled patterns that have others below them.
  An alternative of compiled patterns.
  A repetition of compiled patterns.
  Compiled patterns in memory, and what their method returns.
-/
import Derived.Test.YtaglfmlgbcmakaaGreatDoorG03
set_option linter.all false
set_option maxRecDepth 100000
set_option maxHeartbeats 4000000
namespace Go.Proofs.YtaglfmlgbcmakaaGreatDoor
open Go.RowKit
def RetRel (w : World) (r : List Nat) (e : Ending) (w' : World) : Prop := e = .returned (.agg (rarr r)) ∧ Below w.heap.size w w'
def hitS (p m : Int) (neg : Bool) (s : Snd) : Bool := (bits .or .u32 (bits .andNot .u32 p s.1) (bits .andNot .u32 m s.2) == 0) != neg
def sndTo (p m : Int) (neg : Bool) (ws : List Snd) (j : Nat) : List Nat :=
 (List.range 33).map fun k => if k < j then (match ws[k]? with | some s => if hitS p m neg s then 2 ^ (k + 1) else 0 | none => 0) else 0
def sndR (p m : Int) (neg : Bool) (ws : List Snd) : List Nat := sndTo p m neg ws 33
theorem sndTo_zero (p m : Int) (neg : Bool) (ws : List Snd) : sndTo p m neg ws 0 = zeroR := by
 have h : sndTo p m neg ws 0 = (List.range 33).map fun _ => 0 := List.map_congr_left fun j _ => by rw [if_neg (by omega)]
 rw [h]; rfl
theorem sndTo_all (p m : Int) (neg : Bool) (ws : List Snd) : sndTo p m neg ws ws.length = sndR p m neg ws := by
 unfold sndR sndTo
 refine List.map_congr_left fun j hj => ?_
 have hj := List.mem_range.1 hj
 by_cases h : j < ws.length
 ·rw [if_pos h, if_pos hj]
 ·rw [if_neg h, if_pos hj, List.getElem?_eq_none (by omega)]
theorem sndTo_step (p m : Int) (neg : Bool) (ws : List Snd) (k : Nat) (s : Snd) (hs : ws[k]? = some s) (hk : k < 33) :
  sndTo p m neg ws (k + 1) = if hitS p m neg s then (sndTo p m neg ws k).set k (2 ^ (k + 1)) else sndTo p m neg ws k := by
 split
 ·rename_i h
  refine (range_set _ _ _ _ _ ?_ ?_).symm
  ·rw [if_pos (by omega), hs]; simp [h]
  ·intro j hj
   by_cases h3 : j < k
   ·rw [if_pos h3, if_pos (by omega)]
   ·rw [if_neg h3, if_neg (by omega)]
 ·rename_i h
  unfold sndTo
  refine List.map_congr_left fun j _ => ?_
  by_cases e : j = k
  ·subst e; rw [if_pos (by omega), if_neg (by omega), hs]; simp [h]
  ·by_cases h3 : j < k
   ·rw [if_pos h3, if_pos (by omega)]
   ·rw [if_neg h3, if_neg (by omega)]
theorem sound_c (p m : Int) (neg : Bool) (A : Option Addr) (n c : Nat) (ws : List Snd) (w : World) (hw : IsWord w A n c ws) (hn : n ≤ 32) :
  Calls Tryz.prog 261 #[.agg #[.int .u32 p, .int .u32 m, .bool neg], .slice A n c] w (RetRel w (sndR p m neg ws)) := by
 have HW := hI hw; clear hw
 go_enter Tryz.func261, Tryz.ntmps261
 go_wp2
 go_loopw [5, 6, 9] (fun _ _ i wr => ∃ k : Nat, k ≤ n ∧ i = .int .i64 k ∧ Hid (wr.heap[w.heap.size]? = some (.cells #[.int .u32 p, .int .u32 m, .bool neg] 279 (0, 0))) ∧
  Hid (RelAt wr (w.heap.size + 1) (sndTo p m neg ws k)) ∧ Below w.heap.size w wr) (fun _ _ i _ => n - (intOf i).toNat)
 case atStart => exact ⟨0, Nat.zero_le _, rfl, hpt, by rw [sndTo_zero]; exact ⟨hpt, rfl⟩, bel⟩
 case round =>
  obtain ⟨k, hk, rfl, hb, hr, hB⟩ := hrel
  have hBs := hB.size
  have hrl := hr.out.lt
  by_cases hlt : k < n
  ·obtain ⟨b, off, sp, sm, rfl, hbl, hxk, hc0, hc1⟩ := (HW.out.below hB rr).at_ hlt
   have HK := hI hxk; clear hxk
   have d0 := cell_of_row wr w.heap.size 0 _ _ _ hb.out
   have d1 := cell_of_row wr w.heap.size 1 _ _ _ hb.out
   have d2 := cell_of_row wr w.heap.size 2 _ _ _ hb.out
   simp only [List.getElem?_toArray, List.getElem?_cons_zero, List.getElem?_cons_succ] at d0 d1 d2
   have hs33 : ((k : Nat) : Int) < 33 := by omega
   have hf := hr.out.frozen k
   have hc := hr.out.get (k := k) (s := 0) (by unfold sndTo; rw [List.getElem?_map, List.getElem?_range (by omega)]; simp)
   have hbw : w.heap.size < wr.heap.size := by omega
   have hbw1 : w.heap.size + 1 < wr.heap.size := hrl
   by_cases hh : ((bits .or .u32 (bits .andNot .u32 p sp) (bits .andNot .u32 m sm) == 0) != neg) = true
   ·have hst := sndTo_step p m neg ws k (sp, sm) HK.out (by omega)
    rw [if_pos (show hitS p m neg (sp, sm) = true from hh)] at hst
    have HST := hI hst; clear hst
    have HSL := hI (shl_one' (k + 1) (by omega))
    have hh2 : (!(bits .or .u32 (bits .andNot .u32 p sp) (bits .andNot .u32 m sm) == 0) == neg) = true := by cases neg <;> simpa using hh
    clear hh
    go_wp2
    go_roundw
    case rel =>
     refine ⟨k + 1, by omega, by go_num, ?_, ?_, bel⟩
     ·exact (Below.heap_alloc _ _ _ (by simp; omega)).trans ((Below.heap_setCell _ _ _ _ (by simp)).trans hb.out)
     ·have h1 := (hr.out.set (k := k) (s := 2 ^ (k + 1))).alloc (.cells #[.int .u32 sp, .int .u32 sm] 49)
      rw [HST.out, HSL.out]; exact h1
    case measure => simp [intOf]; omega
   ·have hh' : ((bits .or .u32 (bits .andNot .u32 p sp) (bits .andNot .u32 m sm) == 0) != neg) = false := by simpa using hh
    have hst := sndTo_step p m neg ws k (sp, sm) HK.out (by omega)
    rw [if_neg (show ¬ hitS p m neg (sp, sm) = true from hh)] at hst
    have HST := hI hst; clear hst hh
    have hh2 : (!(bits .or .u32 (bits .andNot .u32 p sp) (bits .andNot .u32 m sm) == 0) == neg) = false := by cases neg <;> simpa using hh'
    clear hh'
    go_wp2
    go_roundw
    case rel =>
     refine ⟨k + 1, by omega, by go_num, ?_, ?_, bel⟩
     ·exact (Below.heap_alloc _ _ _ (by omega)).trans hb.out
     ·have h1 := hr.out.alloc (.cells #[.int .u32 sp, .int .u32 sm] 49)
      rw [HST.out]; exact h1
    case measure => simp [intOf]; omega
  ·obtain rfl : k = n := by omega
   have hall : sndTo p m neg ws k = sndR p m neg ws := by rw [← HW.out.len]; exact sndTo_all p m neg ws
   have HA := hI hall; clear hall
   go_wp2_with (first
    | (refine load_rel rfl (.tmp 4) rfl (w.heap.size + 1) _ rfl hr.out ?_)
    | (refine store_rel rfl (.tmp 4) (.tmp 37) rfl (w.heap.size + 1) _ _ rfl rfl hr.out hr.out.2 ?_; intro w1 hr1 hk1 hs1))
   exact bodyPost_ret (results_rel Tryz.results261 _ _ (w.heap.size + 1) _ rfl hr1) rfl ⟨by rw [HA.out], keep_below hB hk1 (by omega) hB.size⟩
def edgeR (a : Nat) : List Nat := zeroR.set a (2 ^ a)
theorem edgeR_len (a : Nat) : (edgeR a).length = 33 := by unfold edgeR; rw [List.length_set]; rfl
theorem edgeR_arr (a : Nat) (ha : a ≤ 32) : rarr (edgeR a) = ((zeroR.map fun (s : Nat) => Value.int .u64 (s : Int)).set a (.int .u64 (IntKind.u64.wrap (2 ^ a)))).toArray := by
 unfold rarr edgeR; rw [List.map_set, shl_one' a (by omega)]
theorem edge_c (e : Bool) (A : Option Addr) (n c : Nat) (w : World) (hn : n ≤ 32) :
  Calls Tryz.prog 262 #[.agg #[.bool e], .slice A n c] w (RetRel w (edgeR (if e then n else 0))) := by
 cases e
 ·go_enter Tryz.func262, Tryz.ntmps262
  go_wp2_with (first
    | (refine load_rel rfl (.tmp 4) rfl _ (edgeR 0) rfl ?hr ?_)
    | (refine store_rel rfl (.tmp 4) (.tmp 14) rfl _ (edgeR 0) (edgeR 0) rfl rfl ?hs rfl ?hc))
  case hr => exact ⟨hpt, rfl⟩
  case hs => exact ⟨hpt, rfl⟩
  case hc =>
   intro w1 hr1 hk1 hs1
   go_wp2
   exact bodyPost_ret (results_rel Tryz.results262 _ _ (w.heap.size + 1) _ rfl hr1) rfl ⟨rfl, keep_below bel hk1 (by omega) (by simp; omega)⟩
 ·go_enter Tryz.func262, Tryz.ntmps262
  have hn33 : ((n : Nat) : Int) < 33 := by omega
  have hz : ([.int .u64 0, .int .u64 0, .int .u64 0, .int .u64 0, .int .u64 0, .int .u64 0, .int .u64 0, .int .u64 0, .int .u64 0, .int .u64 0, .int .u64 0, .int .u64 0, .int .u64 0, .int .u64 0, .int .u64 0, .int .u64 0, .int .u64 0, .int .u64 0, .int .u64 0, .int .u64 0, .int .u64 0, .int .u64 0, .int .u64 0, .int .u64 0, .int .u64 0, .int .u64 0, .int .u64 0, .int .u64 0, .int .u64 0, .int .u64 0, .int .u64 0, .int .u64 0, .int .u64 0] : List Value)[n]? = some (.int .u64 0) := by
   rw [show ([.int .u64 0, .int .u64 0, .int .u64 0, .int .u64 0, .int .u64 0, .int .u64 0, .int .u64 0, .int .u64 0, .int .u64 0, .int .u64 0, .int .u64 0, .int .u64 0, .int .u64 0, .int .u64 0, .int .u64 0, .int .u64 0, .int .u64 0, .int .u64 0, .int .u64 0, .int .u64 0, .int .u64 0, .int .u64 0, .int .u64 0, .int .u64 0, .int .u64 0, .int .u64 0, .int .u64 0, .int .u64 0, .int .u64 0, .int .u64 0, .int .u64 0, .int .u64 0, .int .u64 0] : List Value) = List.replicate 33 (.int .u64 0) from rfl, List.getElem?_replicate, if_pos (by omega)]
  go_wp2_with (first
    | (refine load_rel rfl (.tmp 4) rfl _ (edgeR n) rfl ?hr ?_)
    | (refine store_rel rfl (.tmp 4) (.tmp 14) rfl _ (edgeR n) (edgeR n) rfl rfl ?hs (edgeR_len n) ?hc))
  case hr => exact ⟨by rw [edgeR_arr n hn]; exact heap_new_at (by simp), edgeR_len n⟩
  case hs => exact ⟨by rw [edgeR_arr n hn]; exact heap_new_at (by simp), edgeR_len n⟩
  case hc =>
   intro w1 hr1 hk1 hs1
   go_wp2
   exact bodyPost_ret (results_rel Tryz.results262 _ _ (w.heap.size + 1) _ rfl hr1) rfl ⟨rfl, keep_below bel hk1 (by omega) (by simp; omega)⟩
def InOK (v : Value) (w : World) (A : Option Addr) (n c : Nat) (r : List Nat) : Prop :=
 (∃ x, v = .iface 279 (.agg x) ∧ Calls Tryz.prog 261 #[.agg x, .slice A n c] w (RetRel w r)) ∨
 (∃ x, v = .iface 281 (.agg x) ∧ Calls Tryz.prog 262 #[.agg x, .slice A n c] w (RetRel w r)) ∨
 (∃ x, v = .iface 283 (.agg x) ∧ Calls Tryz.prog 263 #[.agg x, .slice A n c] w (RetRel w r)) ∨
 (∃ x, v = .iface 285 (.agg x) ∧ Calls Tryz.prog 265 #[.agg x, .slice A n c] w (RetRel w r)) ∨
 (∃ x, v = .iface 286 (.agg x) ∧ Calls Tryz.prog 268 #[.agg x, .slice A n c] w (RetRel w r))
theorem foldl_small' (rs : List (List Nat)) (hs : ∀ r ∈ rs, AllSmall r) (a : List Nat) (ha : AllSmall a) : AllSmall (rs.foldl thenM a) := by
 induction rs generalizing a with
 | nil => exact ha
 | cons r rs ih => exact ih (fun x hx => hs x (List.mem_cons_of_mem _ hx)) _ (thenM_small _ _ (hs r (List.mem_cons_self ..)))
theorem foldl_small (n : Nat) (rs : List (List Nat)) (k : Nat) (hs : ∀ r ∈ rs, AllSmall r) : AllSmall ((rs.take k).foldl thenM (idR n)) :=
 foldl_small' _ (fun r hr => hs r (List.mem_of_mem_take hr)) _ (idR_small n)
theorem seq_c (A' : Option Addr) (n' c' : Nat) (cvs : List Value) (rs : List (List Nat)) (A : Option Addr) (n c : Nat) (w : World) (hcv : Cells w A' n' c' 1 cvs) (hlen : rs.length = cvs.length)
  (hin : ∀ W, Below w.heap.size w W → ∀ (i : Nat) v r, cvs[i]? = some v → rs[i]? = some r → InOK v W A n c r) (hrl : ∀ r ∈ rs, r.length = 33 ∧ AllSmall r) (hn : n ≤ 32) (hT : TabOK w) :
  Calls Tryz.prog 268 #[.agg #[.slice A' n' c'], .slice A n c] w (RetRel w (rs.foldl thenM (idR n))) := by
 have hm : n' ≤ 9223372036854775807 := by have h1 := hcv.2.1; have h2 := hcv.2.2.1; unfold maxLen at h2; omega
 have HC := hI hcv; clear hcv
 have HL := hI hlen; clear hlen
 have HI := hI hin; clear hin
 have HR := hI hrl; clear hrl
 have HT := hI hT; clear hT
 go_enter Tryz.func268, Tryz.ntmps268
 go_wp2_with (first
  | (go_at_call 266; refine (identity_c n _ hn).mono ?_; rintro e w1 ⟨rfl, hb1⟩; have hz1 := bsize hb1; (try simp only [World.size_alloc, World.size_drew, World.size_setCell] at hz1)
     have hc1 : w1.heap[w.heap.size]? = some (.cells #[.slice A' n' c'] 286 (0, 0)) := (hb1.block _ sd).trans hpt
     have hr1 : RelAt w1 (w.heap.size + 1) zeroR := ⟨(hb1.block _ sd).trans hpt, rfl⟩
     have hB1 : Below w.heap.size w w1 := bel
     clear hb1)
  | (refine store_rel rfl (.tmp 5) (.tmp 11) rfl _ zeroR (idR n) rfl rfl ?hr (idR_len n) ?hc))
 case hr => exact ⟨hpt, rfl⟩
 case hc =>
  intro w2 hr2 hk2 hs2
  have hc2 : w2.heap[w.heap.size]? = some (.cells #[.slice A' n' c'] 286 (0, 0)) := (hk2.block _ sd (by omega)).trans ((Below.heap_alloc _ _ _ (by omega)).trans hc1)
  have hr3 : Hid (RelAt w2 (w.heap.size + 1) zeroR) := (hr1.alloc _).keep1 hk2 (by omega)
  have hB2 : Below w.heap.size w w2 := keep_below (hB1.alloc hB1.size _) hk2 (by omega) sd
  have hR2 : Hid (RelAt w2 w1.heap.size (idR n)) := hr2
  have hz2 : w1.heap.size < w2.heap.size := by omega
  have hc3 := cell_of_one hc2
  have HC2 := hI hc2
  clear hc1 hr1 hk2 hs2 hr2 hB1 hc2
  go_wp2
  go_loopw [15] (fun i wr => ∃ (k : Nat), k ≤ n' ∧ i = .int .i64 k ∧ Hid (wr.heap[w.heap.size]? = some (.cells #[.slice A' n' c'] 286 (0, 0))) ∧
   Hid (RelAt wr (w.heap.size + 1) zeroR) ∧ Hid (RelAt wr w1.heap.size ((rs.take k).foldl thenM (idR n))) ∧ Below w.heap.size w wr) (fun i _ => n' - (intOf i).toNat)
  case atStart => exact ⟨0, Nat.zero_le _, rfl, HC2, hr3, hR2, hB2⟩
  case round =>
   obtain ⟨k, hk, rfl, hb, hz, ho, hB⟩ := hrel
   have hBs := hB.size
   have hwl := ho.out.lt
   have hTr := hI (HT.out.below hB rr)
   by_cases hlt : k < n'
   ·obtain ⟨b, off, v, rfl, hbl, hxk, hc0⟩ := (HC.out.below hB rr).at1 hlt
    have hlr : k < rs.length := by rw [HL.out, HC.out.1]; omega
    have hrk : rs[k]? = some rs[k] := List.getElem?_eq_getElem hlr
    have hin := HI.out wr hB k v rs[k] hxk hrk
    have hst : (rs.take (k + 1)).foldl thenM (idR n) = thenM ((rs.take k).foldl thenM (idR n)) rs[k] := by
     rw [List.take_succ_eq_append_getElem hlr, List.foldl_append]; rfl
    have hl33 := HR.out rs[k] (List.getElem_mem hlr)
    have HST := hI hst
    have H33 := hI hl33
    generalize rs[k] = r at hin HST H33
    clear hxk hrk hst hl33
    rcases hin with ⟨x, rfl, hcall⟩ | ⟨x, rfl, hcall⟩ | ⟨x, rfl, hcall⟩ | ⟨x, rfl, hcall⟩ | ⟨x, rfl, hcall⟩
    all_goals
     have HCall := hI hcall; clear hcall
     go_wp2_with fail
     refine HCall.out.mono ?_
     rintro e w3 ⟨rfl, hb3⟩
     have hs3 := hb3.size
     have hb3' := hI ((hb3.block _ (by omega)).trans hb.out)
     have ho3 := hI (ho.out.below hb3 rr)
     have hz3 := hI (hz.out.below hb3 rr)
     have hT3 := hI (hTr.out.below hb3 rr)
     have hB3 : Below w.heap.size w w3 := bel
     clear hb3 HCall
     go_wp2_with (refine store_rel rfl (.tmp 8) (.tmp 21) rfl _ zeroR r rfl rfl ?hr H33.out.1 ?hc)
     case hr => exact ⟨hpt, rfl⟩
     case hc =>
      intro w4 hr4 hk4 hs4
      have hb4' := hI ((hk4.block _ sd (by omega)).trans ((Below.heap_alloc _ _ _ (by omega)).trans hb3'.out))
      have ho4 := hI ((ho3.out.alloc (.cells ((zeroR.map fun (s : Nat) => Value.int .u64 (s : Int)).toArray) 266)).keep1 hk4 (by omega))
      have hz4 := hI ((hz3.out.alloc (.cells ((zeroR.map fun (s : Nat) => Value.int .u64 (s : Int)).toArray) 266)).keep1 hk4 (by omega))
      have hR4 := hI hr4
      have hB4 : Below w.heap.size w w4 := keep_below (hB3.alloc hB3.size _) hk4 (by omega) sd
      have hT4 : Hid (TabOK w4) := HT.out.below hB4 rr
      have hs5 : w3.heap.size < w4.heap.size := hr4.lt
      clear hr4 hk4 hs4
      go_wp2_with fail
      refine (then_c w1.heap.size w3.heap.size ((rs.take k).foldl thenM (idR n)) r _ ho4.out hR4.out hT4.out (foldl_small n rs k fun r hr => (HR.out r hr).2) H33.out.2).mono ?_
      rintro e w5 ⟨rfl, hb5⟩
      have hs6 := hb5.size
      have hb5' := hI ((hb5.block _ (by omega)).trans hb4'.out)
      have ho5 := hI (ho4.out.below hb5 rr)
      have hz5 := hI (hz4.out.below hb5 rr)
      have hB5 : Below w.heap.size w w5 := bel
      clear hb5
      go_wp2_with (refine store_rel rfl (.tmp 5) (.tmp 22) rfl _ _ _ rfl rfl ho5.out (by rw [thenM_len]; exact ho5.out.2) ?hd)
      case hd =>
       intro w6 hr6 hk6 hs7
       go_wp2
       go_roundw
       case rel =>
        refine ⟨k + 1, by omega, by go_num, (hk6.block _ (by omega) (by omega)).trans hb5'.out, hz5.out.keep1 hk6 (by omega), ?_, keep_below hB5 hk6 (by omega) hB5.size⟩
        rw [HST.out]; exact hr6
       case measure => simp [intOf]; omega
   ·obtain rfl : k = n' := by omega
    have hall : rs.take k = rs := List.take_of_length_le (by rw [HL.out, HC.out.1]; omega)
    have HA := hI hall; clear hall
    go_wp2_with (first
     | (refine load_rel rfl (.tmp 5) rfl w1.heap.size _ rfl ho.out ?_)
     | (refine store_rel rfl (.tmp 4) (.tmp 24) rfl (w.heap.size + 1) zeroR _ rfl rfl hz.out ho.out.2 ?hd))
    case hd =>
     intro w3 hr3 hk3 hs3
     go_wp2
     exact bodyPost_ret (results_rel Tryz.results268 _ _ (w.heap.size + 1) _ rfl hr3) rfl ⟨by rw [HA.out], keep_below hB hk3 (by omega) hB.size⟩
theorem orR_len (x y : List Nat) (hx : x.length = 33) (hy : y.length = 33) : (orR x y).length = 33 := by
 unfold orR; rw [List.length_zipWith]; omega
theorem orR_small (x y : List Nat) (hx : AllSmall x) (hy : AllSmall y) : AllSmall (orR x y) := by
 intro s hs
 obtain ⟨i, hi, rfl⟩ := List.getElem_of_mem hs
 unfold orR at hi ⊢
 rw [List.getElem_zipWith]
 exact small_or (hx _ (List.getElem_mem _)) (hy _ (List.getElem_mem _))
theorem zeroR_small : AllSmall zeroR := by
 intro s hs
 rw [show s = 0 from List.eq_of_mem_replicate (by rw [show zeroR = List.replicate 33 0 from rfl] at hs; exact hs)]
 unfold Small; omega
theorem foldl_or_small' (rs : List (List Nat)) (hs : ∀ r ∈ rs, AllSmall r) (a : List Nat) (ha : AllSmall a) : AllSmall (rs.foldl orR a) := by
 induction rs generalizing a with
 | nil => exact ha
 | cons r rs ih => exact ih (fun x hx => hs x (List.mem_cons_of_mem _ hx)) _ (orR_small _ _ ha (hs r (List.mem_cons_self ..)))
theorem foldl_or_small (rs : List (List Nat)) (k : Nat) (hs : ∀ r ∈ rs, AllSmall r) : AllSmall ((rs.take k).foldl orR zeroR) :=
 foldl_or_small' _ (fun r hr => hs r (List.mem_of_mem_take hr)) _ zeroR_small
theorem alt_c (A' : Option Addr) (n' c' : Nat) (cvs : List Value) (rs : List (List Nat)) (A : Option Addr) (n c : Nat) (w : World) (hcv : Cells w A' n' c' 1 cvs) (hlen : rs.length = cvs.length)
  (hin : ∀ W, Below w.heap.size w W → ∀ (i : Nat) v r, cvs[i]? = some v → rs[i]? = some r → InOK v W A n c r) (hrl : ∀ r ∈ rs, r.length = 33 ∧ AllSmall r) :
  Calls Tryz.prog 263 #[.agg #[.slice A' n' c'], .slice A n c] w (RetRel w (rs.foldl orR zeroR)) := by
 have hm : n' ≤ 9223372036854775807 := by have h1 := hcv.2.1; have h2 := hcv.2.2.1; unfold maxLen at h2; omega
 have HC := hI hcv; clear hcv
 have HL := hI hlen; clear hlen
 have HI := hI hin; clear hin
 have HR := hI hrl; clear hrl
 go_enter Tryz.func263, Tryz.ntmps263
 go_wp2
 go_loopw [11] (fun i wr => ∃ (k : Nat), k ≤ n' ∧ i = .int .i64 k ∧ Hid (RelAt wr (w.heap.size + 1) ((rs.take k).foldl orR zeroR)) ∧ Below w.heap.size w wr) (fun i _ => n' - (intOf i).toNat)
 case atStart => exact ⟨0, Nat.zero_le _, rfl, ⟨hpt, rfl⟩, bel⟩
 case round =>
  obtain ⟨k, hk, rfl, hz, hB⟩ := hrel
  have hBs := hB.size
  have hwl := hz.out.lt
  by_cases hlt : k < n'
  ·obtain ⟨b, off, v, rfl, hbl, hxk, hc0⟩ := (HC.out.below hB rr).at1 hlt
   have hlr : k < rs.length := by rw [HL.out, HC.out.1]; omega
   have hrk : rs[k]? = some rs[k] := List.getElem?_eq_getElem hlr
   have hin := HI.out wr hB k v rs[k] hxk hrk
   have hst : (rs.take (k + 1)).foldl orR zeroR = orR ((rs.take k).foldl orR zeroR) rs[k] := by
    rw [List.take_succ_eq_append_getElem hlr, List.foldl_append]; rfl
   have hl33 := HR.out rs[k] (List.getElem_mem hlr)
   have HST := hI hst
   have H33 := hI hl33
   generalize rs[k] = r at hin HST H33
   clear hxk hrk hst hl33
   rcases hin with ⟨x, rfl, hcall⟩ | ⟨x, rfl, hcall⟩ | ⟨x, rfl, hcall⟩ | ⟨x, rfl, hcall⟩ | ⟨x, rfl, hcall⟩
   all_goals
    have HCall := hI hcall; clear hcall
    go_wp2_with fail
    refine HCall.out.mono ?_
    rintro e w3 ⟨rfl, hb3⟩
    have hs3 := hb3.size
    have hz3 := hI (hz.out.below hb3 rr)
    have hB3 : Below w.heap.size w w3 := bel
    clear hb3 HCall
    go_wp2_with (refine store_rel rfl (.tmp 7) (.tmp 17) rfl _ zeroR r rfl rfl ?hr H33.out.1 ?hc)
    case hr => exact ⟨hpt, rfl⟩
    case hc =>
     intro w4 hr4 hk4 hs4
     have hz4 := hI ((hz3.out.alloc (.cells ((zeroR.map fun (s : Nat) => Value.int .u64 (s : Int)).toArray) 266)).keep1 hk4 (by omega))
     have hR4 := hI hr4
     have hB4 : Below w.heap.size w w4 := keep_below (hB3.alloc hB3.size _) hk4 (by omega) sd
     have hs5 : w3.heap.size < w4.heap.size := hr4.lt
     clear hr4 hk4 hs4
     go_wp2_with fail
     refine (or_c (w.heap.size + 1) w3.heap.size ((rs.take k).foldl orR zeroR) r _ hz4.out hR4.out (by omega) (foldl_or_small rs k fun r hr => (HR.out r hr).2) H33.out.2).mono ?_
     rintro e w5 ⟨rfl, hr5, hk5, hs6⟩
     have hR5 := hI hr5
     have hB5 : Below w.heap.size w w5 := keep_below hB4 hk5 (by omega) hB4.size
     clear hr5 hk5
     go_wp2
     go_roundw
     case rel =>
      refine ⟨k + 1, by omega, by go_num, ?_, hB5⟩
      rw [HST.out]; exact hR5.out
     case measure => simp [intOf]; omega
  ·obtain rfl : k = n' := by omega
   have hall : rs.take k = rs := List.take_of_length_le (by rw [HL.out, HC.out.1]; omega)
   have HA := hI hall; clear hall
   go_wp2_with (first
    | (refine load_rel rfl (.tmp 4) rfl (w.heap.size + 1) _ rfl hz.out ?_)
    | (refine store_rel rfl (.tmp 4) (.tmp 20) rfl (w.heap.size + 1) _ _ rfl rfl hz.out hz.out.2 ?hd))
   case hd =>
    intro w3 hr3 hk3 hs3
    go_wp2
    exact bodyPost_ret (results_rel Tryz.results263 _ _ (w.heap.size + 1) _ rfl hr3) rfl ⟨by rw [HA.out], keep_below hB hk3 (by omega) hB.size⟩
theorem powM_len (f : Nat) (x : List Nat) (k : Nat) (out : List Nat) (ho : out.length = 33) : (powM f x k out).length = 33 := by
 induction f generalizing x k out with
 | zero => exact ho
 | succ f ih =>
  simp only [powM]
  split
  ·exact ho
  ·refine ih _ _ _ ?_
   split
   ·rw [thenM_len]; exact ho
   ·exact ho
theorem powR_len (x : List Nat) (k n : Nat) : (powR x k n).length = 33 := powM_len _ _ _ _ (idR_len n)
theorem powM_small (f : Nat) (x : List Nat) (k : Nat) (out : List Nat) (hx : AllSmall x) (ho : AllSmall out) : AllSmall (powM f x k out) := by
 induction f generalizing x k out with
 | zero => exact ho
 | succ f ih =>
  simp only [powM]
  split
  ·exact ho
  ·refine ih _ _ _ (thenM_small _ _ hx) ?_
   split
   ·exact thenM_small _ _ hx
   ·exact ho
theorem powR_small (x : List Nat) (k n : Nat) (hx : AllSmall x) : AllSmall (powR x k n) := powM_small _ _ _ _ hx (idR_small n)
def extraN (lo : Nat) (hi : Int) (n : Nat) : Nat := if hi < 0 then n else (hi - lo).toNat
def repR (r : List Nat) (lo : Nat) (hi : Int) (n : Nat) : List Nat := thenM (powR r lo n) (powR (orR r (idR n)) (extraN lo hi n) n)
theorem rep_c (v : Value) (lo : Nat) (hi : Int) (r : List Nat) (A : Option Addr) (n c : Nat) (w : World)
  (hin : ∀ W, Below w.heap.size w W → InOK v W A n c r) (hrl : r.length = 33 ∧ AllSmall r) (hlo : lo ≤ 64) (hhi : hi < 0 ∨ (lo : Int) ≤ hi ∧ hi ≤ 64) (hn : n ≤ 32) (hT : TabOK w) :
  Calls Tryz.prog 265 #[.agg #[v, .int .i64 (lo : Int), .int .i64 hi], .slice A n c] w (RetRel w (repR r lo hi n)) := by
 have HI := hI hin; clear hin
 have HR := hI hrl; clear hrl
 have HT := hI hT; clear hT
 have hb0 : Below w.heap.size w ((w.alloc (.cells #[v, .int .i64 (lo : Int), .int .i64 hi] 285)).alloc (.cells ((zeroR.map fun (s : Nat) => Value.int .u64 (s : Int)).toArray) 266)) := bel
 have hin := HI.out _ hb0
 clear hb0
 rcases hin with ⟨x, rfl, hcall⟩ | ⟨x, rfl, hcall⟩ | ⟨x, rfl, hcall⟩ | ⟨x, rfl, hcall⟩ | ⟨x, rfl, hcall⟩
 all_goals
  have HCall := hI hcall; clear hcall
  go_enter Tryz.func265, Tryz.ntmps265
  go_wp2_with fail
  refine HCall.out.mono ?_
  rintro e w1 ⟨rfl, hb1⟩
  have hs1 := hb1.size
  simp only [World.size_alloc] at hs1
  have hx1 := hI ((hb1.block w.heap.size sd).trans (show _ = some (.cells #[_, .int .i64 (lo : Int), .int .i64 hi] 285 (0, 0)) from hpt))
  have hz_1 : Hid (RelAt w1 (w.heap.size + 1) zeroR) := ⟨(hb1.block _ sd).trans hpt, rfl⟩
  have hB1 : Below w.heap.size w w1 := bel
  clear hb1 HCall
  go_wp2_with (refine store_rel rfl (.tmp 5) (.tmp 13) rfl _ zeroR r rfl rfl ?hr HR.out.1 ?hc)
  case hr => exact ⟨hpt, rfl⟩
  case hc =>
   intro w2 hr2 hk2 hs2
   have hr5_2 := hI hr2
   have hx2 := hI ((hk2.block w.heap.size sd (by omega)).trans ((Below.heap_alloc _ _ _ (by omega)).trans hx1.out))
   have hz_2 := hI ((hz_1.out.alloc (.cells ((zeroR.map fun (s : Nat) => Value.int .u64 (s : Int)).toArray) 266)).keep1 hk2 (by omega))
   have hB2 : Below w.heap.size w w2 := keep_below (hB1.alloc hB1.size _) hk2 (by omega) sd
   have ht2 : w1.heap.size < w2.heap.size := hr2.lt
   clear hr2 hk2 hs2
   have d1 := cell_of_row w2 w.heap.size 1 _ _ _ hx2.out
   have d2 := cell_of_row w2 w.heap.size 2 _ _ _ hx2.out
   simp only [List.getElem?_toArray, List.getElem?_cons_zero, List.getElem?_cons_succ] at d1 d2
   have hT2 : Hid (TabOK w2) := HT.out.below hB2 rr
   go_wp2_with (refine load_rel rfl (.tmp 5) rfl w1.heap.size r rfl hr5_2.out ?_)
   refine (power_c r lo n _ HR.out.1 HR.out.2 hlo hn hT2.out).mono ?_
   rintro e w3 ⟨rfl, hb3⟩
   clear d1 d2
   have hs3 := hb3.size
   have hx3 := hI ((hb3.block w.heap.size (by omega)).trans hx2.out)
   have hz_3 := hI (hz_2.out.below hb3 rr)
   have hr5_3 := hI (hr5_2.out.below hb3 rr)
   have hB3 : Below w.heap.size w w3 := bel
   clear hb3
   go_wp2_with (refine store_rel rfl (.tmp 6) (.tmp 19) rfl _ zeroR (powR r lo n) rfl rfl ?hr (powR_len r lo n) ?hd)
   case hr => exact ⟨hpt, rfl⟩
   case hd =>
    intro w4 hr4 hk4 hs4
    have hr6_4 := hI hr4
    have hx4 := hI ((hk4.block w.heap.size sd (by omega)).trans ((Below.heap_alloc _ _ _ (by omega)).trans hx3.out))
    have hz_4 := hI ((hz_3.out.alloc (.cells ((zeroR.map fun (s : Nat) => Value.int .u64 (s : Int)).toArray) 266)).keep1 hk4 (by omega))
    have hr5_4 := hI ((hr5_3.out.alloc (.cells ((zeroR.map fun (s : Nat) => Value.int .u64 (s : Int)).toArray) 266)).keep1 hk4 (by omega))
    have hB4 : Below w.heap.size w w4 := keep_below (hB3.alloc hB3.size _) hk4 (by omega) sd
    have ht4 : w3.heap.size < w4.heap.size := hr4.lt
    clear hr4 hk4 hs4
    go_wp2_with (first | (refine load_rel rfl (.tmp 5) rfl w1.heap.size r rfl hr5_4.out ?_) | (refine store_rel rfl (.tmp 7) (.tmp 20) rfl _ zeroR r rfl rfl ?hr HR.out.1 ?he))
    case hr => exact ⟨hpt, rfl⟩
    case he =>
     intro w5 hr5 hk5 hs5
     have hr7_5 := hI hr5
     have hx5 := hI ((hk5.block w.heap.size sd (by omega)).trans ((Below.heap_alloc _ _ _ (by omega)).trans hx4.out))
     have hz_5 := hI ((hz_4.out.alloc (.cells ((zeroR.map fun (s : Nat) => Value.int .u64 (s : Int)).toArray) 266)).keep1 hk5 (by omega))
     have hr6_5 := hI ((hr6_4.out.alloc (.cells ((zeroR.map fun (s : Nat) => Value.int .u64 (s : Int)).toArray) 266)).keep1 hk5 (by omega))
     have hB5 : Below w.heap.size w w5 := keep_below (hB4.alloc hB4.size _) hk5 (by omega) sd
     have ht5 : w4.heap.size < w5.heap.size := hr5.lt
     clear hr5 hk5 hs5
     go_wp2_with fail
     refine (identity_c n _ hn).mono ?_
     rintro e w6 ⟨rfl, hb6⟩
     have hs6 := hb6.size
     have hx6 := hI ((hb6.block w.heap.size (by omega)).trans hx5.out)
     have hz_6 := hI (hz_5.out.below hb6 rr)
     have hr6_6 := hI (hr6_5.out.below hb6 rr)
     have hr7_6 := hI (hr7_5.out.below hb6 rr)
     have hB6 : Below w.heap.size w w6 := bel
     clear hb6
     go_wp2_with (refine store_rel rfl (.tmp 8) (.tmp 23) rfl _ zeroR (idR n) rfl rfl ?hr (idR_len n) ?hf)
     case hr => exact ⟨hpt, rfl⟩
     case hf =>
      intro w7 hr7 hk7 hs7
      have hr8_7 := hI hr7
      have hx7 := hI ((hk7.block w.heap.size sd (by omega)).trans ((Below.heap_alloc _ _ _ (by omega)).trans hx6.out))
      have hz_7 := hI ((hz_6.out.alloc (.cells ((zeroR.map fun (s : Nat) => Value.int .u64 (s : Int)).toArray) 266)).keep1 hk7 (by omega))
      have hr6_7 := hI ((hr6_6.out.alloc (.cells ((zeroR.map fun (s : Nat) => Value.int .u64 (s : Int)).toArray) 266)).keep1 hk7 (by omega))
      have hr7_7 := hI ((hr7_6.out.alloc (.cells ((zeroR.map fun (s : Nat) => Value.int .u64 (s : Int)).toArray) 266)).keep1 hk7 (by omega))
      have hB7 : Below w.heap.size w w7 := keep_below (hB6.alloc hB6.size _) hk7 (by omega) sd
      have ht7 : w6.heap.size < w7.heap.size := hr7.lt
      clear hr7 hk7 hs7
      go_wp2_with fail
      refine (or_c w4.heap.size w6.heap.size r (idR n) _ hr7_7.out hr8_7.out (by omega) HR.out.2 (idR_small n)).mono ?_
      rintro e w8 ⟨rfl, hr8, hk8, hs8⟩
      skip
      have ho7_8 := hI hr8
      have hx8 := hI ((hk8.block w.heap.size sd (by omega)).trans hx7.out)
      have hz_8 := hI (hz_7.out.keep1 hk8 (by omega))
      have hr6_8 := hI (hr6_7.out.keep1 hk8 (by omega))
      have hB8 : Below w.heap.size w w8 := keep_below hB7 hk8 (by omega) hB7.size
      have ht8 : w8.heap.size = w7.heap.size := hs8
      clear hr8 hk8 hs8
      have d1 := cell_of_row w8 w.heap.size 1 _ _ _ hx8.out
      have d2 := cell_of_row w8 w.heap.size 2 _ _ _ hx8.out
      simp only [List.getElem?_toArray, List.getElem?_cons_zero, List.getElem?_cons_succ] at d1 d2
      have hT8 : Hid (TabOK w8) := HT.out.below hB8 rr
      have ex : ∃ ex : Nat, ex ≤ 64 ∧ ex = extraN lo hi n ∧ (hi < 0 → ex = n) ∧ (¬ hi < 0 → (ex : Int) = hi - lo) := by
       refine ⟨extraN lo hi n, ?_, rfl, ?_, ?_⟩ <;> unfold extraN <;> split <;> omega
      obtain ⟨ex, hex, HE, he1, he2⟩ := ex
      replace HE := hI HE
      by_cases hneg : hi < 0
      ·obtain rfl := (he1 hneg).symm
       go_wp2_with (refine load_rel rfl (.tmp 7) rfl w4.heap.size (orR r (idR n)) rfl ho7_8.out ?_)
       refine (power_c (orR r (idR n)) n n _ (orR_len _ _ HR.out.1 (idR_len n)) (orR_small _ _ HR.out.2 (idR_small n)) hex hn hT8.out).mono ?_
       rintro e w9 ⟨rfl, hb9⟩
       have hs9 := hb9.size
       have hx9 := hI ((hb9.block w.heap.size (by omega)).trans hx8.out)
       have hz_9 := hI (hz_8.out.below hb9 rr)
       have hr6_9 := hI (hr6_8.out.below hb9 rr)
       have ho7_9 := hI (ho7_8.out.below hb9 rr)
       have hB9 : Below w.heap.size w w9 := bel
       clear hb9
       go_wp2_with (refine store_rel rfl (.tmp 7) (.tmp 39) rfl _ _ (powR (orR r (idR n)) n n) rfl rfl ho7_9.out (powR_len _ _ _) ?hg)
       case hg =>
        intro w10 hr10 hk10 hs10
        have hB10 : Below w.heap.size w w10 := keep_below hB9 hk10 (by omega) hB9.size
        have hz_10 := hI (hz_9.out.keep1 hk10 (by omega))
        have hr6_10 := hI (hr6_9.out.keep1 hk10 (by omega))
        have hp_10 := hI hr10
        have hT10 : Hid (TabOK w10) := HT.out.below hB10 rr
        clear hr10 hk10
        go_wp2_with fail
        refine (then_c w3.heap.size w4.heap.size (powR r lo n) (powR (orR r (idR n)) n n) _ hr6_10.out hp_10.out hT10.out (powR_small _ _ _ HR.out.2) (powR_small _ _ _ (orR_small _ _ HR.out.2 (idR_small n)))).mono ?_
        rintro e w11 ⟨rfl, hb11⟩
        have hz_11 := hI (hz_10.out.below hb11 rr)
        have hs11 := hb11.size
        have hB11 : Below w.heap.size w w11 := bel
        clear hb11
        go_wp2_with (refine store_rel rfl (.tmp 4) (.tmp 40) rfl _ zeroR (thenM (powR r lo n) (powR (orR r (idR n)) n n)) rfl rfl hz_11.out (by rw [thenM_len]; exact powR_len _ _ _) ?hh)
        case hh =>
         intro w12 hr12 hk12 hs12
         go_wp2
         exact bodyPost_ret (results_rel Tryz.results265 _ _ (w.heap.size + 1) _ rfl hr12) rfl ⟨by unfold repR; rw [← HE.out], keep_below hB11 hk12 (by omega) hB11.size⟩
      ·have hd3 := he2 hneg
       go_wp2_with (refine load_rel rfl (.tmp 7) rfl w4.heap.size (orR r (idR n)) rfl ho7_8.out ?_)
       rw [← hd3]
       refine (power_c (orR r (idR n)) ex n _ (orR_len _ _ HR.out.1 (idR_len n)) (orR_small _ _ HR.out.2 (idR_small n)) hex hn hT8.out).mono ?_
       rintro e w9 ⟨rfl, hb9⟩
       have hs9 := hb9.size
       have hx9 := hI ((hb9.block w.heap.size (by omega)).trans hx8.out)
       have hz_9 := hI (hz_8.out.below hb9 rr)
       have hr6_9 := hI (hr6_8.out.below hb9 rr)
       have ho7_9 := hI (ho7_8.out.below hb9 rr)
       have hB9 : Below w.heap.size w w9 := bel
       clear hb9
       go_wp2_with (refine store_rel rfl (.tmp 7) (.tmp 39) rfl _ _ (powR (orR r (idR n)) ex n) rfl rfl ho7_9.out (powR_len _ _ _) ?hg)
       case hg =>
        intro w10 hr10 hk10 hs10
        have hB10 : Below w.heap.size w w10 := keep_below hB9 hk10 (by omega) hB9.size
        have hz_10 := hI (hz_9.out.keep1 hk10 (by omega))
        have hr6_10 := hI (hr6_9.out.keep1 hk10 (by omega))
        have hp_10 := hI hr10
        have hT10 : Hid (TabOK w10) := HT.out.below hB10 rr
        clear hr10 hk10
        go_wp2_with fail
        refine (then_c w3.heap.size w4.heap.size (powR r lo n) (powR (orR r (idR n)) ex n) _ hr6_10.out hp_10.out hT10.out (powR_small _ _ _ HR.out.2) (powR_small _ _ _ (orR_small _ _ HR.out.2 (idR_small n)))).mono ?_
        rintro e w11 ⟨rfl, hb11⟩
        have hz_11 := hI (hz_10.out.below hb11 rr)
        have hs11 := hb11.size
        have hB11 : Below w.heap.size w w11 := bel
        clear hb11
        go_wp2_with (refine store_rel rfl (.tmp 4) (.tmp 40) rfl _ zeroR (thenM (powR r lo n) (powR (orR r (idR n)) ex n)) rfl rfl hz_11.out (by rw [thenM_len]; exact powR_len _ _ _) ?hh)
        case hh =>
         intro w12 hr12 hk12 hs12
         go_wp2
         exact bodyPost_ret (results_rel Tryz.results265 _ _ (w.heap.size + 1) _ rfl hr12) rfl ⟨by unfold repR; rw [← HE.out], keep_below hB11 hk12 (by omega) hB11.size⟩
def partV (k : Nd) (A : Option Addr) (n c : Nat) (cvs : List Value) : Value :=
 if k.kind = 1 then .iface 279 (.agg #[.int .u32 k.isp, .int .u32 k.ism, .bool k.neg])
 else if k.kind = 2 then .iface 281 (.agg #[.bool false])
 else if k.kind = 6 then .iface 281 (.agg #[.bool true])
 else if k.kind = 4 then .iface 283 (.agg #[.slice A n c])
 else if k.kind = 5 then .iface 285 (.agg #[cvs.headD undef, .int .i64 k.lo, .int .i64 k.hi])
 else .iface 286 (.agg #[.slice A n c])
def PartsAt (w : World) : Fo → List Value → Prop
 | .nil, vs => vs = []
 | .node k ch nx, vs => ∃ A n c cvs v vs', vs = v :: vs' ∧ Cells w A n c 1 cvs ∧ PartsAt w ch cvs ∧ v = partV k A n c cvs ∧ PartsAt w nx vs'
theorem PartsAt.below {w w' : World} {B : Nat} (hb : Below B w w') (hB : w.heap.size ≤ B) : ∀ (f : Fo) (vs : List Value), PartsAt w f vs → PartsAt w' f vs
 | .nil, _, h => h
 | .node _ ch nx, _, ⟨A, n, c, cvs, v, vs', h1, h2, h3, h4, h5⟩ => ⟨A, n, c, cvs, v, vs', h1, h2.below hb hB, below hb hB ch _ h3, h4, below hb hB nx _ h5⟩
theorem PartsAt.len {w : World} : ∀ (f : Fo) (vs : List Value), PartsAt w f vs → vs.length = f.len
 | .nil, _, h => by rw [show _ = [] from h]; rfl
 | .node _ ch nx, _, ⟨A, n, c, cvs, v, vs', h1, h2, h3, h4, h5⟩ => by rw [h1, List.length_cons, len nx _ h5]; rfl
def okF : Fo → Prop
 | .nil => True
 | .node k ch nx => allowedM k ch.len = 0 ∧ okF ch ∧ okF nx
def relOf (k : Nd) (ws : List Snd) (rs : List (List Nat)) : List Nat :=
 if k.kind = 1 then sndR k.isp k.ism k.neg ws
 else if k.kind = 2 then edgeR 0
 else if k.kind = 6 then edgeR ws.length
 else if k.kind = 4 then rs.foldl orR zeroR
 else if k.kind = 5 then repR (rs.headD []) k.lo.toNat k.hi ws.length
 else rs.foldl thenM (idR ws.length)
def rels (ws : List Snd) : Fo → List (List Nat)
 | .nil => []
 | .node k ch nx => relOf k ws (rels ws ch) :: rels ws nx
theorem rels_len (ws : List Snd) : ∀ f : Fo, (rels ws f).length = f.len
 | .nil => rfl
 | .node _ ch nx => by simp [rels, Fo.len, rels_len ws nx]
theorem allowed_rep {k : Nd} {n : Nat} (hk : k.kind = 5) (h : allowedM k n = 0) : n = 1 ∧ 0 ≤ k.lo ∧ k.lo ≤ 32 ∧ (k.hi = -1 ∨ k.lo ≤ k.hi ∧ k.hi ≤ 32) := by
 simp only [allowedM, hk] at h
 simp at h
 split at h <;> simp at h
 omega
theorem fold_then_len (rs : List (List Nat)) (a : List Nat) (ha : a.length = 33) : (rs.foldl thenM a).length = 33 := by
 induction rs generalizing a with
 | nil => exact ha
 | cons r rs ih => exact ih _ (by rw [thenM_len]; exact ha)
theorem fold_or_len (rs : List (List Nat)) (hr : ∀ r ∈ rs, r.length = 33) (a : List Nat) (ha : a.length = 33) : (rs.foldl orR a).length = 33 := by
 induction rs generalizing a with
 | nil => exact ha
 | cons r rs ih => exact ih (fun x hx => hr x (List.mem_cons_of_mem _ hx)) _ (orR_len _ _ ha (hr r (List.mem_cons_self ..)))
theorem pow_small' (k : Nat) (hk : k < 33) : Small (2 ^ k) := by
 have hp : 2 ^ k ≤ 2 ^ 32 := Nat.pow_le_pow_right (by decide) (by omega)
 have e32 : (2 : Nat) ^ 32 = 4294967296 := by decide
 unfold Small; omega
theorem edgeR_small (a : Nat) (ha : a ≤ 32) : AllSmall (edgeR a) := by
 intro s hs
 unfold edgeR at hs
 rcases List.mem_or_eq_of_mem_set hs with h | h
 ·exact zeroR_small s h
 ·subst h; exact pow_small' _ (by omega)
theorem sndR_small (p m : Int) (neg : Bool) (ws : List Snd) (hn : ws.length ≤ 32) : AllSmall (sndR p m neg ws) := by
 intro s hs
 obtain ⟨k, hk, rfl⟩ := List.mem_map.1 hs
 have hk := List.mem_range.1 hk
 rw [if_pos hk]
 cases hx : ws[k]? with
 | none => exact small_zero
 | some x =>
  have := (List.getElem?_eq_some_iff.1 hx).1
  show Small (if hitS p m neg x = true then 2 ^ (k + 1) else 0)
  split
  ·exact pow_small' _ (by omega)
  ·exact small_zero
theorem repR_len (r : List Nat) (lo : Nat) (hi : Int) (n : Nat) : (repR r lo hi n).length = 33 := by unfold repR; rw [thenM_len]; exact powR_len _ _ _
theorem repR_small (r : List Nat) (lo : Nat) (hi : Int) (n : Nat) (hr : AllSmall r) : AllSmall (repR r lo hi n) :=
 thenM_small _ _ (powR_small _ _ _ (orR_small _ _ hr (idR_small n)))
theorem rels_ok (ws : List Snd) (hn : ws.length ≤ 32) : ∀ f : Fo, okF f → ∀ r ∈ rels ws f, r.length = 33 ∧ AllSmall r
 | .nil, _ => by simp [rels]
 | .node k ch nx, ⟨h1, h2, h3⟩ => by
  intro r hr
  rcases List.mem_cons.1 hr with h | h
  ·subst h
   have hc := rels_ok ws hn ch h2
   unfold relOf
   split
   ·exact ⟨by simp [sndR, sndTo], sndR_small _ _ _ _ hn⟩
   ·split
    ·exact ⟨edgeR_len _, edgeR_small _ (by omega)⟩
    ·split
     ·exact ⟨edgeR_len _, edgeR_small _ hn⟩
     ·split
      ·exact ⟨fold_or_len _ (fun r hr => (hc r hr).1) _ rfl, foldl_or_small' _ (fun r hr => (hc r hr).2) _ zeroR_small⟩
      ·split
       ·rename_i h5
        obtain ⟨e1, _⟩ := allowed_rep h5 h1
        refine ⟨repR_len _ _ _ _, repR_small _ _ _ _ ?_⟩
        have hl := rels_len ws ch
        cases hx : rels ws ch with
        | nil => rw [hx] at hl; simp at hl; omega
        | cons a l => exact (hc a (by rw [hx]; exact List.mem_cons_self ..)).2
       ·exact ⟨fold_then_len _ _ (idR_len _), foldl_small' _ (fun r hr => (hc r hr).2) _ (idR_small _)⟩
  ·exact rels_ok ws hn nx h3 r h
theorem in_c (ws : List Snd) (A : Option Addr) (n c : Nat) (hn : n ≤ 32) : ∀ (f : Fo) (w : World) (vs : List Value), okF f → PartsAt w f vs → IsWord w A n c ws → TabOK w →
  ∀ W, Below w.heap.size w W → ∀ (i : Nat) v r, vs[i]? = some v → (rels ws f)[i]? = some r → InOK v W A n c r
 | .nil, w, vs, _, hp, _, _ => by
  intro W _ i v r hv _
  rw [show vs = [] from hp] at hv; simp at hv
 | .node k ch nx, w, vs, ⟨h1, h2, h3⟩, ⟨A', n', c', cvs, v0, vs', e0, hC, hch, hv0, hnx⟩, hw, hT => by
  intro W hB i v r hv hr
  subst e0
  cases i with
  | succ i =>
   exact in_c ws A n c hn nx w vs' h3 hnx hw hT W hB i v r (by simpa using hv) (by simpa [rels] using hr)
  | zero =>
   obtain rfl : v0 = v := by simpa using hv
   obtain rfl : relOf k ws (rels ws ch) = r := by simpa [rels] using hr
   have hwl : ws.length = n := hw.len
   have hC2 := hC.below hB rr
   have hw2 := hw.below hB rr
   have hT2 := hT.below hB rr
   have hlen : (rels ws ch).length = cvs.length := by rw [rels_len, PartsAt.len _ _ hch]
   have hin : ∀ W', Below W.heap.size W W' → ∀ (i : Nat) v r, cvs[i]? = some v → (rels ws ch)[i]? = some r → InOK v W' A n c r := fun W' hB' => by
    refine in_c ws A n c hn ch w cvs h2 hch hw hT W' ?_
    have := hB.size
    exact Below.trans hB (hB'.mono this)
   have hok := rels_ok ws (by omega) ch h2
   subst hv0
   unfold partV relOf
   split
   ·exact Or.inl ⟨_, rfl, sound_c _ _ _ _ _ _ _ _ hw2 hn⟩
   ·split
    ·exact Or.inr (Or.inl ⟨_, rfl, edge_c false _ _ _ _ hn⟩)
    ·split
     ·refine Or.inr (Or.inl ⟨_, rfl, ?_⟩)
      rw [hwl]; exact edge_c true _ _ _ _ hn
     ·split
      ·exact Or.inr (Or.inr (Or.inl ⟨_, rfl, alt_c _ _ _ _ _ _ _ _ _ hC2 hlen hin hok⟩))
      ·split
       ·rename_i h5
        obtain ⟨e1, e2, e3, e4⟩ := allowed_rep h5 h1
        refine Or.inr (Or.inr (Or.inr (Or.inl ⟨_, rfl, ?_⟩)))
        have hl := rels_len ws ch
        cases hx : rels ws ch with
        | nil => rw [hx] at hl; simp at hl; omega
        | cons a l =>
         cases hy : cvs with
         | nil => rw [hx, hy] at hlen; simp at hlen
         | cons b m =>
          have h := rep_c b k.lo.toNat k.hi a A n c W (fun W' hB' => hin W' hB' 0 b a (by rw [hy]; rfl) (by rw [hx]; rfl)) (hok a (by rw [hx]; exact List.mem_cons_self ..)) (by omega) (by omega) hn hT2
          rw [hwl]
          rw [show ((k.lo.toNat : Nat) : Int) = k.lo by omega] at h
          exact h
       ·refine Or.inr (Or.inr (Or.inr (Or.inr ⟨_, rfl, ?_⟩)))
        rw [hwl]
        exact seq_c _ _ _ _ _ _ _ _ _ hC2 hlen hin hok hn hT2
end Go.Proofs.YtaglfmlgbcmakaaGreatDoor
