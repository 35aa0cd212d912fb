/-
  Closures of ablautlaw11 that compare words; slices.EqualFunc of equal words.
  inverse.Count, inverse.Reached.
  inverse.Reached.
-/
import Derived.Test.YtlgliddhideflaaGreatDoorXWk11
set_option linter.all false
set_option maxRecDepth 100000
set_option maxHeartbeats 4000000
namespace Go.Proofs.YtlgliddhideflaaGreatDoor
open Go.RowKit Go.Shelf
theorem again1_c (A : Option Addr) (n c : Nat) (xs : List Snd) (b : Nat) (Av : Option Addr) (nv cv : Nat) (v : List Snd) (w : World) (hx : IsWord w A n c xs) (hb : w.cell? ⟨b, 0, none⟩ = some (.slice Av nv cv)) (hv : IsWord w Av nv cv v) :
  Calls Tryz.prog 70 #[.slice A n c, .pointer (some ⟨b, 0, none⟩)] w fun e w' => e = .returned (.bool (decide (xs = v))) ∧ Below w.heap.size w w' := by
 have HX := hI hx; have HV := hI hv; clear hx hv
 go_enter Tryz.func70, Tryz.ntmps70
 go_wp2_with fail
 refine (wEqual_c A Av n nv c cv xs v w HX.out HV.out).mono ?_
 rintro e w1 ⟨rfl, hB⟩
 go_wp2
 go_ret
 exact ⟨rfl, hB⟩
theorem loses1_c (A : Option Addr) (n c : Nat) (xs : List Snd) (b : Nat) (Av : Option Addr) (nv cv : Nat) (v : List Snd) (w : World) (hx : IsWord w A n c xs) (hb : w.cell? ⟨b, 0, none⟩ = some (.slice Av nv cv)) (hv : IsWord w Av nv cv v) :
  Calls Tryz.prog 57 #[.slice A n c, .pointer (some ⟨b, 0, none⟩)] w fun e w' => e = .returned (.bool (decide (xs = v))) ∧ Below w.heap.size w w' := by
 have HX := hI hx; have HV := hI hv; clear hx hv
 go_enter Tryz.func57, Tryz.ntmps57
 go_wp2_with fail
 refine (wEqual_c A Av n nv c cv xs v w HX.out HV.out).mono ?_
 rintro e w1 ⟨rfl, hB⟩
 go_wp2
 go_ret
 exact ⟨rfl, hB⟩
theorem again2_c (A : Option Addr) (n c : Nat) (xs : List Snd) (Av : Option Addr) (nv cv : Nat) (v : List Snd) (w : World) (hx : IsWord w A n c xs) (hv : IsWord w Av nv cv v) :
  Calls Tryz.prog 72 #[.slice A n c, .slice Av nv cv] w fun e w' => e = .returned (.bool (decide (xs = v))) ∧ Below w.heap.size w w' := by
 have HX := hI hx; have HV := hI hv; clear hx hv
 go_enter Tryz.func72, Tryz.ntmps72
 go_wp2_with fail
 refine (wEqual_c A Av n nv c cv xs v w HX.out HV.out).mono ?_
 rintro e w1 ⟨rfl, hB⟩
 go_wp2
 go_ret
 exact ⟨rfl, hB⟩
theorem eqf_c (A A' : Option Addr) (n n' c c' : Nat) (xs : List (List Snd)) (w : World) (hx : IsWords w A n c xs) (hy : IsWords w A' n' c' xs) :
  Calls Tryz.prog 71 #[.slice A n c, .slice A' n' c', .func (.func 72) #[] #[]] w fun e w' => e = .returned (.bool true) ∧ Below w.heap.size w w' := by
 have hm := hx.max
 obtain rfl : n = n' := hx.len.symm.trans hy.len
 have HX := hI hx; have HY := hI hy; clear hx hy
 have hne : ((n : Int) != (n : Int)) = false := by simp
 have hE : Enters Tryz.prog 72 := enters_of Tryz.func72 (by kernel_rfl) rfl
 unfold Enters at hE
 go_enter Tryz.func71, Tryz.ntmps71
 go_wp2
 go_loopw [7, 8, 9, 17] (fun _ _ _ v17 wr => ∃ j : Nat, v17 = .int .i64 j ∧ j ≤ n ∧ Below w.heap.size w wr) (fun _ _ _ v17 _ => n - (intOf v17).toNat)
 case atStart => exact ⟨0, rfl, Nat.zero_le _, Below.refl _ _⟩
 case round =>
  obtain ⟨j, rfl, hj, hB⟩ := hrel
  by_cases hlt : j < n
  ·have hlt' : (j : Int) < (n : Int) := by omega
   obtain ⟨b, off, A1, n1, c1, x1, hA, hb, hc0, hk, hw⟩ := (HX.out.below hB rr).at_ hlt
   obtain ⟨b', off', A2, n2, c2, x2, hA', hb', hc0', hk', hw'⟩ := (HY.out.below hB rr).at_ hlt
   obtain rfl : x1 = x2 := Option.some.inj (hk.symm.trans hk')
   have HW := hI hw; have HW' := hI hw'
   clear hk hk' hw hw'
   subst hA hA'
   go_wp2_with fail
   refine (again2_c A1 n1 c1 x1 A2 n2 c2 x1 wr HW.out HW'.out).mono ?_
   rw [decide_eq_true rfl]
   rintro e w1 ⟨rfl, hb1⟩
   have hB1 := hB.trans (hb1.mono hB.size)
   clear hb1
   go_wp2
   go_roundw
   case rel => exact ⟨j + 1, by go_num, by omega, hB1⟩
   case measure => simp [intOf]; omega
  ·obtain rfl : j = n := by omega
   go_wp2
   go_ret
   exact ⟨rfl, hB⟩
theorem has_word {F : Nat} (hE : Enters Tryz.prog F) (hF : ∀ (A : Option Addr) (n c : Nat) (xs : List Snd) (b : Nat) (Av : Option Addr) (nv cv : Nat) (v : List Snd) (w : World), IsWord w A n c xs → w.cell? ⟨b, 0, none⟩ = some (.slice Av nv cv) → IsWord w Av nv cv v →
   Calls Tryz.prog F #[.slice A n c, .pointer (some ⟨b, 0, none⟩)] w fun e w' => e = .returned (.bool (decide (xs = v))) ∧ Below w.heap.size w w')
  (A : Option Addr) (n c : Nat) (xss : List (List Snd)) (b : Nat) (Av : Option Addr) (nv cv : Nat) (v : List Snd) (w : World) (hx : IsWords w A n c xss) (hb : b < w.heap.size) (hc : w.cell? ⟨b, 0, none⟩ = some (.slice Av nv cv)) (hv : IsWord w Av nv cv v) (hm : v ∈ xss) :
  Calls Tryz.prog 56 #[.slice A n c, .func (.func F) #[] #[.pointer (some ⟨b, 0, none⟩)]] w fun e w' => e = .returned (.bool true) ∧ Below w.heap.size w w' := by
 obtain ⟨ps, hpw, hcs, hpp⟩ := hx
 refine (anyWd_c A n c ps F #[.pointer (some ⟨b, 0, none⟩)] (fun p => decide (p.word = v)) w hcs.recs hE (fun W hB p hp => ?_)).mono ?_
 ·exact hF p.1 p.2.1 p.2.2.1 p.word b Av nv cv v W ((hpp p hp).below hB rr) ((hB.cell (p := ⟨b, 0, none⟩) hb).trans hc) (hv.below hB rr)
 ·rintro e w' ⟨rfl, hb'⟩
  refine ⟨?_, hb'⟩
  rw [← hpw] at hm
  obtain ⟨p, hp, hpv⟩ := List.mem_map.1 hm
  rw [List.any_eq_true.2 ⟨p, hp, by simpa using hpv⟩]
theorem derive_errs {ls : List LawD} {ws : List Snd} (h : lawsE ls = 0) (hw : wcheck ws = 0) : (deriveM ls ws).1 = 0 ∨ (deriveM ls ws).1 = 11 := by
 rw [derive_ok h hw]
 split
 ·exact .inr rfl
 ·exact .inl rfl
theorem wrong_zero {ls : List LawD} {w ss : List Snd} (h1 : lawsE ls = 0) (h2 : wcheck w = 0) (h3 : refusedM ss = 0) : wrongM ls w ss = 0 := by
 unfold wrongM
 rw [if_neg (by simpa using h1), if_neg (by simpa using h2)]; exact h3
theorem word_short {A : Option Addr} {n c : Nat} {w : World} {x : List Snd} (h : IsWord w A n c x) (hx : wcheck x = 0) : n ≤ 32 := by
 rw [← h.len]; exact (wcheck_iff.1 hx).1
end Go.Proofs.YtlgliddhideflaaGreatDoor
namespace Go.Proofs.YtlgliddhideflaaGreatDoor
open Go.RowKit Go.Shelf
attribute [local go_sem] Oper.semAt_some
structure CntW (bn lr : Nat) (rc : LoopState → Option Code → Loop) (W1 : World) (i : Nat) (T : Nat → Prop) (st : LoopState) (W : World) : Prop where
 tw : T = fun b => b = bn ∨ b = lr
 lt : bn < W1.heap.size ∧ lr < W1.heap.size ∧ bn ≠ lr
 cn : W.heap[bn]? = some (.cells #[.int .i64 i] 3 (0, 0))
 kp : Keep (fun b => b = bn ∨ b = lr) W1 W
 lp : W.heap[lr]? = some (.loop (rc st none))
section
variable {bn lr : Nat} {rc : LoopState → Option Code → Loop} {W1 : World} {i : Nat} {T : Nat → Prop} {st : LoopState} {W W' : World}
theorem CntW.keep (h : CntW bn lr rc W1 i T st W) (hk : Keep (fun b => W1.heap.size ≤ b ∧ ¬ T b) W W') : CntW bn lr rc W1 i T st W' := by
 obtain ⟨h1, h2, h3, h4, h5⟩ := h
 have ho : ∀ b, b < W1.heap.size → W'.heap[b]? = W.heap[b]? := fun b hb => hk.block b (by have := h4.size; omega) (fun h => by omega)
 exact ⟨h1, h2, (ho _ h2.1).trans h3, ((h4.mono (S' := fun b => (b = bn ∨ b = lr) ∨ W1.heap.size ≤ b) fun _ e => .inl e).trans (hk.mono fun _ e => .inr e.1)).old fun b hb e => e.resolve_right (by omega), (ho _ h2.2.1).trans h5⟩
theorem CntW.put (h : CntW bn lr rc W1 i T st W) (st' : LoopState) : CntW bn lr rc W1 i T st' (W.putObj lr (.loop (rc st' none))) := by
 obtain ⟨h1, h2, h3, h4, h5⟩ := h
 exact ⟨h1, h2, (World.putObj_heap_other h2.2.2).trans h3, h4.putObj (by simp) _, World.putObj_heap_same (lt_of_block h5)⟩
theorem CntW.set (h : CntW bn lr rc W1 i T st W) (j : Nat) : CntW bn lr rc W1 j T st (W.setCell ⟨bn, 0, none⟩ (.int .i64 j)) := by
 obtain ⟨h1, h2, h3, h4, h5⟩ := h
 exact ⟨h1, h2, one_setCell h3, h4.setCell (p := ⟨bn, 0, none⟩) (by simp) _, (Below.heap_setCell _ _ _ _ (by simpa using h2.2.2.symm)).trans h5⟩
theorem CntW.lts (h : CntW bn lr rc W1 i T st W) : ∀ b, T b → b < W.heap.size := by
 intro b hb
 rw [h.tw] at hb
 rcases hb with rfl | rfl
 ·exact lt_of_block h.cn
 ·exact lt_of_block h.lp
theorem CntW.nds (h : CntW bn lr rc W1 i T st W) : ∀ b, T b → ∀ x, W.heap[b]? ≠ some (.deferred x) := by
 intro b hb x e
 rw [h.tw] at hb
 rcases hb with rfl | rfl
 ·rw [h.cn] at e; cases e
 ·rw [h.lp] at e; cases e
end
theorem invCount_c (A : Option Addr) (n c : Nat) (xs : List LawR) (Aw : Option Addr) (nw cw : Nat) (ws : List Snd) (As : Option Addr) (ns cs : Nat) (ss : List Snd) (w : World) (hx : IsLaws w A n c xs) (hw : IsWord w Aw nw cw ws) (hs : IsWord w As ns cs ss) (hT : TabOK w) (hnw : nw ≤ 4096) :
  Calls Tryz.prog 64 #[.slice A n c, .slice Aw nw cw, .slice As ns cs] w fun e w' => e = .returned (.tuple #[.int .i64 (countM (lawsD xs) ws ss).2, .int .i64 (countM (lawsD xs) ws ss).1]) ∧ Below w.heap.size w w' := by
 have HX := hI hx; have HW := hI hw; have HS := hI hs; have HT := hI hT
 clear hx hw hs hT
 refine (callsIn_wide (n := 9)).1 (callsIn_of_wp_marks Tryz.func64 rfl trivial ?_ rfl)
 simp only [Tryz.ntmps64, List.size_toArray, List.length_cons, List.length_nil, Nat.reduceAdd, Nat.reduceSub, Array.replicate_succ, Array.replicate_zero, List.push_toArray, List.append_toArray, List.nil_append, List.cons_append]
 gi_wp2
 refine ⟨trivial, ?_⟩
 refine (callsIn_wide.2 (wrong_c A n c xs Aw nw cw ws As ns cs ss w HX.out HW.out HS.out)).mono ?_
 rintro e w1 ⟨rfl, hb1⟩
 have HB1 := hI hb1; clear hb1
 obtain ⟨er, her⟩ : ∃ er, er = wrongM (lawsD xs) ws ss := ⟨_, rfl⟩
 rw [← her]
 have HER := hI her; clear her
 by_cases h0 : er = 0
 case neg =>
  have h1 : (er != 0) = true := by simpa using h0
  have HM : Hid (countM (lawsD xs) ws ss = (er, 0)) := by show countM _ _ _ = _; unfold countM; rw [← HER.out, if_pos h0]
  clear h0
  gi_wp2
  exact post_tmp2 (B := w.heap.size) Tryz.results64 _ _ rfl rfl trivial fun w' hw' => ⟨by rw [HM.out]; rfl, HB1.out.trans (hw'.below.mono (by have := HB1.out.size; omega))⟩
 have h1 : (er != 0) = false := by simpa using h0
 have HRF : Hid (refusedM ss = 0) := (wrong_none (by rw [← HER.out]; exact h0)).2.2
 have HM : Hid (countM (lawsD xs) ws ss = (0, ((beforeM (lawsD xs) ws ss).length : Int))) := by show countM _ _ _ = _; unfold countM; rw [← HER.out, if_neg (by simpa using h0)]
 clear h0
 gi_wp2
 refine ⟨trivial, ?_⟩
 have gA : (w1.alloc (.cells #[.int .i64 0] 3)).heap[w1.heap.size]? = some (.cells #[.int .i64 0] 3 (0, 0)) := hpt
 have gB : Below w.heap.size w (w1.alloc (.cells #[.int .i64 0] 3)) := HB1.out.alloc HB1.out.size _
 have hw1 := HB1.out.size
 generalize (w1.alloc (.cells #[.int .i64 0] 3)) = WA at *
 have hbA := lt_of_block gA
 have GA := hI gA; have GB := hI gB
 clear gA gB
 refine (callsIn_wide.2 (sources_c A n c Aw nw cw As ns cs WA)).mono ?_
 rintro e w2 ⟨bs, bl, bw, rfl, k1, k2, k3, hlb1, hlb2, hlb3, hb2⟩
 have K1 := hI k1; have K2 := hI k2; have K3 := hI k3; have HB2 := hI hb2
 clear k1 k2 k3 hb2
 gi_wp2
 refine wide_range (gf := 180) (lb := #[.pointer (some ⟨bs, 0, none⟩), .pointer (some ⟨bl, 0, none⟩), .pointer (some ⟨bw, 0, none⟩)]) rfl (enters_of Tryz.func180 (by kernel_rfl) rfl) fun fn D l rc W1 hrc hD hl hK2 hD1 hl1 hs2 => ?_
 have HRC := hI hrc; clear hrc
 have hDw : w2.heap.size ≤ D := by omega
 have hDl : D < l := by omega
 clear hs2 hD hl
 have HKW := hI hK2; have HD1 := hI hD1; have HL1 := hI hl1
 clear hK2 hD1 hl1
 have hz2 := HB2.out.size
 have q1 := (HKW.out.block _ (lt_of_block K1.out) (by simp)).trans K1.out
 have q2 := (HKW.out.block _ (lt_of_block K2.out) (by simp)).trans K2.out
 have q3 := (HKW.out.block _ (lt_of_block K3.out) (by simp)).trans K3.out
 have q4 := (HKW.out.block w1.heap.size (by omega) (by simp)).trans ((HB2.out.block _ hbA).trans GA.out)
 have hl1' := lt_of_block q1
 have hl2' := lt_of_block q2
 have hl3' := lt_of_block q3
 have hk1 := lt_of_block K1.out
 have hk2 := lt_of_block K2.out
 have hk3 := lt_of_block K3.out
 have hlW := lt_of_block HL1.out
 have Q1 := hI q1; have Q2 := hI q2; have Q3 := hI q3; have Q4 := hI q4
 clear q1 q2 q3 q4
 have HBW : Hid (Below w.heap.size w W1) := (GB.out.trans (HB2.out.mono GB.out.size)).trans ((HKW.out.to_below (B := w.heap.size) (fun b hb => hb.elim) (by have := GB.out.size; omega)))
 refine (sources1_iter (9 - 1) l bs bl bw (by omega) A n c xs Aw nw cw ws As ns cs ss W1 (fun i T X => CntW (w1.heap.size) l rc W1 i T .ready X) (fun _ _ => False) (fun b => b = w1.heap.size ∨ b = l) W1.heap.size ?hu ⟨rfl, ⟨by omega, hlW, by omega⟩, Q4.out, Keep.refl _ _, HL1.out⟩ HRF.out hnw).mono ?_
 case hu =>
  refine ⟨fun i T X h => h.kp.size, fun i T X h => h.lts, fun i T X X' h hk => h.keep hk, fun _ _ _ h => h.elim, ?hrd, fun i T X h => h.nds, fun _ _ h => h.elim, ?hy⟩
  case hrd =>
   intro i T X h
   have hX : Below w.heap.size w X := HBW.out.trans (h.kp.to_below (fun b hb => by have := HB1.out.size; have := HB2.out.size; omega) HBW.out.size)
   exact ⟨(h.kp.block bs hl1' (by omega)).trans Q1.out, (h.kp.block bl hl2' (by omega)).trans Q2.out, (h.kp.block bw hl3' (by omega)).trans Q3.out, HX.out.below hX rr, HW.out.below hX rr, HS.out.below hX rr, HT.out.below hX rr⟩
  case hy =>
   intro i T X A' k' c' x hxi hwd hfr hx
   have hib : i < (beforeM (lawsD xs) ws ss).length := (List.getElem?_eq_some_iff.1 hxi).1
   have hshort := before_short (ls := lawsD xs) (w := ws) (refused_none HRF.out).2.2 (refused_none HRF.out).1
   have hi : i ≤ 20000 := by omega
   clear hib hshort hxi hwd hfr
   refine wide_round HRC.out hx.lp rfl ?_
   have HC := hI hx; clear hx
   gi_wp2
   refine ⟨HC.out.lp, ?_⟩
   have pC := HC.out.put .busy
   have pK : Keep T X (X.putObj l (.loop (rc .busy none))) := (Keep.refl T X).putObj (by rw [HC.out.tw]; exact .inr rfl) _
   generalize X.putObj l (.loop (rc .busy none)) = V at *
   have c1 := cell_of_one pC.cn
   have f1 := free_of_one pC.cn
   have PC := hI pC; have PK := hI pK
   clear pC pK
   gi_wp2
   have hcast : ((i : Int) + 1) = ((i + 1 : Nat) : Int) := by omega
   rw [hcast]
   have hS := PC.out.set (i + 1)
   have hTw := PC.out.tw
   exact ⟨hS.lp, ((PK.out.setCell (p := ⟨w1.heap.size, 0, none⟩) (by rw [hTw]; exact .inl rfl) _).putObj (by rw [hTw]; exact .inr rfl) _), rfl, T, hS.put .ready, fun b h => .inl h⟩
 rintro e W' ⟨⟨v, rfl⟩, ⟨T, hj⟩ | ⟨_, hf⟩⟩
 ·refine .inl ⟨hj.lp, ?_⟩
  have xC := hj.put .exhausted
  generalize W'.putObj l (.loop (rc .exhausted none)) = X at *
  have c1 := cell_of_one xC.cn
  have XC := hI xC
  clear hj xC
  gi_wp2
  have hM : Marks w.heap.size X [mark D] := ⟨D, rfl, by have := HB1.out.size; omega, (XC.out.kp.block D (by omega) (by omega)).trans HD1.out, by simp, trivial⟩
  have hX : Below w.heap.size w X := HBW.out.trans (XC.out.kp.to_below (fun b hb => by have := HB1.out.size; have := HB2.out.size; omega) HBW.out.size)
  exact post_tmp2 (B := w.heap.size) Tryz.results64 _ _ rfl rfl hM fun w' hw' => ⟨by rw [HM.out]; rfl, hX.trans hw'.below⟩
 ·exact hf.elim
end Go.Proofs.YtlgliddhideflaaGreatDoor
namespace Go.Proofs.YtlgliddhideflaaGreatDoor
open Go.RowKit Go.Shelf
attribute [local go_sem] Oper.semAt_some
def reachM (ls : List LawD) (w ss : List Snd) : Int × Bool := if wrongM ls w ss ≠ 0 then (wrongM ls w ss, false) else (0, (beforeM ls w ss).length != 0)
theorem results_bool_errno {fn : Func} {p q : Tmp} (h : fn.results = #[.cell p 4, .cell q 37]) (tmps : Array Value) (w : World) (b1 b2 : Nat) (v : Bool) (x : Int) (hp : tmps.getD p undef = .pointer (some ⟨b1, 0, none⟩)) (hq : tmps.getD q undef = .pointer (some ⟨b2, 0, none⟩))
  (h1 : w.cell? ⟨b1, 0, none⟩ = some (.bool v)) (h2 : w.cell? ⟨b2, 0, none⟩ = some (.int .i64 x)) : (results fn tmps).run Tryz.prog w = .ok (.tuple #[.bool v, .int .i64 x]) w := by
 have hp' : tmps[p]?.getD undef = .pointer (some ⟨b1, 0, none⟩) := by simpa using hp
 have hq' : tmps[q]?.getD undef = .pointer (some ⟨b2, 0, none⟩) := by simpa using hq
 simp [results, h, hp', hq', asAddr, loadVar, go_sem, h1, h2]
theorem reached_c (A : Option Addr) (n c : Nat) (xs : List LawR) (Aw : Option Addr) (nw cw : Nat) (ws : List Snd) (As : Option Addr) (ns cs : Nat) (ss : List Snd) (w : World) (hx : IsLaws w A n c xs) (hw : IsWord w Aw nw cw ws) (hs : IsWord w As ns cs ss) (hT : TabOK w) (hnw : nw ≤ 4096) :
  Calls Tryz.prog 66 #[.slice A n c, .slice Aw nw cw, .slice As ns cs] w fun e w' => e = .returned (.tuple #[.bool (reachM (lawsD xs) ws ss).2, .int .i64 (reachM (lawsD xs) ws ss).1]) ∧ Below w.heap.size w w' := by
 have HX := hI hx; have HW := hI hw; have HS := hI hs; have HT := hI hT
 clear hx hw hs hT
 refine (callsIn_wide (n := 9)).1 (callsIn_of_wp_marks Tryz.func66 rfl trivial ?_ rfl)
 simp only [Tryz.ntmps66, List.size_toArray, List.length_cons, List.length_nil, Nat.reduceAdd, Nat.reduceSub, Array.replicate_succ, Array.replicate_zero, List.push_toArray, List.append_toArray, List.nil_append, List.cons_append]
 gi_wp2
 refine ⟨trivial, ?_⟩
 have k6 : ((w.alloc (.cells #[.bool false] 4)).alloc (.cells #[.int .i64 0] 37)).heap[w.heap.size]? = some (.cells #[.bool false] 4 (0, 0)) := hpt
 have k7 : ((w.alloc (.cells #[.bool false] 4)).alloc (.cells #[.int .i64 0] 37)).heap[w.heap.size + 1]? = some (.cells #[.int .i64 0] 37 (0, 0)) := hpt
 have kB : Below w.heap.size w ((w.alloc (.cells #[.bool false] 4)).alloc (.cells #[.int .i64 0] 37)) := bel
 generalize ((w.alloc (.cells #[.bool false] 4)).alloc (.cells #[.int .i64 0] 37)) = V0 at *
 refine (callsIn_wide.2 (wrong_c A n c xs Aw nw cw ws As ns cs ss V0 (HX.out.below kB rr) (HW.out.below kB rr) (HS.out.below kB rr))).mono ?_
 rintro e w1 ⟨rfl, hb1⟩
 have K6 := hI ((hb1.block _ (lt_of_block k6)).trans k6)
 have K7 := hI ((hb1.block _ (lt_of_block k7)).trans k7)
 have HB1 := hI (kB.trans (hb1.mono kB.size))
 clear k6 k7 kB hb1
 have l6 := lt_of_block K6.out
 have l7 := lt_of_block K7.out
 have c6 := cell_of_one K6.out
 have f6 := free_of_one K6.out
 have c7 := cell_of_one K7.out
 have f7 := free_of_one K7.out
 obtain ⟨er, her⟩ : ∃ er, er = wrongM (lawsD xs) ws ss := ⟨_, rfl⟩
 rw [← her]
 have HER := hI her; clear her
 by_cases h0 : er = 0
 case neg =>
  have h1 : (er != 0) = true := by simpa using h0
  have HM : Hid (reachM (lawsD xs) ws ss = (er, false)) := by show reachM _ _ _ = _; unfold reachM; rw [← HER.out, if_pos h0]
  clear h0
  gi_wp2
  have s6 : ((w1.setCell ⟨w.heap.size, 0, none⟩ (.bool false)).setCell ⟨w.heap.size + 1, 0, none⟩ (.int .i64 er)).heap[w.heap.size]? = some (.cells #[.bool false] 4 (0, 0)) := (Below.heap_setCell _ _ _ _ (by simp)).trans (one_setCell K6.out)
  have s7 : ((w1.setCell ⟨w.heap.size, 0, none⟩ (.bool false)).setCell ⟨w.heap.size + 1, 0, none⟩ (.int .i64 er)).heap[w.heap.size + 1]? = some (.cells #[.int .i64 er] 37 (0, 0)) := one_setCell ((Below.heap_setCell _ _ _ _ (by simp)).trans K7.out)
  have sB : Below w.heap.size w ((w1.setCell ⟨w.heap.size, 0, none⟩ (.bool false)).setCell ⟨w.heap.size + 1, 0, none⟩ (.int .i64 er)) := (HB1.out.setCell (p := ⟨w.heap.size, 0, none⟩) (by simp) _).setCell (p := ⟨w.heap.size + 1, 0, none⟩) (by simp) _
  refine post_ret (B := w.heap.size) (by exact trivial) fun w' hw' => ⟨_, results_bool_errno Tryz.results66 _ _ w.heap.size (w.heap.size + 1) false er rfl rfl (cell_of_one (hw'.row s6)) (cell_of_one (hw'.row s7)), by rw [HM.out], sB.trans hw'.below⟩
 have h1 : (er != 0) = false := by simpa using h0
 have HRF : Hid (refusedM ss = 0) := (wrong_none (by rw [← HER.out]; exact h0)).2.2
 have HM : Hid (reachM (lawsD xs) ws ss = (0, (beforeM (lawsD xs) ws ss).length != 0)) := by show reachM _ _ _ = _; unfold reachM; rw [← HER.out, if_neg (by simpa using h0)]
 clear h0 c6 f6 c7 f7
 gi_wp2
 refine ⟨trivial, ?_⟩
 have hw1 := HB1.out.size
 refine (callsIn_wide.2 (sources_c A n c Aw nw cw As ns cs w1)).mono ?_
 rintro e w2 ⟨bs, bl, bw, rfl, k1, k2, k3, hlb1, hlb2, hlb3, hb2⟩
 have K1 := hI k1; have K2 := hI k2; have K3 := hI k3; have HB2 := hI hb2
 clear k1 k2 k3 hb2
 gi_wp2
 refine wide_range (gf := 180) (lb := #[.pointer (some ⟨bs, 0, none⟩), .pointer (some ⟨bl, 0, none⟩), .pointer (some ⟨bw, 0, none⟩)]) rfl (enters_of Tryz.func180 (by kernel_rfl) rfl) fun fn D l rc W1 hrc hD hl hK2 hD1 hl1 hs2 => ?_
 have HRC := hI hrc; clear hrc
 have hDw : w2.heap.size ≤ D := by omega
 have hDl : D < l := by omega
 clear hs2 hD hl
 have HKW := hI hK2; have HD1 := hI hD1; have HL1 := hI hl1
 clear hK2 hD1 hl1
 have hz2 := HB2.out.size
 have q1 := (HKW.out.block _ (lt_of_block K1.out) (by simp)).trans K1.out
 have q2 := (HKW.out.block _ (lt_of_block K2.out) (by simp)).trans K2.out
 have q3 := (HKW.out.block _ (lt_of_block K3.out) (by simp)).trans K3.out
 have q6 := (HKW.out.block w.heap.size (by omega) (by simp)).trans ((HB2.out.block _ l6).trans K6.out)
 have q7 := (HKW.out.block (w.heap.size + 1) (by omega) (by simp)).trans ((HB2.out.block _ l7).trans K7.out)
 have hl1' := lt_of_block q1
 have hl2' := lt_of_block q2
 have hl3' := lt_of_block q3
 have hk1 := lt_of_block K1.out
 have hk2 := lt_of_block K2.out
 have hk3 := lt_of_block K3.out
 have hlW := lt_of_block HL1.out
 have Q1 := hI q1; have Q2 := hI q2; have Q3 := hI q3; have Q6 := hI q6; have Q7 := hI q7
 clear q1 q2 q3 q6 q7
 have HBW : Hid (Below w.heap.size w W1) := (HB1.out.trans (HB2.out.mono hw1)).trans ((HKW.out.to_below (B := w.heap.size) (fun b hb => hb.elim) (by omega)))
 obtain ⟨TT, hTT⟩ : ∃ TT : Nat → Prop, TT = fun b => b = w.heap.size ∨ b = w.heap.size + 1 ∨ b = l := ⟨_, rfl⟩
 have hTi : ∀ b, TT b ↔ b = w.heap.size ∨ b = w.heap.size + 1 ∨ b = l := fun b => by rw [hTT]
 clear hTT
 have HTT := hI hTi; clear hTi
 obtain ⟨J, hJ⟩ : ∃ J : Nat → (Nat → Prop) → World → Prop, J = fun i T X => i = 0 ∧ T = TT ∧ X.heap[w.heap.size]? = some (.cells #[.bool false] 4 (0, 0)) ∧ X.heap[w.heap.size + 1]? = some (.cells #[.int .i64 0] 37 (0, 0)) ∧ Keep TT W1 X ∧ X.heap[l]? = some (.loop (rc .ready none)) := ⟨_, rfl⟩
 have HJ := hI hJ; clear hJ
 obtain ⟨Jx, hJx⟩ : ∃ Jx : (Nat → Prop) → World → Prop, Jx = fun T X => 0 < (beforeM (lawsD xs) ws ss).length ∧ T = TT ∧ X.heap[w.heap.size]? = some (.cells #[.bool true] 4 (0, 0)) ∧ X.heap[w.heap.size + 1]? = some (.cells #[.int .i64 0] 37 (0, 0)) ∧ Keep TT W1 X ∧ X.heap[l]? = some (.loop (rc .done (some .ret))) := ⟨_, rfl⟩
 have HJx := hI hJx; clear hJx
 have HKP : Hid (∀ X X' : World, Keep TT W1 X → Keep (fun b => W1.heap.size ≤ b ∧ ¬ TT b) X X' → Keep TT W1 X' ∧ ∀ b, TT b → X'.heap[b]? = X.heap[b]?) := by
  intro X X' h hk
  have hs := h.size
  refine ⟨((h.mono (S' := fun k => TT k ∨ W1.heap.size ≤ k) fun _ e => .inl e).trans (hk.mono fun _ e => .inr e.1)).old fun k hlt e => e.resolve_right (by omega), fun b hb => hk.block b ?_ (fun e => e.2 hb)⟩
  rcases (HTT.out b).1 hb with e | e | e <;> omega
 refine (sources1_iter (9 - 1) l bs bl bw (by omega) A n c xs Aw nw cw ws As ns cs ss W1 J Jx TT W1.heap.size ?hu ?h0 HRF.out hnw).mono ?_
 case h0 =>
  rw [HJ.out]
  exact ⟨rfl, rfl, Q6.out, Q7.out, Keep.refl _ _, HL1.out⟩
 case hu =>
  have HRD : Hid (∀ X, Keep TT W1 X → X.heap[bs]? = some (.cells #[.slice As ns cs] 32 (0, 0)) ∧ X.heap[bl]? = some (.cells #[.slice A n c] 35 (0, 0)) ∧ X.heap[bw]? = some (.cells #[.slice Aw nw cw] 32 (0, 0)) ∧
    IsLaws X A n c xs ∧ IsWord X Aw nw cw ws ∧ IsWord X As ns cs ss ∧ TabOK X) := by
   intro X h
   have hX : Below w.heap.size w X := HBW.out.trans (h.to_below (B := w.heap.size) (fun b hb => by rcases (HTT.out b).1 hb with e | e | e <;> omega) HBW.out.size)
   have hno : ∀ b, w1.heap.size ≤ b → b < l → ¬ TT b := fun b h1 h2 h3 => by rcases (HTT.out b).1 h3 with e | e | e <;> omega
   exact ⟨(h.block bs hl1' (hno _ (by omega) (by omega))).trans Q1.out, (h.block bl hl2' (hno _ (by omega) (by omega))).trans Q2.out, (h.block bw hl3' (hno _ (by omega) (by omega))).trans Q3.out,
    HX.out.below hX rr, HW.out.below hX rr, HS.out.below hX rr, HT.out.below hX rr⟩
  have t6 := (HTT.out w.heap.size).2 (.inl rfl)
  have t7 := (HTT.out (w.heap.size + 1)).2 (.inr (.inl rfl))
  have tl := (HTT.out l).2 (.inr (.inr rfl))
  refine ⟨?hB, ?hlt, ?hst, ?hsx, ?hrd, ?hnd, ?hnx, ?hy⟩
  case hB =>
   intro i T X hx
   rw [HJ.out] at hx
   exact hx.2.2.2.2.1.size
  case hlt =>
   intro i T X hx b hb
   rw [HJ.out] at hx
   obtain ⟨rfl, rfl, h1, h2, h3, h4⟩ := hx
   have := h3.size
   rcases (HTT.out b).1 hb with e | e | e <;> omega
  case hst =>
   intro i T X X' hx hk
   rw [HJ.out] at hx ⊢
   obtain ⟨rfl, rfl, h1, h2, h3, h4⟩ := hx
   obtain ⟨g1, g2⟩ := HKP.out X X' h3 hk
   exact ⟨rfl, rfl, (g2 _ t6).trans h1, (g2 _ t7).trans h2, g1, (g2 _ tl).trans h4⟩
  case hsx =>
   intro T X X' hx hk
   rw [HJx.out] at hx ⊢
   obtain ⟨h0, rfl, h1, h2, h3, h4⟩ := hx
   obtain ⟨g1, g2⟩ := HKP.out X X' h3 hk
   exact ⟨h0, rfl, (g2 _ t6).trans h1, (g2 _ t7).trans h2, g1, (g2 _ tl).trans h4⟩
  case hrd =>
   intro i T X hx
   rw [HJ.out] at hx
   exact HRD.out X hx.2.2.2.2.1
  case hnd =>
   intro i T X hx b hb x e
   rw [HJ.out] at hx
   obtain ⟨rfl, rfl, h1, h2, h3, h4⟩ := hx
   rcases (HTT.out b).1 hb with rfl | rfl | rfl
   ·rw [h1] at e; cases e
   ·rw [h2] at e; cases e
   ·rw [h4] at e; cases e
  case hnx =>
   intro T X hx b hb x e
   rw [HJx.out] at hx
   obtain ⟨h0, rfl, h1, h2, h3, h4⟩ := hx
   rcases (HTT.out b).1 hb with rfl | rfl | rfl
   ·rw [h1] at e; cases e
   ·rw [h2] at e; cases e
   ·rw [h4] at e; cases e
  case hy =>
   intro i T X A' k' c' x hxi hwd hfr hx
   rw [HJ.out] at hx
   obtain ⟨rfl, hTe, h1, h2, h3, h4⟩ := hx
   subst hTe
   have hpos : 0 < (beforeM (lawsD xs) ws ss).length := (List.getElem?_eq_some_iff.1 hxi).1
   refine wide_round HRC.out h4 rfl ?_
   have H1 := hI h1; have H2 := hI h2; have H3 := hI h3; have H4 := hI h4; have HPO := hI hpos
   clear hxi hwd hfr h1 h2 h3 h4 hpos
   gi_wp2
   refine ⟨H4.out, ?_⟩
   have v1 := (World.putObj_heap_other (w := X) (r := l) (o := .loop (rc .busy none)) (show w.heap.size ≠ l by omega)).trans H1.out
   have v2 := (World.putObj_heap_other (w := X) (r := l) (o := .loop (rc .busy none)) (show w.heap.size + 1 ≠ l by omega)).trans H2.out
   have vK : Keep T X (X.putObj l (.loop (rc .busy none))) := (Keep.refl T X).putObj tl _
   have v4 : (X.putObj l (.loop (rc .busy none))).heap[l]? = some (.loop (rc .busy none)) := World.putObj_heap_same (lt_of_block H4.out)
   generalize X.putObj l (.loop (rc .busy none)) = V at *
   have c6 := cell_of_one v1
   have f6 := free_of_one v1
   have c7 := cell_of_one v2
   have f7 := free_of_one v2
   have V1 := hI v1; have V2 := hI v2; have V4 := hI v4; have VK := hI vK
   clear v1 v2 v4 vK
   gi_wp2
   have y6 : ((V.setCell ⟨w.heap.size, 0, none⟩ (.bool true)).setCell ⟨w.heap.size + 1, 0, none⟩ (.int .i64 0)).heap[w.heap.size]? = some (.cells #[.bool true] 4 (0, 0)) := (Below.heap_setCell _ _ _ _ (by simp)).trans (one_setCell V1.out)
   have y7 : ((V.setCell ⟨w.heap.size, 0, none⟩ (.bool true)).setCell ⟨w.heap.size + 1, 0, none⟩ (.int .i64 0)).heap[w.heap.size + 1]? = some (.cells #[.int .i64 0] 37 (0, 0)) := one_setCell ((Below.heap_setCell _ _ _ _ (by simp)).trans V2.out)
   have yl : ((V.setCell ⟨w.heap.size, 0, none⟩ (.bool true)).setCell ⟨w.heap.size + 1, 0, none⟩ (.int .i64 0)).heap[l]? = some (.loop (rc .busy none)) := (Below.heap_setCell _ _ _ _ (by simp; omega)).trans ((Below.heap_setCell _ _ _ _ (by simp; omega)).trans V4.out)
   have yK := ((VK.out.setCell (p := ⟨w.heap.size, 0, none⟩) t6 (.bool true)).setCell (p := ⟨w.heap.size + 1, 0, none⟩) t7 (.int .i64 0))
   refine ⟨yl, yK.putObj tl _, .inr ⟨rfl, _, ?_, fun b h => .inl h⟩⟩
   rw [HJx.out]
   exact ⟨HPO.out, rfl, (World.putObj_heap_other (by omega)).trans y6, (World.putObj_heap_other (by omega)).trans y7, (H3.out.trans yK).putObj tl _, World.putObj_heap_same (lt_of_block yl)⟩
 have hBX : ∀ X, Keep TT W1 X → Below w.heap.size w X := fun X h => HBW.out.trans (h.to_below (B := w.heap.size) (fun b hb => by rcases (HTT.out b).1 hb with e | e | e <;> omega) HBW.out.size)
 have HBX := hI hBX; clear hBX
 have hnD : ¬ TT D := fun h => by rcases (HTT.out D).1 h with e | e | e <;> omega
 have tl := (HTT.out l).2 (.inr (.inr rfl))
 rintro e W' ⟨⟨v, rfl⟩, ⟨T, hj⟩ | ⟨T, hx⟩⟩
 ·rw [HJ.out] at hj
  obtain ⟨hlen, hTe, h1, h2, h3, h4⟩ := hj
  subst hTe
  refine .inl ⟨h4, ?_⟩
  have x1 := (World.putObj_heap_other (w := W') (r := l) (o := .loop (rc .exhausted none)) (show w.heap.size ≠ l by omega)).trans h1
  have x2 := (World.putObj_heap_other (w := W') (r := l) (o := .loop (rc .exhausted none)) (show w.heap.size + 1 ≠ l by omega)).trans h2
  have xK := h3.putObj tl (.loop (rc .exhausted none))
  have HM2 : Hid (reachM (lawsD xs) ws ss = (0, false)) := by show _ = _; rw [HM.out, hlen]; rfl
  generalize W'.putObj l (.loop (rc .exhausted none)) = X at *
  have c6 := cell_of_one x1
  have f6 := free_of_one x1
  have c7 := cell_of_one x2
  have f7 := free_of_one x2
  have X1 := hI x1; have X2 := hI x2; have XK := hI xK
  clear x1 x2 xK h1 h2 h3 h4 hlen
  gi_wp2
  have s6 : ((X.setCell ⟨w.heap.size, 0, none⟩ (.bool false)).setCell ⟨w.heap.size + 1, 0, none⟩ (.int .i64 0)).heap[w.heap.size]? = some (.cells #[.bool false] 4 (0, 0)) := (Below.heap_setCell _ _ _ _ (by simp)).trans (one_setCell X1.out)
  have s7 : ((X.setCell ⟨w.heap.size, 0, none⟩ (.bool false)).setCell ⟨w.heap.size + 1, 0, none⟩ (.int .i64 0)).heap[w.heap.size + 1]? = some (.cells #[.int .i64 0] 37 (0, 0)) := one_setCell ((Below.heap_setCell _ _ _ _ (by simp)).trans X2.out)
  have sK := (XK.out.setCell (p := ⟨w.heap.size, 0, none⟩) ((HTT.out _).2 (.inl rfl)) (.bool false)).setCell (p := ⟨w.heap.size + 1, 0, none⟩) ((HTT.out _).2 (.inr (.inl rfl))) (.int .i64 0)
  have hM : Marks w.heap.size ((X.setCell ⟨w.heap.size, 0, none⟩ (.bool false)).setCell ⟨w.heap.size + 1, 0, none⟩ (.int .i64 0)) [mark D] := ⟨D, rfl, by omega, (sK.block D (by omega) hnD).trans HD1.out, by simp, trivial⟩
  exact post_ret (B := w.heap.size) hM fun w' hw' => ⟨_, results_bool_errno Tryz.results66 _ _ w.heap.size (w.heap.size + 1) false 0 rfl rfl (cell_of_one (hw'.row s6)) (cell_of_one (hw'.row s7)), by rw [HM2.out], (HBX.out _ sK).trans hw'.below⟩
 ·rw [HJx.out] at hx
  obtain ⟨hpos, hTe, h1, h2, h3, h4⟩ := hx
  subst hTe
  refine .inr ⟨.ret, h4, ?_⟩
  have x1 := (World.putObj_heap_other (w := W') (r := l) (o := .loop (rc .exhausted (some .ret))) (show w.heap.size ≠ l by omega)).trans h1
  have x2 := (World.putObj_heap_other (w := W') (r := l) (o := .loop (rc .exhausted (some .ret))) (show w.heap.size + 1 ≠ l by omega)).trans h2
  have xK := h3.putObj tl (.loop (rc .exhausted (some .ret)))
  have HM2 : Hid (reachM (lawsD xs) ws ss = (0, true)) := by show _ = _; rw [HM.out, show ((beforeM (lawsD xs) ws ss).length != 0) = true from bne_iff_ne.2 (by omega)]
  generalize W'.putObj l (.loop (rc .exhausted (some .ret))) = X at *
  have X1 := hI x1; have X2 := hI x2; have XK := hI xK
  clear x1 x2 xK h1 h2 h3 h4 hpos
  gi_wp2
  have hM : Marks w.heap.size X [mark D] := ⟨D, rfl, by omega, (XK.out.block D (by omega) hnD).trans HD1.out, by simp, trivial⟩
  exact post_ret (B := w.heap.size) hM fun w' hw' => ⟨_, results_bool_errno Tryz.results66 _ _ w.heap.size (w.heap.size + 1) true 0 rfl rfl (cell_of_one (hw'.row X1.out)) (cell_of_one (hw'.row X2.out)), by rw [HM2.out], (HBX.out _ XK.out).trans hw'.below⟩
end Go.Proofs.YtlgliddhideflaaGreatDoor
