/-
  A drawn region whose first operations lay memory in any order; the others wait for all of them.
-/
import Derived.Test.YtlgliddhideflaaGreatDoorXAnyI
set_option linter.all false
set_option maxRecDepth 100000
set_option maxHeartbeats 4000000
namespace Go.Proofs.YtlgliddhideflaaGreatDoor
open Go.RowKit Go.Shelf
section
variable {P : Program} {ops : Array Oper} {Q : Exit → Act → World → Prop} {md : Region.Mode}
structure AnyInvJ (md : Region.Mode) (ops : Array Oper) (Φ : Nat → Value → World → Prop) (nb : Nat → Value → Option Nat) (m : Nat) (a0 : Act) (w0 : World) (vs : Nat → Value) (listed : Array Bool) (a : Act) (w : World) : Prop where
 inv : AnyInv ops Φ a0 w0 vs listed a w
 fr : ∀ i b, listed.getD i false = true → nb i (vs i) = some b → w0.heap.size ≤ b ∧ b < w.heap.size
 dj : ∀ i j b, listed.getD i false = true → listed.getD j false = true → i ≠ j → nb i (vs i) = some b → nb j (vs j) ≠ some b
 cl : ∀ (i : Nat) (o : Oper), listed.getD i false = true → ops[i]? = some o → ∀ e ∈ o.after, Region.binds md e = true → listed.getD e.on false = true
 lo : ∀ i, listed.getD i false = true → i < m
def depB (md : Region.Mode) (ops : Array Oper) : Nat → Nat → Nat → Bool
 | 0, _, _ => false
 | f + 1, i, j => match ops[i]? with
  | none => false
  | some o => o.after.any fun e => Region.binds md e && (e.on == j || depB md ops f e.on j)
theorem depB_listed {listed : Array Bool} (hcl : ∀ (i : Nat) (o : Oper), listed.getD i false = true → ops[i]? = some o → ∀ e ∈ o.after, Region.binds md e = true → listed.getD e.on false = true) :
  ∀ f i j, depB md ops f i j = true → (∀ o, ops[i]? = some o → ∀ e ∈ o.after, Region.binds md e = true → listed.getD e.on false = true) → listed.getD j false = true
 | 0, _, _, h, _ => by cases h
 | f + 1, i, j, h, hi => by
  unfold depB at h
  cases ho : ops[i]? with
  | none => rw [ho] at h; cases h
  | some o =>
   rw [ho] at h
   obtain ⟨e, he, h1⟩ := Array.any_eq_true'.1 h
   rw [Bool.and_eq_true, Bool.or_eq_true] at h1
   have hl := hi o ho e he h1.1
   rcases h1.2 with h2 | h2
   ·have : e.on = j := by simpa using h2
    rw [← this]; exact hl
   ·exact depB_listed hcl f e.on j h2 fun o' ho' e' he' hb => hcl e.on o' hl ho' e' he' hb
def marks (m n : Nat) : Array Bool := ((List.range n).map fun i => decide (i < m)).toArray
theorem marks_getD (m n i : Nat) (h : i < n) : (marks m n).getD i false = decide (i < m) := by
 unfold marks
 simp [Array.getD_eq_getD_getElem?, h]
theorem marks_size (m n : Nat) : (marks m n).size = n := by simp [marks]
def waitOk (md : Region.Mode) (ops : Array Oper) (m : Nat) : Bool := (List.range ops.size).all fun i => decide (i < m) || (List.range m).all fun j => depB md ops ops.size i j
theorem any_invJ (Φ : Nat → Value → World → Prop) (nb : Nat → Value → Option Nat) (m : Nat) (hm : m < ops.size) (a0 : Act) (w0 : World)
  (hmono : ∀ j v w w', Φ j v w → Below w.heap.size w w' → Φ j v w')
  (hd : ∀ i j s, dstOf ops i = some s → dstOf ops j = some s → i = j)
  (hg : ∀ (i : Nat) (o : Oper), ops[i]? = some o → o.guard = none)
  (hac : ∀ (i : Nat) (o : Oper), ops[i]? = some o → ∀ e ∈ o.after, Region.binds md e = true → e.on < i)
  (hwt : waitOk md ops m = true)
  (H : ∀ (i : Nat) (o : Oper), i < m → ops[i]? = some o → ∀ a w, AnyHas md ops Φ a0 o a w → Below w0.heap.size w0 w → o.wp P a w (fun a' w' => ∃ v, a' = a.put o.dst v ∧ Φ i v w' ∧ Below w.heap.size w w' ∧ ∀ b, nb i v = some b → w.heap.size ≤ b ∧ b < w'.heap.size) Q)
  (hQ : ∀ vs a' w', (∀ i, i < m → Φ i (vs i) w') → (∀ i b, i < m → nb i (vs i) = some b → w0.heap.size ≤ b ∧ b < w'.heap.size) → (∀ i j b, i < m → j < m → i ≠ j → nb i (vs i) = some b → nb j (vs j) ≠ some b) → Below w0.heap.size w0 w' →
   a' = { a0 with tmps := putAll ops vs m a0.tmps } → wpAny P md ops Q (ops.size - m) (marks m ops.size) a' w') :
  ∀ fuel vs listed a w, AnyInvJ md ops Φ nb m a0 w0 vs listed a w → cntB (fun i => listed.getD i false) ops.size + fuel = ops.size → wpAny P md ops Q fuel listed a w := by
 -- all of the first ones are listed: the rest
 have hend : ∀ fuel vs listed a w, AnyInvJ md ops Φ nb m a0 w0 vs listed a w → cntB (fun i => listed.getD i false) ops.size + fuel = ops.size → (∀ i, i < m → listed.getD i false = true) → wpAny P md ops Q fuel listed a w := by
  intro fuel vs listed a w hI hc hall
  have hmk : listed = marks m ops.size := by
   apply Array.ext
   ·rw [hI.inv.ls, marks_size]
   ·intro i h1 h2
    have hi : i < ops.size := by rw [← hI.inv.ls]; exact h1
    have e1 : listed.getD i false = listed[i] := by simp [Array.getD_eq_getD_getElem?, h1]
    have e2 : (marks m ops.size).getD i false = (marks m ops.size)[i] := by simp [Array.getD_eq_getD_getElem?, h2]
    rw [← e1, ← e2, marks_getD m _ i hi]
    by_cases him : i < m
    ·rw [hall i him, decide_eq_true him]
    ·rw [decide_eq_false him]
     cases hb : listed.getD i false with
     | false => rfl
     | true => exact absurd (hI.lo i hb) him
  have hcnt : cntB (fun i => listed.getD i false) ops.size = m := by
   have key : ∀ n, n ≤ ops.size → cntB (fun i => listed.getD i false) n = min n m := by
    intro n
    induction n with
    | zero => intro _; simp [cntB]
    | succ n ih =>
     intro hn
     unfold cntB
     rw [ih (by omega)]
     by_cases hnm : n < m
     ·rw [if_pos (hall n hnm)]; omega
     ·rw [if_neg (fun h => hnm (hI.lo n h))]; omega
   rw [key _ rr]; omega
  have hf : fuel = ops.size - m := by omega
  have ha : a = { a0 with tmps := putAll ops vs m a0.tmps } := by
   obtain ⟨t, df⟩ := a
   have h1 : df = a0.defers := hI.inv.df
   have h2 : t = putAll ops vs m a0.tmps := by
    apply Array.ext_getElem?
    intro s
    by_cases hs : ∃ i, i < m ∧ dstOf ops i = some s
    ·obtain ⟨i, hi, his⟩ := hs
     rcases Nat.lt_or_ge s a0.tmps.size with hlt | hge
     ·rw [putAll_at hd vs his _ _ hi hlt]
      exact hI.inv.at_ i s (hall i hi) his hlt
     ·have h3 : (putAll ops vs m a0.tmps)[s]? = none := Array.getElem?_eq_none (by rw [putAll_size]; exact hge)
      have h4 : t.size = a0.tmps.size := hI.inv.sz
      rw [h3, Array.getElem?_eq_none (by omega)]
    ·rw [putAll_other vs _ _ fun i hi e => hs ⟨i, hi, e⟩]
     exact hI.inv.other s fun i hl e => hs ⟨i, hI.lo i hl, e⟩
   rw [h1, h2]
  rw [hf, hmk]
  exact hQ vs a w (fun i hi => hI.inv.is i (hall i hi)) (fun i b hi hb => hI.fr i b (hall i hi) hb) (fun i j b hi hj hij hb => hI.dj i j b (hall i hi) (hall j hj) hij hb) hI.inv.bw ha
 -- one of the last ones is ready: all of the first ones are listed
 have hlast : ∀ vs listed a w, AnyInvJ md ops Φ nb m a0 w0 vs listed a w → ∀ i, m ≤ i → i ∈ Region.ready md ops listed → ∀ j, j < m → listed.getD j false = true := by
  intro vs listed a w hI i hi hr j hj
  obtain ⟨_, o, ho, hdep⟩ := mem_ready.1 hr
  have hlt : i < ops.size := (Array.getElem?_eq_some_iff.1 ho).1
  have h1 := List.all_eq_true.1 hwt i (List.mem_range.2 hlt)
  rw [Bool.or_eq_true] at h1
  rcases h1 with h1 | h1
  ·have : i < m := by simpa using h1
   omega
  ·refine depB_listed hI.cl _ i j (List.all_eq_true.1 h1 j (List.mem_range.2 hj)) fun o' ho' e he hb => ?_
   rw [ho] at ho'; cases ho'
   exact hdep e he hb
 -- nothing is ready: impossible
 have hready : ∀ listed : Array Bool, listed.size = ops.size → (∀ i, listed.getD i false = true → i < m) → Region.ready md ops listed ≠ [] := by
  intro listed hls hlo h0
  have hall : ∀ i, i < ops.size → listed.getD i false = true := by
   intro i
   induction i using Nat.strongRecOn with
   | _ i ih =>
    intro hi
    cases hb : listed.getD i false with
    | true => rfl
    | false =>
     exfalso
     have ho : ops[i]? = some ops[i] := Array.getElem?_eq_getElem hi
     have hm : i ∈ Region.ready md ops listed := mem_ready.2 ⟨by
      have hil : i < listed.size := by omega
      simp only [Array.getD_eq_getD_getElem?, Array.getElem?_eq_getElem hil, Option.getD_some] at hb ⊢
      exact hb, ops[i], ho, fun e he hbnd_ => by
       have h1 := hac i _ ho e he hbnd_
       exact ih e.on h1 (by omega)⟩
     rw [h0] at hm; cases hm
  have := hlo m (hall m hm)
  omega
 intro fuel
 induction fuel with
 | zero =>
  intro vs listed a w hI hc
  have hall := cntB_all ops.size (by omega : cntB (fun i => listed.getD i false) ops.size = ops.size)
  have := hI.lo m (hall m hm)
  omega
 | succ fuel ih =>
  intro vs listed a w hI hc
  by_cases hlst : ∃ i, m ≤ i ∧ i ∈ Region.ready md ops listed
  ·obtain ⟨i, hi, hr⟩ := hlst
   exact hend _ vs listed a w hI hc (hlast vs listed a w hI i hi hr)
  refine ⟨fun h0 => absurd h0 (hready listed hI.inv.ls hI.lo), fun i hi => ?_⟩
  have him : i < m := by
   rcases Nat.lt_or_ge i m with h | h
   ·exact h
   ·exact absurd ⟨i, h, hi⟩ hlst
  obtain ⟨h1, o, ho, hdep⟩ := mem_ready.1 hi
  have hlt : i < ops.size := (Array.getElem?_eq_some_iff.1 ho).1
  have hil : i < listed.size := by rw [hI.inv.ls]; exact hlt
  have hif : listed.getD i false = false := by
   simp only [Array.getD_eq_getD_getElem?, Array.getElem?_eq_getElem hil, Option.getD_some] at h1 ⊢
   exact h1
  have hw : Region.wanted o (yielded ops a.tmps) = true := by unfold Region.wanted; rw [hg i o ho]
  unfold wpOp
  rw [ho]
  simp only [hw, if_true]
  left
  refine Oper.wp_mono (fun a' w' h => ?_) (H i o him ho a w ⟨fun j ⟨e, he, hb, hej⟩ => ?_, fun s hs => hI.inv.other s fun j _ => hs j, hI.inv.sz⟩ hI.inv.bw)
  ·obtain ⟨v, rfl, hv, hb, hfr⟩ := h
   have hdi : dstOf ops i = o.dst := by unfold dstOf; rw [ho]; rfl
   have hne : ∀ j, j ≠ i → (listed.setIfInBounds i true).getD j false = listed.getD j false := fun j hj => getD_set_ne false (Ne.symm hj)
   have hor : ∀ j, (listed.setIfInBounds i true).getD j false = true → j = i ∨ (j ≠ i ∧ listed.getD j false = true) := fun j hj => by
    by_cases e : j = i
    ·exact .inl e
    ·exact .inr ⟨e, by rw [← hne j e]; exact hj⟩
   have hbw := hI.inv.bw.size
   refine ih (fun j => if j = i then v else vs j) _ _ _ ⟨⟨?_, ?_, by rw [Array.size_setIfInBounds]; exact hI.inv.ls, fun s hs => ?_, fun j s hj hjs hlt' => ?_, fun j hj => ?_, hI.inv.bw.trans (hb.mono hI.inv.bw.size)⟩, fun j b hj hjb => ?_, fun j k b hj hk hjk hjb hkb => ?_, fun j o' hj ho' e he hbd => ?_, fun j hj => ?_⟩ ?_
   ·unfold Act.put; split <;> exact hI.inv.df
   ·unfold Act.put; split
    ·show (a.tmps.setIfInBounds _ v).size = _; rw [Array.size_setIfInBounds]; exact hI.inv.sz
    ·exact hI.inv.sz
   ·have hsi : o.dst ≠ some s := by rw [← hdi]; exact hs i (getD_set_self hil false)
    have h2 := hI.inv.other s fun j hj => by
     by_cases e : j = i
     ·subst e; rw [hif] at hj; cases hj
     ·exact hs j (by rw [hne j e]; exact hj)
    unfold Act.put
    split
    ·rename_i d hdd
     have : d ≠ s := fun e => hsi (by rw [hdd, e])
     show (a.tmps.setIfInBounds d v)[s]? = _
     rw [Array.getElem?_setIfInBounds_ne this]; exact h2
    ·exact h2
   ·rcases hor j hj with e | ⟨e, hj⟩
    ·subst e
     rw [hdi] at hjs
     simp only [if_true]
     unfold Act.put
     rw [hjs]
     show (a.tmps.setIfInBounds s v)[s]? = some v
     rw [Array.getElem?_setIfInBounds_self_of_lt (by rw [hI.inv.sz]; exact hlt')]
    ·have h2 := hI.inv.at_ j s hj hjs hlt'
     simp only [if_neg e]
     unfold Act.put
     split
     ·rename_i d hdd
      have : d ≠ s := fun e' => e (hd j i s hjs (by rw [hdi, hdd, e']))
      show (a.tmps.setIfInBounds d v)[s]? = _
      rw [Array.getElem?_setIfInBounds_ne this]; exact h2
     ·exact h2
   ·rcases hor j hj with e | ⟨e, hj⟩
    ·subst e; simp only [if_true]; exact hv
    ·simp only [if_neg e]
     exact hmono j _ _ _ (hI.inv.is j hj) hb
   ·rcases hor j hj with e | ⟨e, hj⟩
    ·subst e
     simp only [if_true] at hjb
     have := hfr b hjb; omega
    ·simp only [if_neg e] at hjb
     have := hI.fr j b hj hjb; have := hb.size; omega
   ·rcases hor j hj with e | ⟨e, hj1⟩ <;> rcases hor k hk with e' | ⟨e', hk1⟩
    ·exact hjk (e.trans e'.symm)
    ·subst e
     simp only [if_true] at hjb
     simp only [if_neg e'] at hkb
     have := hfr b hjb; have := hI.fr k b hk1 hkb; omega
    ·subst e'
     simp only [if_true] at hkb
     simp only [if_neg e] at hjb
     have := hfr b hkb; have := hI.fr j b hj1 hjb; omega
    ·simp only [if_neg e] at hjb
     simp only [if_neg e'] at hkb
     exact hI.dj j k b hj1 hk1 hjk hjb hkb
   ·rcases hor j hj with e1 | ⟨e1, hj⟩
    ·subst e1
     rw [ho] at ho'; cases ho'
     have h2 := hdep e he hbd
     by_cases e2 : e.on = j
     ·rw [e2]; exact getD_set_self hil false
     ·rw [hne _ e2]; exact h2
    ·have h2 := hI.cl j o' hj ho' e he hbd
     by_cases e2 : e.on = i
     ·rw [e2]; exact getD_set_self hil false
     ·rw [hne _ e2]; exact h2
   ·rcases hor j hj with e | ⟨_, hj⟩
    ·rw [e]; exact him
    ·exact hI.lo j hj
   ·rw [cntB_set (p := fun j => listed.getD j false) hif (getD_set_self hil false) (fun j hj => hne j hj) ops.size hlt]
    omega
  ·have hl : listed.getD j false = true := by rw [← hej]; exact hdep e he hb
   exact ⟨vs j, hI.inv.is j hl, fun s hs hlt' => hI.inv.at_ j s hl hs hlt'⟩
theorem region_invJ {id : Nat} (hmx : P.follows .mixedOrders = true) (hok : anyOk ops = true) (Φ : Nat → Value → World → Prop) (nb : Nat → Value → Option Nat) (m : Nat) (hm : m < ops.size) (hwt : waitOk .any ops m = true) (a0 : Act) (w : World)
  (hmono : ∀ j v w w', Φ j v w → Below w.heap.size w w' → Φ j v w')
  (H : ∀ (i : Nat) (o : Oper), i < m → ops[i]? = some o → ∀ a w', AnyHas .any ops Φ a0 o a w' → Below w.heap.size w w' → o.wp P a w' (fun a' w'' => ∃ v, a' = a.put o.dst v ∧ Φ i v w'' ∧ Below w'.heap.size w' w'' ∧ ∀ b, nb i v = some b → w'.heap.size ≤ b ∧ b < w''.heap.size) Q)
  (hQ : ∀ vs a' w', (∀ i, i < m → Φ i (vs i) w') → (∀ i b, i < m → nb i (vs i) = some b → w.heap.size ≤ b ∧ b < w'.heap.size) → (∀ i j b, i < m → j < m → i ≠ j → nb i (vs i) = some b → nb j (vs j) ≠ some b) → Below w.heap.size w w' →
   a' = { a0 with tmps := putAll ops vs m a0.tmps } → wpAny P .any ops Q (ops.size - m) (marks m ops.size) a' w') : (Code.region id ops true).wp P Q a0 w := by
 obtain ⟨hd, hg, hac⟩ := anyOk_spec hok
 have hdr : Below w.heap.size w w.drew := (Below.refl _ _).drew
 have hno : ∀ i, ¬ (Array.replicate ops.size false).getD i false = true := fun i h => by
  simp only [Array.getD_eq_getD_getElem?, Array.getElem?_replicate] at h
  split at h <;> cases h
 refine wp_region_any hmx (any_invJ Φ nb m hm a0 w.drew hmono hd hg hac hwt (fun i o hi ho a w' ha hb => H i o hi ho a w' ha (hdr.trans hb)) (fun vs a' w' h h2 h3 hb => hQ vs a' w' h h2 h3 (hdr.trans hb)) ops.size (fun _ => undef) _ a0 w.drew
  ⟨⟨rfl, rfl, by simp, fun s _ => rfl, fun i s h => absurd h (hno i), fun i h => absurd h (hno i), Below.refl _ _⟩, fun i b h => absurd h (hno i), fun i j b h => absurd h (hno i), fun i o h => absurd h (hno i), fun i h => absurd h (hno i)⟩ (by rw [cntB_none]; omega))
end
end Go.Proofs.YtlgliddhideflaaGreatDoor
