/-
  A region whose operations come in any order, many of them laying memory: what each operation's value is, said of each alone, whatever has come before.
  As AnyI, for regions whose operations have guards that are all met.
  Operations one by one: what each comes to (for a region whose order is drawn).
-/
import Derived.Test.YtlgliddhideflaaGreatDoorG33
import Derived.Test.YtlgliddhideflaaGreatDoorH05
set_option linter.all false
set_option maxRecDepth 100000
set_option maxHeartbeats 4000000
namespace Go.Proofs.YtlgliddhideflaaGreatDoor
open Go.RowKit Go.Shelf
def cntB (p : Nat → Bool) : Nat → Nat
 | 0 => 0
 | n + 1 => cntB p n + (if p n = true then 1 else 0)
theorem cntB_same {p q : Nat → Bool} : ∀ n, (∀ j, j < n → q j = p j) → cntB q n = cntB p n
 | 0, _ => rfl
 | n + 1, h => by unfold cntB; rw [cntB_same n fun j hj => h j (by omega), h n (by omega)]
theorem cntB_set {p q : Nat → Bool} {i : Nat} (hp : p i = false) (hq : q i = true) (h : ∀ j, j ≠ i → q j = p j) : ∀ n, i < n → cntB q n = cntB p n + 1
 | 0, hi => by omega
 | n + 1, hi => by
  unfold cntB
  by_cases e : i = n
  ·subst e
   rw [cntB_same (p := p) i fun j hj => h j (by omega), hp, hq]; simp
  ·rw [cntB_set hp hq h n (by omega), h n (Ne.symm e)]; omega
theorem cntB_le (p : Nat → Bool) : ∀ n, cntB p n ≤ n
 | 0 => rr
 | n + 1 => by unfold cntB; have := cntB_le p n; split <;> omega
theorem cntB_all {p : Nat → Bool} : ∀ n, cntB p n = n → ∀ i, i < n → p i = true
 | 0, _, i, hi => by omega
 | n + 1, h, i, hi => by
  unfold cntB at h
  have h1 := cntB_le p n
  by_cases hn : p n = true
  ·rw [if_pos hn] at h
   rcases Nat.lt_or_ge i n with h2 | h2
   ·exact cntB_all n (by omega) i h2
   ·obtain rfl : i = n := by omega
    exact hn
  ·rw [if_neg hn] at h; omega
section
variable {P : Program} {ops : Array Oper} {Q : Exit → Act → World → Prop} {md : Region.Mode}
def dstOf (ops : Array Oper) (i : Nat) : Option Tmp := (ops[i]?).bind (·.dst)
def putAll (ops : Array Oper) (vs : Nat → Value) : Nat → Array Value → Array Value
 | 0, t => t
 | n + 1, t => match dstOf ops n with | some d => (putAll ops vs n t).setIfInBounds d (vs n) | none => putAll ops vs n t
theorem putAll_size (vs : Nat → Value) : ∀ (n : Nat) (t : Array Value), (putAll ops vs n t).size = t.size
 | 0, _ => rfl
 | n + 1, t => by
  unfold putAll
  split
  ·rw [Array.size_setIfInBounds, putAll_size vs n t]
  ·exact putAll_size vs n t
theorem putAll_other (vs : Nat → Value) {s : Nat} : ∀ (n : Nat) (t : Array Value), (∀ i, i < n → dstOf ops i ≠ some s) → (putAll ops vs n t)[s]? = t[s]?
 | 0, _, _ => rfl
 | n + 1, t, h => by
  unfold putAll
  have ih := putAll_other vs n t fun i hi => h i (by omega)
  split
  ·rename_i d hd
   have hne : d ≠ s := fun e => h n (by omega) (by rw [hd, e])
   rw [Array.getElem?_setIfInBounds_ne hne]; exact ih
  ·exact ih
theorem putAll_at (hd : ∀ i j s, dstOf ops i = some s → dstOf ops j = some s → i = j) (vs : Nat → Value) {i s : Nat} (hi : dstOf ops i = some s) : ∀ (n : Nat) (t : Array Value), i < n → s < t.size → (putAll ops vs n t)[s]? = some (vs i)
 | 0, _, h, _ => by omega
 | n + 1, t, h, hs => by
  unfold putAll
  by_cases e : i = n
  ·subst e
   rw [hi]
   show ((putAll ops vs i t).setIfInBounds s (vs i))[s]? = _
   rw [Array.getElem?_setIfInBounds_self_of_lt (by rw [putAll_size]; exact hs)]
  ·have ih := putAll_at hd vs hi n t (by omega) hs
   split
   ·rename_i d hdn
    have hne : d ≠ s := fun e' => e (hd i n s hi (by rw [hdn, e']))
    rw [Array.getElem?_setIfInBounds_ne hne]; exact ih
   ·exact ih
structure AnyInv (ops : Array Oper) (Φ : Nat → Value → World → Prop) (a0 : Act) (w0 : World) (vs : Nat → Value) (listed : Array Bool) (a : Act) (w : World) : Prop where
 df : a.defers = a0.defers
 sz : a.tmps.size = a0.tmps.size
 ls : listed.size = ops.size
 other : ∀ s, (∀ i, listed.getD i false = true → dstOf ops i ≠ some s) → a.tmps[s]? = a0.tmps[s]?
 at_ : ∀ i s, listed.getD i false = true → dstOf ops i = some s → s < a0.tmps.size → a.tmps[s]? = some (vs i)
 is : ∀ i, listed.getD i false = true → Φ i (vs i) w
 bw : Below w0.heap.size w0 w
def AnyHas (md : Region.Mode) (ops : Array Oper) (Φ : Nat → Value → World → Prop) (a0 : Act) (o : Oper) (a : Act) (w : World) : Prop :=
 (∀ j, (∃ e ∈ o.after, Region.binds md e = true ∧ e.on = j) → ∃ v, Φ j v w ∧ ∀ s, dstOf ops j = some s → s < a0.tmps.size → a.tmps[s]? = some v) ∧
 (∀ s, (∀ j, dstOf ops j ≠ some s) → a.tmps[s]? = a0.tmps[s]?) ∧ a.tmps.size = a0.tmps.size
theorem getD_set_self {listed : Array Bool} {i : Nat} (h : i < listed.size) (d : Bool) : (listed.setIfInBounds i true).getD i d = true := by
 simp [Array.getD_eq_getD_getElem?, h]
theorem cntB_none (n m : Nat) : cntB (fun i => (Array.replicate m false).getD i false) n = 0 := by
 induction n with
 | zero => rfl
 | succ n ih =>
  unfold cntB
  rw [ih]
  have : (Array.replicate m false).getD n false = false := by
   simp only [Array.getD_eq_getD_getElem?, Array.getElem?_replicate]
   split <;> rfl
  rw [this]; rfl
end
section
variable {P : Program} {ops : Array Oper} {Q : Exit → Act → World → Prop} {md : Region.Mode}
theorem any_invG (Φ : Nat → Value → World → Prop) (a0 : Act) (w0 : World)
  (hmono : ∀ j v w w', Φ j v w → Below w.heap.size w w' → Φ j v w')
  (hd : ∀ i j s, dstOf ops i = some s → dstOf ops j = some s → i = j)
  (hg : ∀ (i : Nat) (o : Oper), ops[i]? = some o → ∀ a w, AnyHas md ops Φ a0 o a w → Below w0.heap.size w0 w → Region.wanted o (yielded ops a.tmps) = true)
  (hac : ∀ (i : Nat) (o : Oper), ops[i]? = some o → ∀ e ∈ o.after, Region.binds md e = true → e.on < i)
  (H : ∀ (i : Nat) (o : Oper), ops[i]? = some o → ∀ a w, AnyHas md ops Φ a0 o a w → Below w0.heap.size w0 w → o.wp P a w (fun a' w' => ∃ v, a' = a.put o.dst v ∧ Φ i v w' ∧ Below w.heap.size w w') Q)
  (hQ : ∀ vs w', (∀ i, i < ops.size → Φ i (vs i) w') → Below w0.heap.size w0 w' → Q .normal { a0 with tmps := putAll ops vs ops.size a0.tmps } w') :
  ∀ fuel vs listed a w, AnyInv ops Φ a0 w0 vs listed a w → cntB (fun i => listed.getD i false) ops.size + fuel = ops.size → wpAny P md ops Q fuel listed a w := by
 -- all are listed: the end
 have hend : ∀ vs listed a w, AnyInv ops Φ a0 w0 vs listed a w → (∀ i, i < ops.size → listed.getD i false = true) → Q .normal a w := by
  intro vs listed a w hI hall
  have h := hQ vs w (fun i hi => hI.is i (hall i hi)) hI.bw
  have ha : a = { a0 with tmps := putAll ops vs ops.size a0.tmps } := by
   obtain ⟨t, df⟩ := a
   have h1 : df = a0.defers := hI.df
   have h2 : t = putAll ops vs ops.size a0.tmps := by
    apply Array.ext_getElem?
    intro s
    by_cases hs : ∃ i, i < ops.size ∧ dstOf ops i = some s
    ·obtain ⟨i, hi, his⟩ := hs
     rcases Nat.lt_or_ge s a0.tmps.size with hlt | hge
     ·rw [putAll_at hd vs his _ _ hi hlt]
      exact hI.at_ i s (hall i hi) his hlt
     ·have h3 : (putAll ops vs ops.size a0.tmps)[s]? = none := Array.getElem?_eq_none (by rw [putAll_size]; exact hge)
      have h4 : t.size = a0.tmps.size := hI.sz
      rw [h3, Array.getElem?_eq_none (by omega)]
    ·rw [putAll_other vs _ _ fun i hi e => hs ⟨i, hi, e⟩]
     refine hI.other s fun i hl e => hs ⟨i, ?_, e⟩
     rcases Nat.lt_or_ge i ops.size with hlt | hge
     ·exact hlt
     ·unfold dstOf at e; rw [Array.getElem?_eq_none hge] at e; cases e
   rw [h1, h2]
  rw [ha]; exact h
 -- nothing is ready: all are listed
 have hready : ∀ listed : Array Bool, listed.size = ops.size → Region.ready md ops listed = [] → ∀ i, i < ops.size → listed.getD i false = true := by
  intro listed hls h0 i
  induction i using Nat.strongRecOn with
  | _ i ih =>
   intro hi
   cases hb : listed.getD i false with
   | true => rfl
   | false =>
    exfalso
    have ho : ops[i]? = some ops[i] := Array.getElem?_eq_getElem hi
    have hm : i ∈ Region.ready md ops listed := mem_ready.2 ⟨by
     have hil : i < listed.size := by omega
     simp only [Array.getD_eq_getD_getElem?, Array.getElem?_eq_getElem hil, Option.getD_some] at hb ⊢
     exact hb, ops[i], ho, fun e he hbnd_ => by
      have h1 := hac i _ ho e he hbnd_
      exact ih e.on h1 (by omega)⟩
    rw [h0] at hm; cases hm
 intro fuel
 induction fuel with
 | zero =>
  intro vs listed a w hI hc
  have hall := cntB_all ops.size (by omega : cntB (fun i => listed.getD i false) ops.size = ops.size)
  refine ⟨?_, hend vs listed a w hI hall⟩
  apply List.eq_nil_iff_forall_not_mem.2
  intro i hi
  obtain ⟨h1, o, ho, _⟩ := mem_ready.1 hi
  have hlt : i < ops.size := (Array.getElem?_eq_some_iff.1 ho).1
  have h2 := hall i hlt
  have hil : i < listed.size := by rw [hI.ls]; exact hlt
  simp only [Array.getD_eq_getD_getElem?, Array.getElem?_eq_getElem hil, Option.getD_some] at h1 h2
  rw [h1] at h2; cases h2
 | succ fuel ih =>
  intro vs listed a w hI hc
  refine ⟨fun h0 => hend vs listed a w hI (hready listed hI.ls h0), fun i hi => ?_⟩
  obtain ⟨h1, o, ho, hdep⟩ := mem_ready.1 hi
  have hlt : i < ops.size := (Array.getElem?_eq_some_iff.1 ho).1
  have hil : i < listed.size := by rw [hI.ls]; exact hlt
  have hif : listed.getD i false = false := by
   simp only [Array.getD_eq_getD_getElem?, Array.getElem?_eq_getElem hil, Option.getD_some] at h1 ⊢
   exact h1
  have hhas : AnyHas md ops Φ a0 o a w := ⟨fun j ⟨e, he, hb, hej⟩ => by
   have hl : listed.getD j false = true := by rw [← hej]; exact hdep e he hb
   exact ⟨vs j, hI.is j hl, fun s hs hlt' => hI.at_ j s hl hs hlt'⟩, fun s hs => hI.other s fun j _ => hs j, hI.sz⟩
  have hw := hg i o ho a w hhas hI.bw
  unfold wpOp
  rw [ho]
  simp only [hw, if_true]
  left
  refine Oper.wp_mono (fun a' w' h => ?_) (H i o ho a w hhas hI.bw)
  ·obtain ⟨v, rfl, hv, hb⟩ := h
   have hdi : dstOf ops i = o.dst := by unfold dstOf; rw [ho]; rfl
   have hne : ∀ j, j ≠ i → (listed.setIfInBounds i true).getD j false = listed.getD j false := fun j hj => getD_set_ne false (Ne.symm hj)
   refine ih (fun j => if j = i then v else vs j) _ _ _ ⟨?_, ?_, by rw [Array.size_setIfInBounds]; exact hI.ls, fun s hs => ?_, fun j s hj hjs hlt' => ?_, fun j hj => ?_, hI.bw.trans (hb.mono hI.bw.size)⟩ ?_
   ·unfold Act.put; split <;> exact hI.df
   ·unfold Act.put; split
    ·show (a.tmps.setIfInBounds _ v).size = _; rw [Array.size_setIfInBounds]; exact hI.sz
    ·exact hI.sz
   ·have hsi : o.dst ≠ some s := by rw [← hdi]; exact hs i (getD_set_self hil false)
    have h2 := hI.other s fun j hj => by
     by_cases e : j = i
     ·subst e; rw [hif] at hj; cases hj
     ·exact hs j (by rw [hne j e]; exact hj)
    unfold Act.put
    split
    ·rename_i d hdd
     have : d ≠ s := fun e => hsi (by rw [hdd, e])
     show (a.tmps.setIfInBounds d v)[s]? = _
     rw [Array.getElem?_setIfInBounds_ne this]; exact h2
    ·exact h2
   ·by_cases e : j = i
    ·subst e
     rw [hdi] at hjs
     simp only [if_true]
     unfold Act.put
     rw [hjs]
     show (a.tmps.setIfInBounds s v)[s]? = some v
     rw [Array.getElem?_setIfInBounds_self_of_lt (by rw [hI.sz]; exact hlt')]
    ·rw [hne j e] at hj
     have h2 := hI.at_ j s hj hjs hlt'
     simp only [if_neg e]
     unfold Act.put
     split
     ·rename_i d hdd
      have : d ≠ s := fun e' => e (hd j i s hjs (by rw [hdi, hdd, e']))
      show (a.tmps.setIfInBounds d v)[s]? = _
      rw [Array.getElem?_setIfInBounds_ne this]; exact h2
     ·exact h2
   ·by_cases e : j = i
    ·subst e; simp only [if_true]; exact hv
    ·rw [hne j e] at hj
     simp only [if_neg e]
     exact hmono j _ _ _ (hI.is j hj) hb
   ·rw [cntB_set (p := fun j => listed.getD j false) hif (getD_set_self hil false) (fun j hj => hne j hj) ops.size hlt]
    omega
def anyOkG (ops : Array Oper) : Bool := (List.range ops.size).all fun i => match ops[i]? with
 | none => false
 | some o => (o.after.all fun e => (!Region.binds .any e || decide (e.on < i))) && (o.dst.isNone || (List.range i).all fun j => !(dstOf ops j == o.dst))
theorem anyOkG_spec (h : anyOkG ops = true) : (∀ i j s, dstOf ops i = some s → dstOf ops j = some s → i = j) ∧ ∀ (i : Nat) (o : Oper), ops[i]? = some o → ∀ e ∈ o.after, Region.binds .any e = true → e.on < i := by
 have key : ∀ (i : Nat) (o : Oper), ops[i]? = some o → (∀ e ∈ o.after, Region.binds .any e = true → e.on < i) ∧ (∀ s, o.dst = some s → ∀ j, j < i → dstOf ops j ≠ some s) := fun i o ho => by
  have hi : i < ops.size := (Array.getElem?_eq_some_iff.1 ho).1
  have h1 := List.all_eq_true.1 h i (List.mem_range.2 hi)
  rw [ho] at h1
  simp only [Bool.and_eq_true, Bool.or_eq_true] at h1
  obtain ⟨h3, h4⟩ := h1
  refine ⟨fun e he hbd => by have h := Array.all_eq_true'.1 h3 e he; rw [hbd] at h; simpa using h, fun s hs j hj e => ?_⟩
  rcases h4 with h4 | h4
  ·rw [hs] at h4; cases h4
  ·have h5 := List.all_eq_true.1 h4 j (List.mem_range.2 hj)
   rw [e, hs] at h5; simp at h5
 refine ⟨fun i j s hi hj => ?_, fun i o ho => (key i o ho).1⟩
 have hw : ∀ i s, dstOf ops i = some s → ∃ o, ops[i]? = some o ∧ o.dst = some s := fun i s h => by
  unfold dstOf at h
  cases ho : ops[i]? with
  | none => rw [ho] at h; cases h
  | some o => rw [ho] at h; exact ⟨o, rfl, h⟩
 obtain ⟨oi, h1, h2⟩ := hw i s hi
 obtain ⟨oj, h3, h4⟩ := hw j s hj
 rcases Nat.lt_trichotomy i j with h5 | h5 | h5
 ·exact absurd hi ((key j oj h3).2 s h4 i h5)
 ·exact h5
 ·exact absurd hj ((key i oi h1).2 s h2 j h5)
theorem region_invG {id : Nat} (hm : P.follows .mixedOrders = true) (hok : anyOkG ops = true) (Φ : Nat → Value → World → Prop) (a0 : Act) (w : World)
  (hmono : ∀ j v w w', Φ j v w → Below w.heap.size w w' → Φ j v w')
  (hg : ∀ (i : Nat) (o : Oper), ops[i]? = some o → ∀ a w', AnyHas .any ops Φ a0 o a w' → Below w.heap.size w w' → Region.wanted o (yielded ops a.tmps) = true)
  (H : ∀ (i : Nat) (o : Oper), ops[i]? = some o → ∀ a w', AnyHas .any ops Φ a0 o a w' → Below w.heap.size w w' → o.wp P a w' (fun a' w'' => ∃ v, a' = a.put o.dst v ∧ Φ i v w'' ∧ Below w'.heap.size w' w'') Q)
  (hQ : ∀ vs w', (∀ i, i < ops.size → Φ i (vs i) w') → Below w.heap.size w w' → Q .normal { a0 with tmps := putAll ops vs ops.size a0.tmps } w') : (Code.region id ops true).wp P Q a0 w := by
 obtain ⟨hd, hac⟩ := anyOkG_spec hok
 have hdr : Below w.heap.size w w.drew := (Below.refl _ _).drew
 refine wp_region_any hm (any_invG Φ a0 w.drew hmono hd (fun i o ho a w' ha hb => hg i o ho a w' ha (hdr.trans hb)) hac (fun i o ho a w' ha hb => H i o ho a w' ha (hdr.trans hb)) (fun vs w' h hb => hQ vs w' h (hdr.trans hb)) ops.size (fun _ => undef) _ a0 w.drew ⟨rfl, rfl, by simp, fun s _ => rfl, fun i s h => ?_, fun i h => ?_, Below.refl _ _⟩ (by rw [cntB_none]; omega))
 ·simp only [Array.getD_eq_getD_getElem?, Array.getElem?_replicate] at h
  split at h <;> cases h
 ·simp only [Array.getD_eq_getD_getElem?, Array.getElem?_replicate] at h
  split at h <;> cases h
end
section
variable {o : Oper} {a : Act} {w : World} {K : Act → World → Prop} {Q : Exit → Act → World → Prop}
theorem wp_run {v : Value} {w' : World} (hr : (execOp a.eval o).run Tryz.prog w = .ok (.value v) w') (h : K (a.put o.dst v) w') : o.wp Tryz.prog a w K Q := by
 unfold Oper.wp; rw [hr]; exact h
theorem core_move (x : Operand) (hop : o.op = .move x) {v : Value} (hv : a.eval x = v) (h : K (a.put o.dst v) w) : o.wp Tryz.prog a w K Q :=
 wp_run (by unfold execOp; simp only [hop, hv]; go_simp) h
theorem core_assign (x : Operand) (hop : o.op = .assign x) {v : Value} (hv : a.eval x = v) (h : K (a.put o.dst v) w) : o.wp Tryz.prog a w K Q :=
 wp_run (by unfold execOp; simp only [hop, hv]; go_simp) h
theorem core_pick (c x y : Operand) (hop : o.op = .pick c x y) {v : Value} (hc : a.eval c = .bool true) (hv : a.eval x = v) (h : K (a.put o.dst v) w) : o.wp Tryz.prog a w K Q :=
 wp_run (by unfold execOp; simp only [hop, hc, hv]; go_simp) h
theorem core_eql (x y : Operand) (T T' : TypeId) (hop : o.op = .binOp .eql T x y T') (hT : T = 3 ∨ T = 37) {i : Int} (hx : a.eval x = .int .i64 i) (hy : a.eval y = .int .i64 i) (h : K (a.put o.dst (.bool true)) w) : o.wp Tryz.prog a w K Q :=
 wp_run (by
  have hi : (i == i) = true := by simp
  unfold execOp; simp only [hop, hx, hy]
  rcases hT with rfl | rfl <;> go_simp) h
theorem core_len (x : Nat) (hop : o.op = .call { callee := .builtin .len, args := #[.tmp x], argTypes := #[47] }) {A : Option Addr} {n c : Nat} (hx : a.tmps[x]? = some (.slice A n c)) (h : K (a.put o.dst (.int .i64 n)) w) : o.wp Tryz.prog a w K Q :=
 wp_run (by unfold execOp; simp only [hop]; go_simp) h
theorem core_snd (x : Operand) (hop : o.op = .load 24 x) {b : Nat} {p m : Int} (hx : a.eval x = .pointer (some ⟨b, 0, none⟩)) (h0 : w.cell? ⟨b, 0, none⟩ = some (.int .u32 p)) (h1 : w.cell? ⟨b, 1, none⟩ = some (.int .u32 m)) (h : K (a.put o.dst (.agg #[.int .u32 p, .int .u32 m])) w) : o.wp Tryz.prog a w K Q :=
 wp_run (by unfold execOp; simp only [hop, hx]; go_simp) h
theorem core_word (x : Operand) (hop : o.op = .load 32 x) {ad : Addr} {v : Value} (hx : a.eval x = .pointer (some ad)) (h0 : w.cell? ad = some v) (h : K (a.put o.dst v) w) : o.wp Tryz.prog a w K Q :=
 wp_run (by unfold execOp; simp only [hop, hx]; go_simp) h
theorem core_index (x : Operand) (hop : o.op = .indexAddr 47 x (.const (.int .i64 0))) {b off c : Nat} (hx : a.eval x = .slice (some ⟨b, off, none⟩) 1 c) (h : K (a.put o.dst (.pointer (some ⟨b, off, none⟩))) w) : o.wp Tryz.prog a w K Q :=
 wp_run (by unfold execOp; simp only [hop, hx]; go_simp) h
theorem core_field (x : Operand) (j : Nat) (hop : o.op = .fieldAddr 52 x j) {b off : Nat} (hj : j = 0 ∨ j = 1) (hx : a.eval x = .pointer (some ⟨b, off, none⟩)) (h : K (a.put o.dst (.pointer (some ⟨b, off + j, none⟩))) w) : o.wp Tryz.prog a w K Q :=
 wp_run (by unfold execOp; simp only [hop, hx]; rcases hj with rfl | rfl <;> go_simp) h
theorem core_mk0 (hop : o.op = .buildSlice 32 0 #[]) (h : K (a.put o.dst (.slice (some ⟨w.heap.size, 0, none⟩) 0 0)) (w.alloc (.cells (wcells []).toArray 24))) : o.wp Tryz.prog a w K Q :=
 wp_run (by unfold execOp; simp only [hop]; go_simp; rfl) h
theorem core_mk1 (x : Nat) (hop : o.op = .buildSlice 32 1 #[(0, .tmp x)]) {s : Snd} (hx : a.tmps[x]? = some (.agg #[.int .u32 s.1, .int .u32 s.2])) (h : K (a.put o.dst (.slice (some ⟨w.heap.size, 0, none⟩) 1 1)) (w.alloc (.cells (wcells [s]).toArray 24))) : o.wp Tryz.prog a w K Q :=
 wp_run (by unfold execOp; simp only [hop]; go_simp; rfl) h
theorem core_mk3 (x y z : Nat) (hop : o.op = .buildSlice 32 3 #[(0, .tmp x), (1, .tmp y), (2, .tmp z)]) {s t u : Snd} (hx : a.tmps[x]? = some (.agg #[.int .u32 s.1, .int .u32 s.2])) (hy : a.tmps[y]? = some (.agg #[.int .u32 t.1, .int .u32 t.2])) (hz : a.tmps[z]? = some (.agg #[.int .u32 u.1, .int .u32 u.2])) (h : K (a.put o.dst (.slice (some ⟨w.heap.size, 0, none⟩) 3 3)) (w.alloc (.cells (wcells [s, t, u]).toArray 24))) : o.wp Tryz.prog a w K Q :=
 wp_run (by unfold execOp; simp only [hop]; go_simp; rfl) h
theorem core_ws2 (x y : Nat) (hop : o.op = .buildSlice 46 2 #[(0, .tmp x), (1, .tmp y)]) {p q : Part} (hx : a.tmps[x]? = some (.slice p.1 p.2.1 p.2.2.1)) (hy : a.tmps[y]? = some (.slice q.1 q.2.1 q.2.2.1)) (h : K (a.put o.dst (.slice (some ⟨w.heap.size, 0, none⟩) 2 2)) (w.alloc (.cells ([p, q].map Part.val).toArray 32))) : o.wp Tryz.prog a w K Q :=
 wp_run (by unfold execOp; simp only [hop]; go_simp; rfl) h
theorem core_ws3 (x y z : Nat) (hop : o.op = .buildSlice 46 3 #[(0, .tmp x), (1, .tmp y), (2, .tmp z)]) {p q r : Part} (hx : a.tmps[x]? = some (.slice p.1 p.2.1 p.2.2.1)) (hy : a.tmps[y]? = some (.slice q.1 q.2.1 q.2.2.1)) (hz : a.tmps[z]? = some (.slice r.1 r.2.1 r.2.2.1)) (h : K (a.put o.dst (.slice (some ⟨w.heap.size, 0, none⟩) 3 3)) (w.alloc (.cells ([p, q, r].map Part.val).toArray 32))) : o.wp Tryz.prog a w K Q :=
 wp_run (by unfold execOp; simp only [hop]; go_simp; rfl) h
theorem core_call (F : Nat) (x y : Nat) (T : Array TypeId) (hop : o.op = .call { callee := .value (.func F), args := #[.tmp x, .tmp y], argTypes := T }) {u v : Value} (hx : a.tmps[x]? = some (u)) (hy : a.tmps[y]? = some (v)) {r : Value} (hE : Enters Tryz.prog F) (h : Calls Tryz.prog F #[u, v] w fun e w' => e = .returned r ∧ Below w.heap.size w w') (hK : ∀ w', Below w.heap.size w w' → K (a.put o.dst r) w') : o.wp Tryz.prog a w K Q := by
 unfold Enters at hE
 unfold Oper.wp
 rw [show (execOp a.eval o).run Tryz.prog w = .ok (.enter F #[u, v]) w from by unfold execOp; simp only [hop]; go_simp]
 rw [Oper.upon_enter]
 refine h.mono ?_
 rintro e w' ⟨rfl, hb⟩
 exact hK w' hb
def depB (ops : Array Oper) (i j : Nat) : Bool := ((ops[i]?.map fun o => o.after.any fun e => Region.binds .any e && e.on == j).getD false)
theorem dep_at {ops : Array Oper} {Φ : Nat → Value → World → Prop} {i : Nat} (j s : Nat) {a0 : Act} (ho : ops[i]? = some o) (hs : AnyHas .any ops Φ a0 o a w) (hj : depB ops i j = true) (hd : dstOf ops j = some s) (hz : s < a0.tmps.size) : ∃ v, Φ j v w ∧ a.tmps[s]? = some v ∧ a.eval (.tmp s) = v := by
 unfold depB at hj
 rw [ho] at hj
 simp only [Option.map_some, Option.getD_some] at hj
 obtain ⟨e, he, hb⟩ := Array.any_eq_true'.1 hj
 simp only [Bool.and_eq_true, beq_iff_eq] at hb
 obtain ⟨v, h1, h2⟩ := hs.1 j ⟨e, he, hb⟩
 have h3 := h2 s hd hz
 exact ⟨v, h1, h3, by simp [Act.eval, h3]⟩
end
end Go.Proofs.YtlgliddhideflaaGreatDoor
