/-
  The roads at each point, under way (points.New).
  The roads at each point, while they are sorted (points.New).
  A region whose operations come in any order, many of them laying memory: what each operation's value is, said of each alone, whatever has come before.
-/
import Derived.Test.YtaglfmlgbcmakaaGreatDoorH05
set_option linter.all false
set_option maxRecDepth 100000
set_option maxHeartbeats 4000000
namespace Go.Proofs.YtaglfmlgbcmakaaGreatDoor
open Go.RowKit Go.Shelf
def rowV (n : Nat) (f : Nat → Value) : Array Value := ((List.range n).map f).toArray
theorem rowV_at {n v : Nat} (f : Nat → Value) (h : v < n) : (rowV n f)[v]? = some (f v) := by unfold rowV; simp [h]
theorem rowV_set {n k : Nat} {f g : Nat → Value} {x : Value} (hk : g k = x) (h : ∀ v, v < n → v ≠ k → g v = f v) : (rowV n f).setIfInBounds k x = rowV n g := by
 unfold rowV
 apply Array.ext
 ·simp
 ·intro i h1 h2
  have hi : i < n := by simpa using h2
  by_cases e : i = k
  ·subst e; simp [hi, hk]
  ·simp [Array.getElem_setIfInBounds, Ne.symm e, h i hi e]
theorem made_rowV (n : Nat) : madeCells #[.slice none 0 0] n = rowV n fun _ => .slice none 0 0 := by
 unfold madeCells rowV
 apply Array.ext
 ·simp
 ·intro i h1 h2
  simp [Nat.mod_one]
theorem rowV_cell {n v g : Nat} {f : Nat → Value} {t : TypeId} {w : World} (hg : w.heap[g]? = some (.cells (rowV n f) t (0, 0))) (h : v < n) : w.cell? ⟨g, v, none⟩ = some (f v) := cell_at_heap hg (rowV_at f h)
structure NearW (B q n : Nat) (val : Nat → Value) (ls : Nat → List (Nat × Nat)) (W : World) : Prop where
 qB : q < B
 blk : W.heap[q]? = some (.cells (rowV n val) 110 (0, 0))
 own : ∀ v, v < n → W.ownsRow B 112 2 (val v) (ls v).length ((ls v).flatMap endC)
 apart : ∀ u v, u < n → v < n → u ≠ v → ∀ k, (val u).ownBlock = some k → (val v).ownBlock ≠ some k
 sz : B ≤ W.heap.size
section
variable {B q n : Nat} {val : Nat → Value} {ls : Nat → List (Nat × Nat)} {W W' : World}
theorem NearW.below (h : NearW B q n val ls W) (hb : Below W.heap.size W W') : NearW B q n val ls W' :=
 ⟨h.qB, (hb.block q (lt_of_block h.blk)).trans h.blk, fun v hv => own_heap (h.own v hv) fun k e => hb.block k ((h.own v hv).lt k e).2, h.apart, Nat.le_trans h.sz hb.size⟩
theorem NearW.eq (h : NearW B q n val ls W) {ls' : Nat → List (Nat × Nat)} (e : ∀ v, v < n → ls' v = ls v) : NearW B q n val ls' W := ⟨h.qB, h.blk, fun v hv => by rw [e v hv]; exact h.own v hv, h.apart, h.sz⟩
theorem NearW.push (h : NearW B q n val ls W) {v : Nat} (hv : v < n) {v' : Value} {p : Nat × Nat} (hown : W'.ownsRow B 112 2 v' ((ls v).length + 1) ((ls v).flatMap endC ++ endC p)) (hg : W.grownBy W' (val v).ownBlock)
  (hat : v'.ownBlock = (val v).ownBlock ∨ v'.ownBlock = some W.heap.size) :
  NearW B q n (fun u => if u = v then v' else val u) (fun u => if u = v then ls v ++ [p] else ls u) (W'.setCell ⟨q, v, none⟩ v') := by
 have hqW := lt_of_block h.blk
 have hlow : ∀ u, u < n → ∀ k, (val u).ownBlock = some k → B ≤ k ∧ k < W.heap.size := fun u hu k e => (h.own u hu).lt k e
 have hq' : W'.heap[q]? = some (.cells (rowV n val) 110 (0, 0)) := (hg.block q hqW (fun e => by have := (hlow v hv q e.symm).1; have := h.qB; omega)).trans h.blk
 refine ⟨h.qB, ?_, fun u hu => ?_, fun u u' hu hu' hne k e e' => ?_, by have := hg.size; have := h.sz; simp; omega⟩
 ·rw [heap_setCell_same hq', rowV_set (g := fun u => if u = v then v' else val u) (by simp) fun u _ hne => by simp [hne]]
 ·by_cases e : u = v
  ·subst e
   simp only [if_true]
   rw [List.length_append, List.length_singleton, List.flatMap_append, List.flatMap_singleton]
   exact own_heap hown fun k e => Below.heap_setCell _ _ _ _ (by have := (hown.lt k e).1; have := h.qB; show k ≠ q; omega)
  ·simp only [if_neg e]
   exact own_heap (h.own u hu) fun k e' => (Below.heap_setCell _ _ _ _ (by have := (hlow u hu k e').1; have := h.qB; show k ≠ q; omega)).trans (hg.block k (hlow u hu k e').2 (fun e2 => h.apart u v hu hv e k e' e2.symm))
 ·have key : ∀ u, u < n → u ≠ v → ∀ k, (val u).ownBlock = some k → v'.ownBlock ≠ some k := fun u hu hne k e e' => by
   rcases hat with h' | h'
   ·exact h.apart u v hu hv hne k e (h' ▸ e')
   ·rw [h'] at e'; injection e' with e'; have := (hlow u hu k e).2; omega
  by_cases e1 : u = v
  ·by_cases e2 : u' = v
   ·exact hne (e1.trans e2.symm)
   ·simp only [if_pos e1] at e
    simp only [if_neg e2] at e'
    exact key u' hu' e2 k e' e
  ·simp only [if_neg e1] at e
   by_cases e2 : u' = v
   ·simp only [if_pos e2] at e'
    exact key u hu e1 k e e'
   ·simp only [if_neg e2] at e'
    exact h.apart u u' hu hu' hne k e e'
end
theorem near_two (done : List RoadN) {a b l : Nat} (hab : a ≠ b) (v : Nat) : nearN (done ++ [(a, b, l)]) v = (if v = b then (if b = a then nearN done a ++ [(b, l)] else nearN done b) ++ [(a, l)] else if v = a then nearN done a ++ [(b, l)] else nearN done v) := by
 rw [near_snoc]
 have hba : ¬ b = a := fun e => hab e.symm
 by_cases h1 : v = b
 ·subst h1
  simp [hab, hba]
 ·by_cases h2 : v = a
  ·subst h2; simp [h1]
  ·have h3 : ¬ a = v := fun e => h2 e.symm
   have h4 : ¬ b = v := fun e => h1 e.symm
   simp [h1, h2, h3, h4]
theorem roads_at {n : Nat} {rs : List RoadI} {done : List RoadN} {j : Nat} {r : RoadI} (h : rs[j]? = some r) : roadsE n done (rs.drop j) = if min r.1 r.2.1 < 0 ∨ (n : Int) ≤ max r.1 r.2.1 then 3 else if r.1 = r.2.1 then 9 else if r.2.2 < 1 ∨ 1073741824 < r.2.2 then 2
  else if done.any (fun s => joinsN s r.1.toNat r.2.1.toNat) then 6 else roadsE n (done ++ [toRoad r]) (rs.drop (j + 1)) := by
 have hk := (List.getElem?_eq_some_iff.1 h).1
 rw [List.drop_eq_getElem_cons hk, (List.getElem?_eq_some_iff.1 h).2]
 rfl
theorem end_info : (Tryz.prog.info? 112).map (fun i => (i.zero, i.size, i.bytes)) = some (some (.agg #[.int .i64 0, .int .i64 0]), 2, 16) := by kernel_rfl
theorem cells_keep {S : Nat → Prop} {w w' : World} {A : Option Addr} {n c sz : Nat} {vs : List Value} (h : Cells w A n c sz vs) (hk : Keep S w w') (hS : 0 < n → ∀ ad, A = some ad → ¬ S ad.block) : Cells w' A n c sz vs := by
 refine ⟨h.1, h.2.1, h.2.2.1, h.2.2.2.1, fun hn => ?_⟩
 obtain ⟨b, off, hA, hb, hc⟩ := h.2.2.2.2 hn
 have hb' := hk.block b hb (hS hn _ hA)
 exact ⟨b, off, hA, Nat.lt_of_lt_of_le hb hk.size, fun j v hv => (World.cell?_of_block hb').trans (hc j v hv)⟩
def adrV : Value → Option Addr
 | .slice A _ _ => A
 | _ => none
def capV : Value → Nat
 | .slice _ _ c => c
 | _ => 0
structure SortW (B n i : Nat) (val : Nat → Value) (ls es : Nat → List (Nat × Nat)) (W0 W : World) : Prop where
 lo : ∀ v, v < n → i ≤ v → W.ownsRow B 112 2 (val v) (ls v).length ((ls v).flatMap endC)
 hi : ∀ v, v < n → v < i → IsEnds W (adrV (val v)) (ls v).length (capV (val v)) (es v) ∧ (es v).Perm (ls v)
 kp : Keep (fun k => B ≤ k) W0 W
 ap : ∀ u v, u < n → v < n → u ≠ v → ∀ k, (val u).ownBlock = some k → (val v).ownBlock ≠ some k
 vl : ∀ v, v < n → ∃ A c, val v = .slice A (ls v).length c
 bl : ∀ v, v < n → ∀ k, (val v).ownBlock = some k → B ≤ k
theorem SortW.start {B q n : Nat} {val : Nat → Value} {ls : Nat → List (Nat × Nat)} {W : World} (h : NearW B q n val ls W) : SortW B n 0 val ls ls W W :=
 ⟨fun v hv _ => h.own v hv, fun v _ hv => absurd hv (Nat.not_lt_zero _), Keep.refl _ _, h.apart, fun v hv => own_form (h.own v hv), fun v hv k e => ((h.own v hv).lt k e).1⟩
theorem SortW.step {B n i : Nat} {val : Nat → Value} {ls es : Nat → List (Nat × Nat)} {W0 W W' : World} (h : SortW B n i val ls es W0 W) (hi : i < n) {A : Option Addr} {c : Nat} {es' : List (Nat × Nat)} (hv : val i = .slice A (ls i).length c) (he : IsEnds W' A (ls i).length c es') (hp : es'.Perm (ls i))
  (hk : Keep (fun k => (val i).ownBlock = some k) W W') : SortW B n (i + 1) val ls (fun v => if v = i then es' else es v) W0 W' := by
 refine ⟨fun v hv' hlt => own_heap (h.lo v hv' (by omega)) fun k e => hk.block k ((h.lo v hv' (by omega)).lt k e).2 (fun e' => h.ap i v hi hv' (by omega) k e' e), fun v hv' hlt => ?_, h.kp.trans (hk.mono fun k e => h.bl i hi k e), h.ap, h.vl, h.bl⟩
 by_cases e : v = i
 ·subst e
  simp only [if_true]
  rw [hv]
  exact ⟨he, hp⟩
 ·simp only [if_neg e]
  obtain ⟨h1, h2⟩ := h.hi v hv' (by omega)
  refine ⟨⟨cells_keep h1.1 hk fun hn ad had e' => ?_, h1.2⟩, h2⟩
  obtain ⟨A2, c2, hv2⟩ := h.vl v hv'
  refine h.ap i v hi hv' (Ne.symm e) ad.block e' ?_
  rw [hv2] at had ⊢
  have had' : A2 = some ad := had
  rw [had']; rfl
theorem SortW.map {B q n b : Nat} {val : Nat → Value} {rs : List RoadN} {es : Nat → List (Nat × Nat)} {W0 W : World} (h : SortW B n n val (nearN rs) es W0 W) {An : Option Addr} {cn mb : Nat} {Ar : Option Addr} {cr : Nat}
  (hb : W.heap[b]? = some (.cells #[.slice An n cn, .map (some mb), .slice Ar rs.length cr, .slice (some ⟨q, 0, none⟩) n n] 99 (0, 0))) (hr : IsRoads W Ar rs.length cr (rs.map fromRoad)) (hq : W.heap[q]? = some (.cells (rowV n val) 110 (0, 0)))
  (hok : RoadsOK n rs) (hn : n ≤ 128) (hrs : rs.length ≤ 512) : MapAt W b n rs := by
 refine ⟨An, cn, mb, Ar, cr, some ⟨q, 0, none⟩, n, (List.range n).map fun v => (adrV (val v), (nearN rs v).length, capV (val v), es v), hb, hr, ?_, fun v p hp => ?_, hok, hn, hrs⟩
 ·have hvals : ((List.range n).map fun v => (adrV (val v), (nearN rs v).length, capV (val v), es v)).map EndP.val = (List.range n).map val := by
   rw [List.map_map]
   refine List.map_congr_left fun v hv => ?_
   obtain ⟨A2, c2, hv2⟩ := h.vl v (List.mem_range.1 hv)
   show Value.slice (adrV (val v)) _ (capV (val v)) = val v
   rw [hv2]; rfl
  rw [hvals]
  refine ⟨by simp, rr, by unfold maxLen; omega, (fun h => by cases h), fun _ => ⟨q, 0, rfl, lt_of_block hq, fun j v hv => ?_⟩⟩
  rw [Nat.zero_add]
  refine cell_at_heap hq ?_
  unfold rowV
  simpa using hv
 ·rw [List.getElem?_map] at hp
  by_cases hv : v < n
  ·rw [List.getElem?_range hv] at hp
   simp only [Option.map_some, Option.some.injEq] at hp
   subst hp
   exact h.hi v hv hv
  ·rw [List.getElem?_eq_none (by simpa using hv)] at hp; cases hp
def cntB (p : Nat → Bool) : Nat → Nat
 | 0 => 0
 | n + 1 => cntB p n + (if p n = true then 1 else 0)
theorem cntB_same {p q : Nat → Bool} : ∀ n, (∀ j, j < n → q j = p j) → cntB q n = cntB p n
 | 0, _ => rfl
 | n + 1, h => by unfold cntB; rw [cntB_same n fun j hj => h j (by omega), h n (by omega)]
theorem cntB_set {p q : Nat → Bool} {i : Nat} (hp : p i = false) (hq : q i = true) (h : ∀ j, j ≠ i → q j = p j) : ∀ n, i < n → cntB q n = cntB p n + 1
 | 0, hi => by omega
 | n + 1, hi => by
  unfold cntB
  by_cases e : i = n
  ·subst e
   rw [cntB_same (p := p) i fun j hj => h j (by omega), hp, hq]; simp
  ·rw [cntB_set hp hq h n (by omega), h n (Ne.symm e)]; omega
theorem cntB_le (p : Nat → Bool) : ∀ n, cntB p n ≤ n
 | 0 => rr
 | n + 1 => by unfold cntB; have := cntB_le p n; split <;> omega
theorem cntB_all {p : Nat → Bool} : ∀ n, cntB p n = n → ∀ i, i < n → p i = true
 | 0, _, i, hi => by omega
 | n + 1, h, i, hi => by
  unfold cntB at h
  have h1 := cntB_le p n
  by_cases hn : p n = true
  ·rw [if_pos hn] at h
   rcases Nat.lt_or_ge i n with h2 | h2
   ·exact cntB_all n (by omega) i h2
   ·obtain rfl : i = n := by omega
    exact hn
  ·rw [if_neg hn] at h; omega
section
variable {P : Program} {ops : Array Oper} {Q : Exit → Act → World → Prop} {md : Region.Mode}
def dstOf (ops : Array Oper) (i : Nat) : Option Tmp := (ops[i]?).bind (·.dst)
def putAll (ops : Array Oper) (vs : Nat → Value) : Nat → Array Value → Array Value
 | 0, t => t
 | n + 1, t => match dstOf ops n with | some d => (putAll ops vs n t).setIfInBounds d (vs n) | none => putAll ops vs n t
theorem putAll_size (vs : Nat → Value) : ∀ (n : Nat) (t : Array Value), (putAll ops vs n t).size = t.size
 | 0, _ => rfl
 | n + 1, t => by
  unfold putAll
  split
  ·rw [Array.size_setIfInBounds, putAll_size vs n t]
  ·exact putAll_size vs n t
theorem putAll_other (vs : Nat → Value) {s : Nat} : ∀ (n : Nat) (t : Array Value), (∀ i, i < n → dstOf ops i ≠ some s) → (putAll ops vs n t)[s]? = t[s]?
 | 0, _, _ => rfl
 | n + 1, t, h => by
  unfold putAll
  have ih := putAll_other vs n t fun i hi => h i (by omega)
  split
  ·rename_i d hd
   have hne : d ≠ s := fun e => h n (by omega) (by rw [hd, e])
   rw [Array.getElem?_setIfInBounds_ne hne]; exact ih
  ·exact ih
theorem putAll_at (hd : ∀ i j s, dstOf ops i = some s → dstOf ops j = some s → i = j) (vs : Nat → Value) {i s : Nat} (hi : dstOf ops i = some s) : ∀ (n : Nat) (t : Array Value), i < n → s < t.size → (putAll ops vs n t)[s]? = some (vs i)
 | 0, _, h, _ => by omega
 | n + 1, t, h, hs => by
  unfold putAll
  by_cases e : i = n
  ·subst e
   rw [hi]
   show ((putAll ops vs i t).setIfInBounds s (vs i))[s]? = _
   rw [Array.getElem?_setIfInBounds_self_of_lt (by rw [putAll_size]; exact hs)]
  ·have ih := putAll_at hd vs hi n t (by omega) hs
   split
   ·rename_i d hdn
    have hne : d ≠ s := fun e' => e (hd i n s hi (by rw [hdn, e']))
    rw [Array.getElem?_setIfInBounds_ne hne]; exact ih
   ·exact ih
structure AnyInv (ops : Array Oper) (Φ : Nat → Value → World → Prop) (a0 : Act) (w0 : World) (vs : Nat → Value) (listed : Array Bool) (a : Act) (w : World) : Prop where
 df : a.defers = a0.defers
 sz : a.tmps.size = a0.tmps.size
 ls : listed.size = ops.size
 other : ∀ s, (∀ i, listed.getD i false = true → dstOf ops i ≠ some s) → a.tmps[s]? = a0.tmps[s]?
 at_ : ∀ i s, listed.getD i false = true → dstOf ops i = some s → s < a0.tmps.size → a.tmps[s]? = some (vs i)
 is : ∀ i, listed.getD i false = true → Φ i (vs i) w
 bw : Below w0.heap.size w0 w
def AnyHas (md : Region.Mode) (ops : Array Oper) (Φ : Nat → Value → World → Prop) (a0 : Act) (o : Oper) (a : Act) (w : World) : Prop :=
 (∀ j, (∃ e ∈ o.after, Region.binds md e = true ∧ e.on = j) → ∃ v, Φ j v w ∧ ∀ s, dstOf ops j = some s → s < a0.tmps.size → a.tmps[s]? = some v) ∧
 (∀ s, (∀ j, dstOf ops j ≠ some s) → a.tmps[s]? = a0.tmps[s]?) ∧ a.tmps.size = a0.tmps.size
theorem getD_set_self {listed : Array Bool} {i : Nat} (h : i < listed.size) (d : Bool) : (listed.setIfInBounds i true).getD i d = true := by
 simp [Array.getD_eq_getD_getElem?, h]
theorem any_inv (Φ : Nat → Value → World → Prop) (a0 : Act) (w0 : World)
  (hmono : ∀ j v w w', Φ j v w → Below w.heap.size w w' → Φ j v w')
  (hd : ∀ i j s, dstOf ops i = some s → dstOf ops j = some s → i = j)
  (hg : ∀ (i : Nat) (o : Oper), ops[i]? = some o → o.guard = none)
  (hac : ∀ (i : Nat) (o : Oper), ops[i]? = some o → ∀ e ∈ o.after, Region.binds md e = true → e.on < i)
  (H : ∀ (i : Nat) (o : Oper), ops[i]? = some o → ∀ a w, AnyHas md ops Φ a0 o a w → Below w0.heap.size w0 w → o.wp P a w (fun a' w' => ∃ v, a' = a.put o.dst v ∧ Φ i v w' ∧ Below w.heap.size w w') Q)
  (hQ : ∀ vs w', (∀ i, i < ops.size → Φ i (vs i) w') → Below w0.heap.size w0 w' → Q .normal { a0 with tmps := putAll ops vs ops.size a0.tmps } w') :
  ∀ fuel vs listed a w, AnyInv ops Φ a0 w0 vs listed a w → cntB (fun i => listed.getD i false) ops.size + fuel = ops.size → wpAny P md ops Q fuel listed a w := by
 -- all are listed: the end
 have hend : ∀ vs listed a w, AnyInv ops Φ a0 w0 vs listed a w → (∀ i, i < ops.size → listed.getD i false = true) → Q .normal a w := by
  intro vs listed a w hI hall
  have h := hQ vs w (fun i hi => hI.is i (hall i hi)) hI.bw
  have ha : a = { a0 with tmps := putAll ops vs ops.size a0.tmps } := by
   obtain ⟨t, df⟩ := a
   have h1 : df = a0.defers := hI.df
   have h2 : t = putAll ops vs ops.size a0.tmps := by
    apply Array.ext_getElem?
    intro s
    by_cases hs : ∃ i, i < ops.size ∧ dstOf ops i = some s
    ·obtain ⟨i, hi, his⟩ := hs
     rcases Nat.lt_or_ge s a0.tmps.size with hlt | hge
     ·rw [putAll_at hd vs his _ _ hi hlt]
      exact hI.at_ i s (hall i hi) his hlt
     ·have h3 : (putAll ops vs ops.size a0.tmps)[s]? = none := Array.getElem?_eq_none (by rw [putAll_size]; exact hge)
      have h4 : t.size = a0.tmps.size := hI.sz
      rw [h3, Array.getElem?_eq_none (by omega)]
    ·rw [putAll_other vs _ _ fun i hi e => hs ⟨i, hi, e⟩]
     refine hI.other s fun i hl e => hs ⟨i, ?_, e⟩
     rcases Nat.lt_or_ge i ops.size with hlt | hge
     ·exact hlt
     ·unfold dstOf at e; rw [Array.getElem?_eq_none hge] at e; cases e
   rw [h1, h2]
  rw [ha]; exact h
 -- nothing is ready: all are listed
 have hready : ∀ listed : Array Bool, listed.size = ops.size → Region.ready md ops listed = [] → ∀ i, i < ops.size → listed.getD i false = true := by
  intro listed hls h0 i
  induction i using Nat.strongRecOn with
  | _ i ih =>
   intro hi
   cases hb : listed.getD i false with
   | true => rfl
   | false =>
    exfalso
    have ho : ops[i]? = some ops[i] := Array.getElem?_eq_getElem hi
    have hm : i ∈ Region.ready md ops listed := mem_ready.2 ⟨by
     have hil : i < listed.size := by omega
     simp only [Array.getD_eq_getD_getElem?, Array.getElem?_eq_getElem hil, Option.getD_some] at hb ⊢
     exact hb, ops[i], ho, fun e he hbnd_ => by
      have h1 := hac i _ ho e he hbnd_
      exact ih e.on h1 (by omega)⟩
    rw [h0] at hm; cases hm
 intro fuel
 induction fuel with
 | zero =>
  intro vs listed a w hI hc
  have hall := cntB_all ops.size (by omega : cntB (fun i => listed.getD i false) ops.size = ops.size)
  refine ⟨?_, hend vs listed a w hI hall⟩
  apply List.eq_nil_iff_forall_not_mem.2
  intro i hi
  obtain ⟨h1, o, ho, _⟩ := mem_ready.1 hi
  have hlt : i < ops.size := (Array.getElem?_eq_some_iff.1 ho).1
  have h2 := hall i hlt
  have hil : i < listed.size := by rw [hI.ls]; exact hlt
  simp only [Array.getD_eq_getD_getElem?, Array.getElem?_eq_getElem hil, Option.getD_some] at h1 h2
  rw [h1] at h2; cases h2
 | succ fuel ih =>
  intro vs listed a w hI hc
  refine ⟨fun h0 => hend vs listed a w hI (hready listed hI.ls h0), fun i hi => ?_⟩
  obtain ⟨h1, o, ho, hdep⟩ := mem_ready.1 hi
  have hlt : i < ops.size := (Array.getElem?_eq_some_iff.1 ho).1
  have hil : i < listed.size := by rw [hI.ls]; exact hlt
  have hif : listed.getD i false = false := by
   simp only [Array.getD_eq_getD_getElem?, Array.getElem?_eq_getElem hil, Option.getD_some] at h1 ⊢
   exact h1
  have hw : Region.wanted o (yielded ops a.tmps) = true := by unfold Region.wanted; rw [hg i o ho]
  unfold wpOp
  rw [ho]
  simp only [hw, if_true]
  left
  refine Oper.wp_mono (fun a' w' h => ?_) (H i o ho a w ⟨fun j ⟨e, he, hb, hej⟩ => ?_, fun s hs => hI.other s fun j _ => hs j, hI.sz⟩ hI.bw)
  ·obtain ⟨v, rfl, hv, hb⟩ := h
   have hdi : dstOf ops i = o.dst := by unfold dstOf; rw [ho]; rfl
   have hne : ∀ j, j ≠ i → (listed.setIfInBounds i true).getD j false = listed.getD j false := fun j hj => getD_set_ne false (Ne.symm hj)
   refine ih (fun j => if j = i then v else vs j) _ _ _ ⟨?_, ?_, by rw [Array.size_setIfInBounds]; exact hI.ls, fun s hs => ?_, fun j s hj hjs hlt' => ?_, fun j hj => ?_, hI.bw.trans (hb.mono hI.bw.size)⟩ ?_
   ·unfold Act.put; split <;> exact hI.df
   ·unfold Act.put; split
    ·show (a.tmps.setIfInBounds _ v).size = _; rw [Array.size_setIfInBounds]; exact hI.sz
    ·exact hI.sz
   ·have hsi : o.dst ≠ some s := by rw [← hdi]; exact hs i (getD_set_self hil false)
    have h2 := hI.other s fun j hj => by
     by_cases e : j = i
     ·subst e; rw [hif] at hj; cases hj
     ·exact hs j (by rw [hne j e]; exact hj)
    unfold Act.put
    split
    ·rename_i d hdd
     have : d ≠ s := fun e => hsi (by rw [hdd, e])
     show (a.tmps.setIfInBounds d v)[s]? = _
     rw [Array.getElem?_setIfInBounds_ne this]; exact h2
    ·exact h2
   ·by_cases e : j = i
    ·subst e
     rw [hdi] at hjs
     simp only [if_true]
     unfold Act.put
     rw [hjs]
     show (a.tmps.setIfInBounds s v)[s]? = some v
     rw [Array.getElem?_setIfInBounds_self_of_lt (by rw [hI.sz]; exact hlt')]
    ·rw [hne j e] at hj
     have h2 := hI.at_ j s hj hjs hlt'
     simp only [if_neg e]
     unfold Act.put
     split
     ·rename_i d hdd
      have : d ≠ s := fun e' => e (hd j i s hjs (by rw [hdi, hdd, e']))
      show (a.tmps.setIfInBounds d v)[s]? = _
      rw [Array.getElem?_setIfInBounds_ne this]; exact h2
     ·exact h2
   ·by_cases e : j = i
    ·subst e; simp only [if_true]; exact hv
    ·rw [hne j e] at hj
     simp only [if_neg e]
     exact hmono j _ _ _ (hI.is j hj) hb
   ·rw [cntB_set (p := fun j => listed.getD j false) hif (getD_set_self hil false) (fun j hj => hne j hj) ops.size hlt]
    omega
  ·have hl : listed.getD j false = true := by rw [← hej]; exact hdep e he hb
   exact ⟨vs j, hI.is j hl, fun s hs hlt' => hI.at_ j s hl hs hlt'⟩
def anyOk (ops : Array Oper) : Bool := (List.range ops.size).all fun i => match ops[i]? with
 | none => false
 | some o => o.guard.isNone && (o.after.all fun e => (!Region.binds .any e || decide (e.on < i))) && (o.dst.isNone || (List.range i).all fun j => !(dstOf ops j == o.dst))
theorem anyOk_spec (h : anyOk ops = true) : (∀ i j s, dstOf ops i = some s → dstOf ops j = some s → i = j) ∧ (∀ (i : Nat) (o : Oper), ops[i]? = some o → o.guard = none) ∧ ∀ (i : Nat) (o : Oper), ops[i]? = some o → ∀ e ∈ o.after, Region.binds .any e = true → e.on < i := by
 have key : ∀ (i : Nat) (o : Oper), ops[i]? = some o → o.guard = none ∧ (∀ e ∈ o.after, Region.binds .any e = true → e.on < i) ∧ (∀ s, o.dst = some s → ∀ j, j < i → dstOf ops j ≠ some s) := fun i o ho => by
  have hi : i < ops.size := (Array.getElem?_eq_some_iff.1 ho).1
  have h1 := List.all_eq_true.1 h i (List.mem_range.2 hi)
  rw [ho] at h1
  simp only [Bool.and_eq_true, Bool.or_eq_true] at h1
  obtain ⟨⟨h2, h3⟩, h4⟩ := h1
  refine ⟨by simpa using h2, fun e he hbd => by have h := Array.all_eq_true'.1 h3 e he; rw [hbd] at h; simpa using h, fun s hs j hj e => ?_⟩
  rcases h4 with h4 | h4
  ·rw [hs] at h4; cases h4
  ·have h5 := List.all_eq_true.1 h4 j (List.mem_range.2 hj)
   rw [e, hs] at h5; simp at h5
 refine ⟨fun i j s hi hj => ?_, fun i o ho => (key i o ho).1, fun i o ho => (key i o ho).2.1⟩
 have hw : ∀ i s, dstOf ops i = some s → ∃ o, ops[i]? = some o ∧ o.dst = some s := fun i s h => by
  unfold dstOf at h
  cases ho : ops[i]? with
  | none => rw [ho] at h; cases h
  | some o => rw [ho] at h; exact ⟨o, rfl, h⟩
 obtain ⟨oi, h1, h2⟩ := hw i s hi
 obtain ⟨oj, h3, h4⟩ := hw j s hj
 rcases Nat.lt_trichotomy i j with h5 | h5 | h5
 ·exact absurd hi ((key j oj h3).2.2 s h4 i h5)
 ·exact h5
 ·exact absurd hj ((key i oi h1).2.2 s h2 j h5)
theorem cntB_none (n m : Nat) : cntB (fun i => (Array.replicate m false).getD i false) n = 0 := by
 induction n with
 | zero => rfl
 | succ n ih =>
  unfold cntB
  rw [ih]
  have : (Array.replicate m false).getD n false = false := by
   simp only [Array.getD_eq_getD_getElem?, Array.getElem?_replicate]
   split <;> rfl
  rw [this]; rfl
theorem region_inv {id : Nat} (hm : P.follows .mixedOrders = true) (hok : anyOk ops = true) (Φ : Nat → Value → World → Prop) (a0 : Act) (w : World)
  (hmono : ∀ j v w w', Φ j v w → Below w.heap.size w w' → Φ j v w')
  (H : ∀ (i : Nat) (o : Oper), ops[i]? = some o → ∀ a w', AnyHas .any ops Φ a0 o a w' → Below w.heap.size w w' → o.wp P a w' (fun a' w'' => ∃ v, a' = a.put o.dst v ∧ Φ i v w'' ∧ Below w'.heap.size w' w'') Q)
  (hQ : ∀ vs w', (∀ i, i < ops.size → Φ i (vs i) w') → Below w.heap.size w w' → Q .normal { a0 with tmps := putAll ops vs ops.size a0.tmps } w') : (Code.region id ops true).wp P Q a0 w := by
 obtain ⟨hd, hg, hac⟩ := anyOk_spec hok
 have hdr : Below w.heap.size w w.drew := (Below.refl _ _).drew
 refine wp_region_any hm (any_inv Φ a0 w.drew hmono hd hg hac (fun i o ho a w' ha hb => H i o ho a w' ha (hdr.trans hb)) (fun vs w' h hb => hQ vs w' h (hdr.trans hb)) ops.size (fun _ => undef) _ a0 w.drew ⟨rfl, rfl, by simp, fun s _ => rfl, fun i s h => ?_, fun i h => ?_, Below.refl _ _⟩ (by rw [cntB_none]; omega))
 ·simp only [Array.getD_eq_getD_getElem?, Array.getElem?_replicate] at h
  split at h <;> cases h
 ·simp only [Array.getD_eq_getD_getElem?, Array.getElem?_replicate] at h
  split at h <;> cases h
end
end Go.Proofs.YtaglfmlgbcmakaaGreatDoor
