/-
  The last region of ablautlaw11.works, operation by operation (printed by wip/tools/wk11.py).
-/
import Derived.Test.YtlgliddhideflaaGreatDoorH07
set_option linter.all false
set_option maxRecDepth 100000
set_option maxHeartbeats 4000000
namespace Go.Proofs.YtlgliddhideflaaGreatDoor
open Go.RowKit Go.Shelf
def secondN : Nat → Code → Code
 | 0, c => c
 | n + 1, .seq _ c => secondN n c
 | _, c => c
def opsOf : Code → Array Oper
 | .seq (.region _ ops _) _ => ops
 | .region _ ops _ => ops
 | _ => #[]
noncomputable def opsW : Array Oper := opsOf (secondN 7 (Tryz.f42.body.getD .skip))
theorem snd_cells {w : World} {b : Nat} {u v : Value} {t : TypeId} (h : w.heap[b]? = some (.cells #[u, v] t (0, 0))) :
  w.cell? ⟨b, 0, none⟩ = some u ∧ w.cell? ⟨b, 1, none⟩ = some v ∧ w.frozen? ⟨b, 0, none⟩ = false ∧ w.frozen? ⟨b, 1, none⟩ = false := by
 simp [World.cell?, World.frozen?, h]
def WrdW (w : World) (v : Value) (x : List Snd) : Prop := ∃ A n c, v = .slice A n c ∧ IsWord w A n c x
def WdsW (w : World) (v : Value) (x : List (List Snd)) : Prop := ∃ A n c, v = .slice A n c ∧ IsWords w A n c x
theorem WrdW.below {w w' : World} {v : Value} {x : List Snd} (h : WrdW w v x) (hb : Below w.heap.size w w') : WrdW w' v x := by
 obtain ⟨A, n, c, e, h⟩ := h; exact ⟨A, n, c, e, h.below hb rr⟩
theorem WdsW.below {w w' : World} {v : Value} {x : List (List Snd)} (h : WdsW w v x) (hb : Below w.heap.size w w') : WdsW w' v x := by
 obtain ⟨A, n, c, e, h⟩ := h; exact ⟨A, n, c, e, h.below hb rr⟩
def phiW (Ax : Option Addr) (nx cx : Nat) (Ay : Option Addr) (ny cy bq oq cz : Nat) (s : PairR) (i : Nat) (v : Value) (w : World) : Prop := match i with
 | 0 | 16 | 30 | 65 => v = .int .i64 0
 | 3 => v = .slice Ax nx cx
 | 20 => v = .slice Ay ny cy
 | 34 | 39 | 50 => v = .slice (some ⟨bq, oq, none⟩) 1 cz
 | 35 => v = .int .i64 1
 | 61 => v = .int .i64 6
 | 4 | 6 | 8 | 10 | 43 | 45 | 54 | 56 => v = .agg #[.int .u32 5, .int .u32 2]
 | 5 | 22 | 44 => v = .agg #[.int .u32 2, .int .u32 5]
 | 9 | 24 | 55 => v = .agg #[.int .u32 3, .int .u32 4]
 | 40 | 41 | 51 => v = .pointer (some ⟨bq, oq, none⟩)
 | 52 => v = .pointer (some ⟨bq, oq + 1, none⟩)
 | 42 => v = .slice s.p.1 s.p.2.1 s.p.2.2.1
 | 53 => v = .slice s.q.1 s.q.2.1 s.q.2.2.1
 | 7 | 46 => WrdW w v [sA, sP, sA]
 | 11 | 57 => WrdW w v [sA, sB, sA]
 | 21 => WrdW w v []
 | 23 => WrdW w v [sP]
 | 25 => WrdW w v [sB]
 | 12 => WdsW w v [[sA, sP, sA], [sA, sB, sA]]
 | 26 => WdsW w v [[], [sP], [sB]]
 | _ => v = .bool true
theorem phiW_below {Ax : Option Addr} {nx cx : Nat} {Ay : Option Addr} {ny cy bq oq cz : Nat} {s : PairR} {i : Nat} {v : Value} {w w' : World} (h : phiW Ax nx cx Ay ny cy bq oq cz s i v w) (hb : Below w.heap.size w w') : phiW Ax nx cx Ay ny cy bq oq cz s i v w' := by
 unfold phiW at *
 split at h <;> first | exact WrdW.below h hb | exact WdsW.below h hb | exact h
theorem noDst_w {ops : Array Oper} {s : Nat} (h : (ops.all fun o => o.dst != some s) = true) : ∀ j, dstOf ops j ≠ some s := by
 intro j hj
 unfold dstOf at hj
 cases ho : ops[j]? with
 | none => rw [ho] at hj; cases hj
 | some o =>
  rw [ho] at hj
  have h1 := Array.all_eq_true'.1 h o (Array.mem_of_getElem? ho)
  have h2 : o.dst = some s := hj
  rw [h2] at h1; simp at h1
theorem wanted_bool {ops : Array Oper} {o : Oper} {t : Array Value} {g s : Nat} (ho : o.guard = some (g, true)) (hd : dstOf ops g = some s) (hv : t[s]? = some (.bool true)) : Region.wanted o (yielded ops t) = true := by
 unfold Region.wanted
 rw [ho]
 unfold yielded
 unfold dstOf at hd
 simp only [hd, Option.bind_some, hv]; rfl
structure FrW (Ax : Option Addr) (nx cx : Nat) (Ay : Option Addr) (ny cy bq oq cz x y z : Nat) (a0 : Act) : Prop where
 sz : a0.tmps.size = 128
 t4 : a0.tmps[4]? = some (.pointer (some ⟨x, 0, none⟩))
 t5 : a0.tmps[5]? = some (.pointer (some ⟨y, 0, none⟩))
 t6 : a0.tmps[6]? = some (.pointer (some ⟨z, 0, none⟩))
 t7 : a0.tmps[7]? = some (.slice Ax nx cx)
 t8 : a0.tmps[8]? = some (.int .i64 0)
 t9 : a0.tmps[9]? = some (.slice Ay ny cy)
 t10 : a0.tmps[10]? = some (.int .i64 0)
 t11 : a0.tmps[11]? = some (.slice (some ⟨bq, oq, none⟩) 1 cz)
 t12 : a0.tmps[12]? = some (.int .i64 0)
 t13 : a0.tmps[13]? = some (.int .i64 6)
 t14 : a0.tmps[14]? = some (.int .i64 0)
structure WoW (Ax : Option Addr) (nx cx : Nat) (Ay : Option Addr) (ny cy bq oq x y z : Nat) (s : PairR) (W : World) : Prop where
 kx : W.heap[x]? = some (.cells #[.int .u32 2, .int .u32 5] 24 (0, 0))
 ky : W.heap[y]? = some (.cells #[.int .u32 3, .int .u32 4] 24 (0, 0))
 kz : W.heap[z]? = some (.cells #[.int .u32 5, .int .u32 2] 24 (0, 0))
 r1 : IsWords W Ax nx cx [[sA, sP, sA], [sA, sB, sA]]
 r2 : IsWords W Ay ny cy [[], [sP], [sB]]
 lt : bq < W.heap.size
 cp : W.cell? ⟨bq, oq, none⟩ = some (.slice s.p.1 s.p.2.1 s.p.2.2.1)
 cq : W.cell? ⟨bq, oq + 1, none⟩ = some (.slice s.q.1 s.q.2.1 s.q.2.2.1)
 pp : IsWord W s.p.1 s.p.2.1 s.p.2.2.1 [sA, sP, sA]
 pq : IsWord W s.q.1 s.q.2.1 s.q.2.2.1 [sA, sB, sA]
set_option maxRecDepth 100000
theorem opW_0 {o : Oper} (ho : opsW[0]? = some o) : o.op = .move (.tmp 8) := by obtain ⟨_, rfl⟩ := Array.getElem?_eq_some_iff.1 ho; kernel_rfl
theorem stW_0 {Ax : Option Addr} {nx cx : Nat} {Ay : Option Addr} {ny cy bq oq cz x y z : Nat} {s : PairR} {W : World} {a0 : Act} {Q : Exit → Act → World → Prop} (F : FrW Ax nx cx Ay ny cy bq oq cz x y z a0) (G : WoW Ax nx cx Ay ny cy bq oq x y z s W) {o : Oper} {a : Act} {w' : World} (ho : opsW[0]? = some o) (hs : AnyHas .any opsW (phiW Ax nx cx Ay ny cy bq oq cz s) a0 o a w') (hb : Below W.heap.size W w') :
  o.wp Tryz.prog a w' (fun a' w'' => ∃ v, a' = a.put o.dst v ∧ phiW Ax nx cx Ay ny cy bq oq cz s 0 v w'' ∧ Below w'.heap.size w' w'') Q := by
 have hop := opW_0 ho
 have ht8 := (hs.2.1 8 (noDst_w (by kernel_rfl))).trans F.t8
 have he8 : a.eval (.tmp 8) = .int .i64 0 := by simp [Act.eval, ht8]
 exact core_move _ hop he8 ⟨_, rfl, rfl, Below.refl _ _⟩
theorem opW_1 {o : Oper} (ho : opsW[1]? = some o) : o.op = .binOp .eql 37 (.tmp 60) (.const (.int .i64 0)) 37 := by obtain ⟨_, rfl⟩ := Array.getElem?_eq_some_iff.1 ho; kernel_rfl
theorem stW_1 {Ax : Option Addr} {nx cx : Nat} {Ay : Option Addr} {ny cy bq oq cz x y z : Nat} {s : PairR} {W : World} {a0 : Act} {Q : Exit → Act → World → Prop} (F : FrW Ax nx cx Ay ny cy bq oq cz x y z a0) (G : WoW Ax nx cx Ay ny cy bq oq x y z s W) {o : Oper} {a : Act} {w' : World} (ho : opsW[1]? = some o) (hs : AnyHas .any opsW (phiW Ax nx cx Ay ny cy bq oq cz s) a0 o a w') (hb : Below W.heap.size W w') :
  o.wp Tryz.prog a w' (fun a' w'' => ∃ v, a' = a.put o.dst v ∧ phiW Ax nx cx Ay ny cy bq oq cz s 1 v w'' ∧ Below w'.heap.size w' w'') Q := by
 have hop := opW_1 ho
 obtain ⟨v60, hv60, ht60, he60⟩ := dep_at 0 60 ho hs (by kernel_rfl) (by kernel_rfl) (by rw [F.sz]; decide)
 obtain rfl : v60 = .int .i64 0 := hv60
 exact core_eql _ _ _ _ hop (by decide) he60 rfl ⟨_, rfl, rfl, Below.refl _ _⟩
theorem opW_2 {o : Oper} (ho : opsW[2]? = some o) : o.op = .move (.tmp 61) := by obtain ⟨_, rfl⟩ := Array.getElem?_eq_some_iff.1 ho; kernel_rfl
theorem stW_2 {Ax : Option Addr} {nx cx : Nat} {Ay : Option Addr} {ny cy bq oq cz x y z : Nat} {s : PairR} {W : World} {a0 : Act} {Q : Exit → Act → World → Prop} (F : FrW Ax nx cx Ay ny cy bq oq cz x y z a0) (G : WoW Ax nx cx Ay ny cy bq oq x y z s W) {o : Oper} {a : Act} {w' : World} (ho : opsW[2]? = some o) (hs : AnyHas .any opsW (phiW Ax nx cx Ay ny cy bq oq cz s) a0 o a w') (hb : Below W.heap.size W w') :
  o.wp Tryz.prog a w' (fun a' w'' => ∃ v, a' = a.put o.dst v ∧ phiW Ax nx cx Ay ny cy bq oq cz s 2 v w'' ∧ Below w'.heap.size w' w'') Q := by
 have hop := opW_2 ho
 obtain ⟨v61, hv61, ht61, he61⟩ := dep_at 1 61 ho hs (by kernel_rfl) (by kernel_rfl) (by rw [F.sz]; decide)
 obtain rfl : v61 = .bool true := hv61
 exact core_move _ hop he61 ⟨_, rfl, rfl, Below.refl _ _⟩
theorem opW_3 {o : Oper} (ho : opsW[3]? = some o) : o.op = .move (.tmp 7) := by obtain ⟨_, rfl⟩ := Array.getElem?_eq_some_iff.1 ho; kernel_rfl
theorem gdW_3 {Ax : Option Addr} {nx cx : Nat} {Ay : Option Addr} {ny cy bq oq cz x y z : Nat} {s : PairR} {a0 : Act} {o : Oper} {a : Act} {w' : World} (F : FrW Ax nx cx Ay ny cy bq oq cz x y z a0) (ho : opsW[3]? = some o) (hs : AnyHas .any opsW (phiW Ax nx cx Ay ny cy bq oq cz s) a0 o a w') : Region.wanted o (yielded opsW a.tmps) = true := by
 obtain ⟨v, hv, ht, _⟩ := dep_at 2 62 ho hs (by kernel_rfl) (by kernel_rfl) (by rw [F.sz]; decide)
 obtain rfl : v = .bool true := hv
 exact wanted_bool (by obtain ⟨_, rfl⟩ := Array.getElem?_eq_some_iff.1 ho; kernel_rfl : o.guard = some (2, true)) (by kernel_rfl) ht
theorem stW_3 {Ax : Option Addr} {nx cx : Nat} {Ay : Option Addr} {ny cy bq oq cz x y z : Nat} {s : PairR} {W : World} {a0 : Act} {Q : Exit → Act → World → Prop} (F : FrW Ax nx cx Ay ny cy bq oq cz x y z a0) (G : WoW Ax nx cx Ay ny cy bq oq x y z s W) {o : Oper} {a : Act} {w' : World} (ho : opsW[3]? = some o) (hs : AnyHas .any opsW (phiW Ax nx cx Ay ny cy bq oq cz s) a0 o a w') (hb : Below W.heap.size W w') :
  o.wp Tryz.prog a w' (fun a' w'' => ∃ v, a' = a.put o.dst v ∧ phiW Ax nx cx Ay ny cy bq oq cz s 3 v w'' ∧ Below w'.heap.size w' w'') Q := by
 have hop := opW_3 ho
 have ht7 := (hs.2.1 7 (noDst_w (by kernel_rfl))).trans F.t7
 have he7 : a.eval (.tmp 7) = .slice Ax nx cx := by simp [Act.eval, ht7]
 exact core_move _ hop he7 ⟨_, rfl, rfl, Below.refl _ _⟩
theorem opW_4 {o : Oper} (ho : opsW[4]? = some o) : o.op = .load 24 (.tmp 6) := by obtain ⟨_, rfl⟩ := Array.getElem?_eq_some_iff.1 ho; kernel_rfl
theorem gdW_4 {Ax : Option Addr} {nx cx : Nat} {Ay : Option Addr} {ny cy bq oq cz x y z : Nat} {s : PairR} {a0 : Act} {o : Oper} {a : Act} {w' : World} (F : FrW Ax nx cx Ay ny cy bq oq cz x y z a0) (ho : opsW[4]? = some o) (hs : AnyHas .any opsW (phiW Ax nx cx Ay ny cy bq oq cz s) a0 o a w') : Region.wanted o (yielded opsW a.tmps) = true := by
 obtain ⟨v, hv, ht, _⟩ := dep_at 2 62 ho hs (by kernel_rfl) (by kernel_rfl) (by rw [F.sz]; decide)
 obtain rfl : v = .bool true := hv
 exact wanted_bool (by obtain ⟨_, rfl⟩ := Array.getElem?_eq_some_iff.1 ho; kernel_rfl : o.guard = some (2, true)) (by kernel_rfl) ht
theorem stW_4 {Ax : Option Addr} {nx cx : Nat} {Ay : Option Addr} {ny cy bq oq cz x y z : Nat} {s : PairR} {W : World} {a0 : Act} {Q : Exit → Act → World → Prop} (F : FrW Ax nx cx Ay ny cy bq oq cz x y z a0) (G : WoW Ax nx cx Ay ny cy bq oq x y z s W) {o : Oper} {a : Act} {w' : World} (ho : opsW[4]? = some o) (hs : AnyHas .any opsW (phiW Ax nx cx Ay ny cy bq oq cz s) a0 o a w') (hb : Below W.heap.size W w') :
  o.wp Tryz.prog a w' (fun a' w'' => ∃ v, a' = a.put o.dst v ∧ phiW Ax nx cx Ay ny cy bq oq cz s 4 v w'' ∧ Below w'.heap.size w' w'') Q := by
 have hop := opW_4 ho
 have ht6 := (hs.2.1 6 (noDst_w (by kernel_rfl))).trans F.t6
 have he6 : a.eval (.tmp 6) = .pointer (some ⟨z, 0, none⟩) := by simp [Act.eval, ht6]
 obtain ⟨d0, d1, _, _⟩ := snd_cells ((hb.block _ (lt_of_block G.kz)).trans G.kz)
 exact core_snd _ hop he6 d0 d1 ⟨_, rfl, rfl, Below.refl _ _⟩
theorem opW_5 {o : Oper} (ho : opsW[5]? = some o) : o.op = .load 24 (.tmp 4) := by obtain ⟨_, rfl⟩ := Array.getElem?_eq_some_iff.1 ho; kernel_rfl
theorem gdW_5 {Ax : Option Addr} {nx cx : Nat} {Ay : Option Addr} {ny cy bq oq cz x y z : Nat} {s : PairR} {a0 : Act} {o : Oper} {a : Act} {w' : World} (F : FrW Ax nx cx Ay ny cy bq oq cz x y z a0) (ho : opsW[5]? = some o) (hs : AnyHas .any opsW (phiW Ax nx cx Ay ny cy bq oq cz s) a0 o a w') : Region.wanted o (yielded opsW a.tmps) = true := by
 obtain ⟨v, hv, ht, _⟩ := dep_at 2 62 ho hs (by kernel_rfl) (by kernel_rfl) (by rw [F.sz]; decide)
 obtain rfl : v = .bool true := hv
 exact wanted_bool (by obtain ⟨_, rfl⟩ := Array.getElem?_eq_some_iff.1 ho; kernel_rfl : o.guard = some (2, true)) (by kernel_rfl) ht
theorem stW_5 {Ax : Option Addr} {nx cx : Nat} {Ay : Option Addr} {ny cy bq oq cz x y z : Nat} {s : PairR} {W : World} {a0 : Act} {Q : Exit → Act → World → Prop} (F : FrW Ax nx cx Ay ny cy bq oq cz x y z a0) (G : WoW Ax nx cx Ay ny cy bq oq x y z s W) {o : Oper} {a : Act} {w' : World} (ho : opsW[5]? = some o) (hs : AnyHas .any opsW (phiW Ax nx cx Ay ny cy bq oq cz s) a0 o a w') (hb : Below W.heap.size W w') :
  o.wp Tryz.prog a w' (fun a' w'' => ∃ v, a' = a.put o.dst v ∧ phiW Ax nx cx Ay ny cy bq oq cz s 5 v w'' ∧ Below w'.heap.size w' w'') Q := by
 have hop := opW_5 ho
 have ht4 := (hs.2.1 4 (noDst_w (by kernel_rfl))).trans F.t4
 have he4 : a.eval (.tmp 4) = .pointer (some ⟨x, 0, none⟩) := by simp [Act.eval, ht4]
 obtain ⟨d0, d1, _, _⟩ := snd_cells ((hb.block _ (lt_of_block G.kx)).trans G.kx)
 exact core_snd _ hop he4 d0 d1 ⟨_, rfl, rfl, Below.refl _ _⟩
theorem opW_6 {o : Oper} (ho : opsW[6]? = some o) : o.op = .load 24 (.tmp 6) := by obtain ⟨_, rfl⟩ := Array.getElem?_eq_some_iff.1 ho; kernel_rfl
theorem gdW_6 {Ax : Option Addr} {nx cx : Nat} {Ay : Option Addr} {ny cy bq oq cz x y z : Nat} {s : PairR} {a0 : Act} {o : Oper} {a : Act} {w' : World} (F : FrW Ax nx cx Ay ny cy bq oq cz x y z a0) (ho : opsW[6]? = some o) (hs : AnyHas .any opsW (phiW Ax nx cx Ay ny cy bq oq cz s) a0 o a w') : Region.wanted o (yielded opsW a.tmps) = true := by
 obtain ⟨v, hv, ht, _⟩ := dep_at 2 62 ho hs (by kernel_rfl) (by kernel_rfl) (by rw [F.sz]; decide)
 obtain rfl : v = .bool true := hv
 exact wanted_bool (by obtain ⟨_, rfl⟩ := Array.getElem?_eq_some_iff.1 ho; kernel_rfl : o.guard = some (2, true)) (by kernel_rfl) ht
theorem stW_6 {Ax : Option Addr} {nx cx : Nat} {Ay : Option Addr} {ny cy bq oq cz x y z : Nat} {s : PairR} {W : World} {a0 : Act} {Q : Exit → Act → World → Prop} (F : FrW Ax nx cx Ay ny cy bq oq cz x y z a0) (G : WoW Ax nx cx Ay ny cy bq oq x y z s W) {o : Oper} {a : Act} {w' : World} (ho : opsW[6]? = some o) (hs : AnyHas .any opsW (phiW Ax nx cx Ay ny cy bq oq cz s) a0 o a w') (hb : Below W.heap.size W w') :
  o.wp Tryz.prog a w' (fun a' w'' => ∃ v, a' = a.put o.dst v ∧ phiW Ax nx cx Ay ny cy bq oq cz s 6 v w'' ∧ Below w'.heap.size w' w'') Q := by
 have hop := opW_6 ho
 have ht6 := (hs.2.1 6 (noDst_w (by kernel_rfl))).trans F.t6
 have he6 : a.eval (.tmp 6) = .pointer (some ⟨z, 0, none⟩) := by simp [Act.eval, ht6]
 obtain ⟨d0, d1, _, _⟩ := snd_cells ((hb.block _ (lt_of_block G.kz)).trans G.kz)
 exact core_snd _ hop he6 d0 d1 ⟨_, rfl, rfl, Below.refl _ _⟩
theorem opW_7 {o : Oper} (ho : opsW[7]? = some o) : o.op = .buildSlice 32 3 #[(0, .tmp 64), (1, .tmp 65), (2, .tmp 66)] := by obtain ⟨_, rfl⟩ := Array.getElem?_eq_some_iff.1 ho; kernel_rfl
theorem gdW_7 {Ax : Option Addr} {nx cx : Nat} {Ay : Option Addr} {ny cy bq oq cz x y z : Nat} {s : PairR} {a0 : Act} {o : Oper} {a : Act} {w' : World} (F : FrW Ax nx cx Ay ny cy bq oq cz x y z a0) (ho : opsW[7]? = some o) (hs : AnyHas .any opsW (phiW Ax nx cx Ay ny cy bq oq cz s) a0 o a w') : Region.wanted o (yielded opsW a.tmps) = true := by
 obtain ⟨v, hv, ht, _⟩ := dep_at 2 62 ho hs (by kernel_rfl) (by kernel_rfl) (by rw [F.sz]; decide)
 obtain rfl : v = .bool true := hv
 exact wanted_bool (by obtain ⟨_, rfl⟩ := Array.getElem?_eq_some_iff.1 ho; kernel_rfl : o.guard = some (2, true)) (by kernel_rfl) ht
theorem stW_7 {Ax : Option Addr} {nx cx : Nat} {Ay : Option Addr} {ny cy bq oq cz x y z : Nat} {s : PairR} {W : World} {a0 : Act} {Q : Exit → Act → World → Prop} (F : FrW Ax nx cx Ay ny cy bq oq cz x y z a0) (G : WoW Ax nx cx Ay ny cy bq oq x y z s W) {o : Oper} {a : Act} {w' : World} (ho : opsW[7]? = some o) (hs : AnyHas .any opsW (phiW Ax nx cx Ay ny cy bq oq cz s) a0 o a w') (hb : Below W.heap.size W w') :
  o.wp Tryz.prog a w' (fun a' w'' => ∃ v, a' = a.put o.dst v ∧ phiW Ax nx cx Ay ny cy bq oq cz s 7 v w'' ∧ Below w'.heap.size w' w'') Q := by
 have hop := opW_7 ho
 obtain ⟨v64, hv64, ht64, he64⟩ := dep_at 4 64 ho hs (by kernel_rfl) (by kernel_rfl) (by rw [F.sz]; decide)
 obtain rfl : v64 = .agg #[.int .u32 5, .int .u32 2] := hv64
 obtain ⟨v65, hv65, ht65, he65⟩ := dep_at 5 65 ho hs (by kernel_rfl) (by kernel_rfl) (by rw [F.sz]; decide)
 obtain rfl : v65 = .agg #[.int .u32 2, .int .u32 5] := hv65
 obtain ⟨v66, hv66, ht66, he66⟩ := dep_at 6 66 ho hs (by kernel_rfl) (by kernel_rfl) (by rw [F.sz]; decide)
 obtain rfl : v66 = .agg #[.int .u32 5, .int .u32 2] := hv66
 exact core_mk3 _ _ _ hop (s := sA) (t := sP) (u := sA) ht64 ht65 ht66 ⟨_, rfl, ⟨_, _, _, rfl, built_word w' [sA, sP, sA] 24 (by simp)⟩, bel⟩
theorem opW_8 {o : Oper} (ho : opsW[8]? = some o) : o.op = .load 24 (.tmp 6) := by obtain ⟨_, rfl⟩ := Array.getElem?_eq_some_iff.1 ho; kernel_rfl
theorem gdW_8 {Ax : Option Addr} {nx cx : Nat} {Ay : Option Addr} {ny cy bq oq cz x y z : Nat} {s : PairR} {a0 : Act} {o : Oper} {a : Act} {w' : World} (F : FrW Ax nx cx Ay ny cy bq oq cz x y z a0) (ho : opsW[8]? = some o) (hs : AnyHas .any opsW (phiW Ax nx cx Ay ny cy bq oq cz s) a0 o a w') : Region.wanted o (yielded opsW a.tmps) = true := by
 obtain ⟨v, hv, ht, _⟩ := dep_at 2 62 ho hs (by kernel_rfl) (by kernel_rfl) (by rw [F.sz]; decide)
 obtain rfl : v = .bool true := hv
 exact wanted_bool (by obtain ⟨_, rfl⟩ := Array.getElem?_eq_some_iff.1 ho; kernel_rfl : o.guard = some (2, true)) (by kernel_rfl) ht
theorem stW_8 {Ax : Option Addr} {nx cx : Nat} {Ay : Option Addr} {ny cy bq oq cz x y z : Nat} {s : PairR} {W : World} {a0 : Act} {Q : Exit → Act → World → Prop} (F : FrW Ax nx cx Ay ny cy bq oq cz x y z a0) (G : WoW Ax nx cx Ay ny cy bq oq x y z s W) {o : Oper} {a : Act} {w' : World} (ho : opsW[8]? = some o) (hs : AnyHas .any opsW (phiW Ax nx cx Ay ny cy bq oq cz s) a0 o a w') (hb : Below W.heap.size W w') :
  o.wp Tryz.prog a w' (fun a' w'' => ∃ v, a' = a.put o.dst v ∧ phiW Ax nx cx Ay ny cy bq oq cz s 8 v w'' ∧ Below w'.heap.size w' w'') Q := by
 have hop := opW_8 ho
 have ht6 := (hs.2.1 6 (noDst_w (by kernel_rfl))).trans F.t6
 have he6 : a.eval (.tmp 6) = .pointer (some ⟨z, 0, none⟩) := by simp [Act.eval, ht6]
 obtain ⟨d0, d1, _, _⟩ := snd_cells ((hb.block _ (lt_of_block G.kz)).trans G.kz)
 exact core_snd _ hop he6 d0 d1 ⟨_, rfl, rfl, Below.refl _ _⟩
theorem opW_9 {o : Oper} (ho : opsW[9]? = some o) : o.op = .load 24 (.tmp 5) := by obtain ⟨_, rfl⟩ := Array.getElem?_eq_some_iff.1 ho; kernel_rfl
theorem gdW_9 {Ax : Option Addr} {nx cx : Nat} {Ay : Option Addr} {ny cy bq oq cz x y z : Nat} {s : PairR} {a0 : Act} {o : Oper} {a : Act} {w' : World} (F : FrW Ax nx cx Ay ny cy bq oq cz x y z a0) (ho : opsW[9]? = some o) (hs : AnyHas .any opsW (phiW Ax nx cx Ay ny cy bq oq cz s) a0 o a w') : Region.wanted o (yielded opsW a.tmps) = true := by
 obtain ⟨v, hv, ht, _⟩ := dep_at 2 62 ho hs (by kernel_rfl) (by kernel_rfl) (by rw [F.sz]; decide)
 obtain rfl : v = .bool true := hv
 exact wanted_bool (by obtain ⟨_, rfl⟩ := Array.getElem?_eq_some_iff.1 ho; kernel_rfl : o.guard = some (2, true)) (by kernel_rfl) ht
theorem stW_9 {Ax : Option Addr} {nx cx : Nat} {Ay : Option Addr} {ny cy bq oq cz x y z : Nat} {s : PairR} {W : World} {a0 : Act} {Q : Exit → Act → World → Prop} (F : FrW Ax nx cx Ay ny cy bq oq cz x y z a0) (G : WoW Ax nx cx Ay ny cy bq oq x y z s W) {o : Oper} {a : Act} {w' : World} (ho : opsW[9]? = some o) (hs : AnyHas .any opsW (phiW Ax nx cx Ay ny cy bq oq cz s) a0 o a w') (hb : Below W.heap.size W w') :
  o.wp Tryz.prog a w' (fun a' w'' => ∃ v, a' = a.put o.dst v ∧ phiW Ax nx cx Ay ny cy bq oq cz s 9 v w'' ∧ Below w'.heap.size w' w'') Q := by
 have hop := opW_9 ho
 have ht5 := (hs.2.1 5 (noDst_w (by kernel_rfl))).trans F.t5
 have he5 : a.eval (.tmp 5) = .pointer (some ⟨y, 0, none⟩) := by simp [Act.eval, ht5]
 obtain ⟨d0, d1, _, _⟩ := snd_cells ((hb.block _ (lt_of_block G.ky)).trans G.ky)
 exact core_snd _ hop he5 d0 d1 ⟨_, rfl, rfl, Below.refl _ _⟩
theorem opW_10 {o : Oper} (ho : opsW[10]? = some o) : o.op = .load 24 (.tmp 6) := by obtain ⟨_, rfl⟩ := Array.getElem?_eq_some_iff.1 ho; kernel_rfl
theorem gdW_10 {Ax : Option Addr} {nx cx : Nat} {Ay : Option Addr} {ny cy bq oq cz x y z : Nat} {s : PairR} {a0 : Act} {o : Oper} {a : Act} {w' : World} (F : FrW Ax nx cx Ay ny cy bq oq cz x y z a0) (ho : opsW[10]? = some o) (hs : AnyHas .any opsW (phiW Ax nx cx Ay ny cy bq oq cz s) a0 o a w') : Region.wanted o (yielded opsW a.tmps) = true := by
 obtain ⟨v, hv, ht, _⟩ := dep_at 2 62 ho hs (by kernel_rfl) (by kernel_rfl) (by rw [F.sz]; decide)
 obtain rfl : v = .bool true := hv
 exact wanted_bool (by obtain ⟨_, rfl⟩ := Array.getElem?_eq_some_iff.1 ho; kernel_rfl : o.guard = some (2, true)) (by kernel_rfl) ht
theorem stW_10 {Ax : Option Addr} {nx cx : Nat} {Ay : Option Addr} {ny cy bq oq cz x y z : Nat} {s : PairR} {W : World} {a0 : Act} {Q : Exit → Act → World → Prop} (F : FrW Ax nx cx Ay ny cy bq oq cz x y z a0) (G : WoW Ax nx cx Ay ny cy bq oq x y z s W) {o : Oper} {a : Act} {w' : World} (ho : opsW[10]? = some o) (hs : AnyHas .any opsW (phiW Ax nx cx Ay ny cy bq oq cz s) a0 o a w') (hb : Below W.heap.size W w') :
  o.wp Tryz.prog a w' (fun a' w'' => ∃ v, a' = a.put o.dst v ∧ phiW Ax nx cx Ay ny cy bq oq cz s 10 v w'' ∧ Below w'.heap.size w' w'') Q := by
 have hop := opW_10 ho
 have ht6 := (hs.2.1 6 (noDst_w (by kernel_rfl))).trans F.t6
 have he6 : a.eval (.tmp 6) = .pointer (some ⟨z, 0, none⟩) := by simp [Act.eval, ht6]
 obtain ⟨d0, d1, _, _⟩ := snd_cells ((hb.block _ (lt_of_block G.kz)).trans G.kz)
 exact core_snd _ hop he6 d0 d1 ⟨_, rfl, rfl, Below.refl _ _⟩
theorem opW_11 {o : Oper} (ho : opsW[11]? = some o) : o.op = .buildSlice 32 3 #[(0, .tmp 68), (1, .tmp 69), (2, .tmp 70)] := by obtain ⟨_, rfl⟩ := Array.getElem?_eq_some_iff.1 ho; kernel_rfl
theorem gdW_11 {Ax : Option Addr} {nx cx : Nat} {Ay : Option Addr} {ny cy bq oq cz x y z : Nat} {s : PairR} {a0 : Act} {o : Oper} {a : Act} {w' : World} (F : FrW Ax nx cx Ay ny cy bq oq cz x y z a0) (ho : opsW[11]? = some o) (hs : AnyHas .any opsW (phiW Ax nx cx Ay ny cy bq oq cz s) a0 o a w') : Region.wanted o (yielded opsW a.tmps) = true := by
 obtain ⟨v, hv, ht, _⟩ := dep_at 2 62 ho hs (by kernel_rfl) (by kernel_rfl) (by rw [F.sz]; decide)
 obtain rfl : v = .bool true := hv
 exact wanted_bool (by obtain ⟨_, rfl⟩ := Array.getElem?_eq_some_iff.1 ho; kernel_rfl : o.guard = some (2, true)) (by kernel_rfl) ht
theorem stW_11 {Ax : Option Addr} {nx cx : Nat} {Ay : Option Addr} {ny cy bq oq cz x y z : Nat} {s : PairR} {W : World} {a0 : Act} {Q : Exit → Act → World → Prop} (F : FrW Ax nx cx Ay ny cy bq oq cz x y z a0) (G : WoW Ax nx cx Ay ny cy bq oq x y z s W) {o : Oper} {a : Act} {w' : World} (ho : opsW[11]? = some o) (hs : AnyHas .any opsW (phiW Ax nx cx Ay ny cy bq oq cz s) a0 o a w') (hb : Below W.heap.size W w') :
  o.wp Tryz.prog a w' (fun a' w'' => ∃ v, a' = a.put o.dst v ∧ phiW Ax nx cx Ay ny cy bq oq cz s 11 v w'' ∧ Below w'.heap.size w' w'') Q := by
 have hop := opW_11 ho
 obtain ⟨v68, hv68, ht68, he68⟩ := dep_at 8 68 ho hs (by kernel_rfl) (by kernel_rfl) (by rw [F.sz]; decide)
 obtain rfl : v68 = .agg #[.int .u32 5, .int .u32 2] := hv68
 obtain ⟨v69, hv69, ht69, he69⟩ := dep_at 9 69 ho hs (by kernel_rfl) (by kernel_rfl) (by rw [F.sz]; decide)
 obtain rfl : v69 = .agg #[.int .u32 3, .int .u32 4] := hv69
 obtain ⟨v70, hv70, ht70, he70⟩ := dep_at 10 70 ho hs (by kernel_rfl) (by kernel_rfl) (by rw [F.sz]; decide)
 obtain rfl : v70 = .agg #[.int .u32 5, .int .u32 2] := hv70
 exact core_mk3 _ _ _ hop (s := sA) (t := sB) (u := sA) ht68 ht69 ht70 ⟨_, rfl, ⟨_, _, _, rfl, built_word w' [sA, sB, sA] 24 (by simp)⟩, bel⟩
theorem opW_12 {o : Oper} (ho : opsW[12]? = some o) : o.op = .buildSlice 46 2 #[(0, .tmp 67), (1, .tmp 71)] := by obtain ⟨_, rfl⟩ := Array.getElem?_eq_some_iff.1 ho; kernel_rfl
theorem gdW_12 {Ax : Option Addr} {nx cx : Nat} {Ay : Option Addr} {ny cy bq oq cz x y z : Nat} {s : PairR} {a0 : Act} {o : Oper} {a : Act} {w' : World} (F : FrW Ax nx cx Ay ny cy bq oq cz x y z a0) (ho : opsW[12]? = some o) (hs : AnyHas .any opsW (phiW Ax nx cx Ay ny cy bq oq cz s) a0 o a w') : Region.wanted o (yielded opsW a.tmps) = true := by
 obtain ⟨v, hv, ht, _⟩ := dep_at 2 62 ho hs (by kernel_rfl) (by kernel_rfl) (by rw [F.sz]; decide)
 obtain rfl : v = .bool true := hv
 exact wanted_bool (by obtain ⟨_, rfl⟩ := Array.getElem?_eq_some_iff.1 ho; kernel_rfl : o.guard = some (2, true)) (by kernel_rfl) ht
theorem stW_12 {Ax : Option Addr} {nx cx : Nat} {Ay : Option Addr} {ny cy bq oq cz x y z : Nat} {s : PairR} {W : World} {a0 : Act} {Q : Exit → Act → World → Prop} (F : FrW Ax nx cx Ay ny cy bq oq cz x y z a0) (G : WoW Ax nx cx Ay ny cy bq oq x y z s W) {o : Oper} {a : Act} {w' : World} (ho : opsW[12]? = some o) (hs : AnyHas .any opsW (phiW Ax nx cx Ay ny cy bq oq cz s) a0 o a w') (hb : Below W.heap.size W w') :
  o.wp Tryz.prog a w' (fun a' w'' => ∃ v, a' = a.put o.dst v ∧ phiW Ax nx cx Ay ny cy bq oq cz s 12 v w'' ∧ Below w'.heap.size w' w'') Q := by
 have hop := opW_12 ho
 obtain ⟨v67, hv67, ht67, he67⟩ := dep_at 7 67 ho hs (by kernel_rfl) (by kernel_rfl) (by rw [F.sz]; decide)
 obtain ⟨A67, n67, c67, rfl, hp67⟩ := hv67
 obtain ⟨v71, hv71, ht71, he71⟩ := dep_at 11 71 ho hs (by kernel_rfl) (by kernel_rfl) (by rw [F.sz]; decide)
 obtain ⟨A71, n71, c71, rfl, hp71⟩ := hv71
 refine core_ws2 _ _ hop (p := (A67, n67, c67, [sA, sP, sA])) (q := (A71, n71, c71, [sA, sB, sA])) ht67 ht71 ⟨_, rfl, ⟨_, _, _, rfl, built_words w' [(A67, n67, c67, [sA, sP, sA]), (A71, n71, c71, [sA, sB, sA])] 32 (by simp) ?_⟩, bel⟩
 intro p hp
 simp only [List.mem_cons, List.not_mem_nil, or_false] at hp
 rcases hp with rfl | rfl
 ·exact hp67
 ·exact hp71
theorem opW_13 {o : Oper} (ho : opsW[13]? = some o) : o.op = .call { callee := .value (.func 45), args := #[.tmp 63, .tmp 72], argTypes := #[46, 46] } := by obtain ⟨_, rfl⟩ := Array.getElem?_eq_some_iff.1 ho; kernel_rfl
theorem gdW_13 {Ax : Option Addr} {nx cx : Nat} {Ay : Option Addr} {ny cy bq oq cz x y z : Nat} {s : PairR} {a0 : Act} {o : Oper} {a : Act} {w' : World} (F : FrW Ax nx cx Ay ny cy bq oq cz x y z a0) (ho : opsW[13]? = some o) (hs : AnyHas .any opsW (phiW Ax nx cx Ay ny cy bq oq cz s) a0 o a w') : Region.wanted o (yielded opsW a.tmps) = true := by
 obtain ⟨v, hv, ht, _⟩ := dep_at 2 62 ho hs (by kernel_rfl) (by kernel_rfl) (by rw [F.sz]; decide)
 obtain rfl : v = .bool true := hv
 exact wanted_bool (by obtain ⟨_, rfl⟩ := Array.getElem?_eq_some_iff.1 ho; kernel_rfl : o.guard = some (2, true)) (by kernel_rfl) ht
theorem stW_13 {Ax : Option Addr} {nx cx : Nat} {Ay : Option Addr} {ny cy bq oq cz x y z : Nat} {s : PairR} {W : World} {a0 : Act} {Q : Exit → Act → World → Prop} (F : FrW Ax nx cx Ay ny cy bq oq cz x y z a0) (G : WoW Ax nx cx Ay ny cy bq oq x y z s W) {o : Oper} {a : Act} {w' : World} (ho : opsW[13]? = some o) (hs : AnyHas .any opsW (phiW Ax nx cx Ay ny cy bq oq cz s) a0 o a w') (hb : Below W.heap.size W w') :
  o.wp Tryz.prog a w' (fun a' w'' => ∃ v, a' = a.put o.dst v ∧ phiW Ax nx cx Ay ny cy bq oq cz s 13 v w'' ∧ Below w'.heap.size w' w'') Q := by
 have hop := opW_13 ho
 obtain ⟨v63, hv63, ht63, he63⟩ := dep_at 3 63 ho hs (by kernel_rfl) (by kernel_rfl) (by rw [F.sz]; decide)
 obtain rfl : v63 = .slice Ax nx cx := hv63
 obtain ⟨v72, hv72, ht72, he72⟩ := dep_at 12 72 ho hs (by kernel_rfl) (by kernel_rfl) (by rw [F.sz]; decide)
 obtain ⟨A72, n72, c72, rfl, hp72⟩ := hv72
 refine core_call _ _ _ _ hop ht63 ht72 (enters_of Tryz.func45 (by kernel_rfl) rfl) ?_ (fun w2 h2 => ⟨_, rfl, rfl, h2⟩)
 refine (rSame_c Ax A72 nx n72 cx c72 [[sA, sP, sA], [sA, sB, sA]] [[sA, sP, sA], [sA, sB, sA]] w' (G.r1.below hb rr) hp72).mono ?_
 rintro e w2 ⟨rfl, hb2⟩
 exact ⟨by rw [decide_eq_true rfl], hb2⟩
theorem opW_14 {o : Oper} (ho : opsW[14]? = some o) : o.op = .pick (.tmp 62) (.tmp 73) (.const (.bool false)) := by obtain ⟨_, rfl⟩ := Array.getElem?_eq_some_iff.1 ho; kernel_rfl
theorem stW_14 {Ax : Option Addr} {nx cx : Nat} {Ay : Option Addr} {ny cy bq oq cz x y z : Nat} {s : PairR} {W : World} {a0 : Act} {Q : Exit → Act → World → Prop} (F : FrW Ax nx cx Ay ny cy bq oq cz x y z a0) (G : WoW Ax nx cx Ay ny cy bq oq x y z s W) {o : Oper} {a : Act} {w' : World} (ho : opsW[14]? = some o) (hs : AnyHas .any opsW (phiW Ax nx cx Ay ny cy bq oq cz s) a0 o a w') (hb : Below W.heap.size W w') :
  o.wp Tryz.prog a w' (fun a' w'' => ∃ v, a' = a.put o.dst v ∧ phiW Ax nx cx Ay ny cy bq oq cz s 14 v w'' ∧ Below w'.heap.size w' w'') Q := by
 have hop := opW_14 ho
 obtain ⟨v62, hv62, ht62, he62⟩ := dep_at 2 62 ho hs (by kernel_rfl) (by kernel_rfl) (by rw [F.sz]; decide)
 obtain rfl : v62 = .bool true := hv62
 obtain ⟨v73, hv73, ht73, he73⟩ := dep_at 13 73 ho hs (by kernel_rfl) (by kernel_rfl) (by rw [F.sz]; decide)
 obtain rfl : v73 = .bool true := hv73
 exact core_pick _ _ _ hop he62 he73 ⟨_, rfl, rfl, Below.refl _ _⟩
theorem opW_15 {o : Oper} (ho : opsW[15]? = some o) : o.op = .move (.tmp 74) := by obtain ⟨_, rfl⟩ := Array.getElem?_eq_some_iff.1 ho; kernel_rfl
theorem stW_15 {Ax : Option Addr} {nx cx : Nat} {Ay : Option Addr} {ny cy bq oq cz x y z : Nat} {s : PairR} {W : World} {a0 : Act} {Q : Exit → Act → World → Prop} (F : FrW Ax nx cx Ay ny cy bq oq cz x y z a0) (G : WoW Ax nx cx Ay ny cy bq oq x y z s W) {o : Oper} {a : Act} {w' : World} (ho : opsW[15]? = some o) (hs : AnyHas .any opsW (phiW Ax nx cx Ay ny cy bq oq cz s) a0 o a w') (hb : Below W.heap.size W w') :
  o.wp Tryz.prog a w' (fun a' w'' => ∃ v, a' = a.put o.dst v ∧ phiW Ax nx cx Ay ny cy bq oq cz s 15 v w'' ∧ Below w'.heap.size w' w'') Q := by
 have hop := opW_15 ho
 obtain ⟨v74, hv74, ht74, he74⟩ := dep_at 14 74 ho hs (by kernel_rfl) (by kernel_rfl) (by rw [F.sz]; decide)
 obtain rfl : v74 = .bool true := hv74
 exact core_move _ hop he74 ⟨_, rfl, rfl, Below.refl _ _⟩
theorem opW_16 {o : Oper} (ho : opsW[16]? = some o) : o.op = .move (.tmp 10) := by obtain ⟨_, rfl⟩ := Array.getElem?_eq_some_iff.1 ho; kernel_rfl
theorem gdW_16 {Ax : Option Addr} {nx cx : Nat} {Ay : Option Addr} {ny cy bq oq cz x y z : Nat} {s : PairR} {a0 : Act} {o : Oper} {a : Act} {w' : World} (F : FrW Ax nx cx Ay ny cy bq oq cz x y z a0) (ho : opsW[16]? = some o) (hs : AnyHas .any opsW (phiW Ax nx cx Ay ny cy bq oq cz s) a0 o a w') : Region.wanted o (yielded opsW a.tmps) = true := by
 obtain ⟨v, hv, ht, _⟩ := dep_at 15 75 ho hs (by kernel_rfl) (by kernel_rfl) (by rw [F.sz]; decide)
 obtain rfl : v = .bool true := hv
 exact wanted_bool (by obtain ⟨_, rfl⟩ := Array.getElem?_eq_some_iff.1 ho; kernel_rfl : o.guard = some (15, true)) (by kernel_rfl) ht
theorem stW_16 {Ax : Option Addr} {nx cx : Nat} {Ay : Option Addr} {ny cy bq oq cz x y z : Nat} {s : PairR} {W : World} {a0 : Act} {Q : Exit → Act → World → Prop} (F : FrW Ax nx cx Ay ny cy bq oq cz x y z a0) (G : WoW Ax nx cx Ay ny cy bq oq x y z s W) {o : Oper} {a : Act} {w' : World} (ho : opsW[16]? = some o) (hs : AnyHas .any opsW (phiW Ax nx cx Ay ny cy bq oq cz s) a0 o a w') (hb : Below W.heap.size W w') :
  o.wp Tryz.prog a w' (fun a' w'' => ∃ v, a' = a.put o.dst v ∧ phiW Ax nx cx Ay ny cy bq oq cz s 16 v w'' ∧ Below w'.heap.size w' w'') Q := by
 have hop := opW_16 ho
 have ht10 := (hs.2.1 10 (noDst_w (by kernel_rfl))).trans F.t10
 have he10 : a.eval (.tmp 10) = .int .i64 0 := by simp [Act.eval, ht10]
 exact core_move _ hop he10 ⟨_, rfl, rfl, Below.refl _ _⟩
theorem opW_17 {o : Oper} (ho : opsW[17]? = some o) : o.op = .binOp .eql 37 (.tmp 76) (.const (.int .i64 0)) 37 := by obtain ⟨_, rfl⟩ := Array.getElem?_eq_some_iff.1 ho; kernel_rfl
theorem gdW_17 {Ax : Option Addr} {nx cx : Nat} {Ay : Option Addr} {ny cy bq oq cz x y z : Nat} {s : PairR} {a0 : Act} {o : Oper} {a : Act} {w' : World} (F : FrW Ax nx cx Ay ny cy bq oq cz x y z a0) (ho : opsW[17]? = some o) (hs : AnyHas .any opsW (phiW Ax nx cx Ay ny cy bq oq cz s) a0 o a w') : Region.wanted o (yielded opsW a.tmps) = true := by
 obtain ⟨v, hv, ht, _⟩ := dep_at 15 75 ho hs (by kernel_rfl) (by kernel_rfl) (by rw [F.sz]; decide)
 obtain rfl : v = .bool true := hv
 exact wanted_bool (by obtain ⟨_, rfl⟩ := Array.getElem?_eq_some_iff.1 ho; kernel_rfl : o.guard = some (15, true)) (by kernel_rfl) ht
theorem stW_17 {Ax : Option Addr} {nx cx : Nat} {Ay : Option Addr} {ny cy bq oq cz x y z : Nat} {s : PairR} {W : World} {a0 : Act} {Q : Exit → Act → World → Prop} (F : FrW Ax nx cx Ay ny cy bq oq cz x y z a0) (G : WoW Ax nx cx Ay ny cy bq oq x y z s W) {o : Oper} {a : Act} {w' : World} (ho : opsW[17]? = some o) (hs : AnyHas .any opsW (phiW Ax nx cx Ay ny cy bq oq cz s) a0 o a w') (hb : Below W.heap.size W w') :
  o.wp Tryz.prog a w' (fun a' w'' => ∃ v, a' = a.put o.dst v ∧ phiW Ax nx cx Ay ny cy bq oq cz s 17 v w'' ∧ Below w'.heap.size w' w'') Q := by
 have hop := opW_17 ho
 obtain ⟨v76, hv76, ht76, he76⟩ := dep_at 16 76 ho hs (by kernel_rfl) (by kernel_rfl) (by rw [F.sz]; decide)
 obtain rfl : v76 = .int .i64 0 := hv76
 exact core_eql _ _ _ _ hop (by decide) he76 rfl ⟨_, rfl, rfl, Below.refl _ _⟩
theorem opW_18 {o : Oper} (ho : opsW[18]? = some o) : o.op = .pick (.tmp 75) (.tmp 77) (.const (.bool false)) := by obtain ⟨_, rfl⟩ := Array.getElem?_eq_some_iff.1 ho; kernel_rfl
theorem stW_18 {Ax : Option Addr} {nx cx : Nat} {Ay : Option Addr} {ny cy bq oq cz x y z : Nat} {s : PairR} {W : World} {a0 : Act} {Q : Exit → Act → World → Prop} (F : FrW Ax nx cx Ay ny cy bq oq cz x y z a0) (G : WoW Ax nx cx Ay ny cy bq oq x y z s W) {o : Oper} {a : Act} {w' : World} (ho : opsW[18]? = some o) (hs : AnyHas .any opsW (phiW Ax nx cx Ay ny cy bq oq cz s) a0 o a w') (hb : Below W.heap.size W w') :
  o.wp Tryz.prog a w' (fun a' w'' => ∃ v, a' = a.put o.dst v ∧ phiW Ax nx cx Ay ny cy bq oq cz s 18 v w'' ∧ Below w'.heap.size w' w'') Q := by
 have hop := opW_18 ho
 obtain ⟨v75, hv75, ht75, he75⟩ := dep_at 15 75 ho hs (by kernel_rfl) (by kernel_rfl) (by rw [F.sz]; decide)
 obtain rfl : v75 = .bool true := hv75
 obtain ⟨v77, hv77, ht77, he77⟩ := dep_at 17 77 ho hs (by kernel_rfl) (by kernel_rfl) (by rw [F.sz]; decide)
 obtain rfl : v77 = .bool true := hv77
 exact core_pick _ _ _ hop he75 he77 ⟨_, rfl, rfl, Below.refl _ _⟩
theorem opW_19 {o : Oper} (ho : opsW[19]? = some o) : o.op = .move (.tmp 78) := by obtain ⟨_, rfl⟩ := Array.getElem?_eq_some_iff.1 ho; kernel_rfl
theorem stW_19 {Ax : Option Addr} {nx cx : Nat} {Ay : Option Addr} {ny cy bq oq cz x y z : Nat} {s : PairR} {W : World} {a0 : Act} {Q : Exit → Act → World → Prop} (F : FrW Ax nx cx Ay ny cy bq oq cz x y z a0) (G : WoW Ax nx cx Ay ny cy bq oq x y z s W) {o : Oper} {a : Act} {w' : World} (ho : opsW[19]? = some o) (hs : AnyHas .any opsW (phiW Ax nx cx Ay ny cy bq oq cz s) a0 o a w') (hb : Below W.heap.size W w') :
  o.wp Tryz.prog a w' (fun a' w'' => ∃ v, a' = a.put o.dst v ∧ phiW Ax nx cx Ay ny cy bq oq cz s 19 v w'' ∧ Below w'.heap.size w' w'') Q := by
 have hop := opW_19 ho
 obtain ⟨v78, hv78, ht78, he78⟩ := dep_at 18 78 ho hs (by kernel_rfl) (by kernel_rfl) (by rw [F.sz]; decide)
 obtain rfl : v78 = .bool true := hv78
 exact core_move _ hop he78 ⟨_, rfl, rfl, Below.refl _ _⟩
theorem opW_20 {o : Oper} (ho : opsW[20]? = some o) : o.op = .move (.tmp 9) := by obtain ⟨_, rfl⟩ := Array.getElem?_eq_some_iff.1 ho; kernel_rfl
theorem gdW_20 {Ax : Option Addr} {nx cx : Nat} {Ay : Option Addr} {ny cy bq oq cz x y z : Nat} {s : PairR} {a0 : Act} {o : Oper} {a : Act} {w' : World} (F : FrW Ax nx cx Ay ny cy bq oq cz x y z a0) (ho : opsW[20]? = some o) (hs : AnyHas .any opsW (phiW Ax nx cx Ay ny cy bq oq cz s) a0 o a w') : Region.wanted o (yielded opsW a.tmps) = true := by
 obtain ⟨v, hv, ht, _⟩ := dep_at 19 79 ho hs (by kernel_rfl) (by kernel_rfl) (by rw [F.sz]; decide)
 obtain rfl : v = .bool true := hv
 exact wanted_bool (by obtain ⟨_, rfl⟩ := Array.getElem?_eq_some_iff.1 ho; kernel_rfl : o.guard = some (19, true)) (by kernel_rfl) ht
theorem stW_20 {Ax : Option Addr} {nx cx : Nat} {Ay : Option Addr} {ny cy bq oq cz x y z : Nat} {s : PairR} {W : World} {a0 : Act} {Q : Exit → Act → World → Prop} (F : FrW Ax nx cx Ay ny cy bq oq cz x y z a0) (G : WoW Ax nx cx Ay ny cy bq oq x y z s W) {o : Oper} {a : Act} {w' : World} (ho : opsW[20]? = some o) (hs : AnyHas .any opsW (phiW Ax nx cx Ay ny cy bq oq cz s) a0 o a w') (hb : Below W.heap.size W w') :
  o.wp Tryz.prog a w' (fun a' w'' => ∃ v, a' = a.put o.dst v ∧ phiW Ax nx cx Ay ny cy bq oq cz s 20 v w'' ∧ Below w'.heap.size w' w'') Q := by
 have hop := opW_20 ho
 have ht9 := (hs.2.1 9 (noDst_w (by kernel_rfl))).trans F.t9
 have he9 : a.eval (.tmp 9) = .slice Ay ny cy := by simp [Act.eval, ht9]
 exact core_move _ hop he9 ⟨_, rfl, rfl, Below.refl _ _⟩
theorem opW_21 {o : Oper} (ho : opsW[21]? = some o) : o.op = .buildSlice 32 0 #[] := by obtain ⟨_, rfl⟩ := Array.getElem?_eq_some_iff.1 ho; kernel_rfl
theorem gdW_21 {Ax : Option Addr} {nx cx : Nat} {Ay : Option Addr} {ny cy bq oq cz x y z : Nat} {s : PairR} {a0 : Act} {o : Oper} {a : Act} {w' : World} (F : FrW Ax nx cx Ay ny cy bq oq cz x y z a0) (ho : opsW[21]? = some o) (hs : AnyHas .any opsW (phiW Ax nx cx Ay ny cy bq oq cz s) a0 o a w') : Region.wanted o (yielded opsW a.tmps) = true := by
 obtain ⟨v, hv, ht, _⟩ := dep_at 19 79 ho hs (by kernel_rfl) (by kernel_rfl) (by rw [F.sz]; decide)
 obtain rfl : v = .bool true := hv
 exact wanted_bool (by obtain ⟨_, rfl⟩ := Array.getElem?_eq_some_iff.1 ho; kernel_rfl : o.guard = some (19, true)) (by kernel_rfl) ht
theorem stW_21 {Ax : Option Addr} {nx cx : Nat} {Ay : Option Addr} {ny cy bq oq cz x y z : Nat} {s : PairR} {W : World} {a0 : Act} {Q : Exit → Act → World → Prop} (F : FrW Ax nx cx Ay ny cy bq oq cz x y z a0) (G : WoW Ax nx cx Ay ny cy bq oq x y z s W) {o : Oper} {a : Act} {w' : World} (ho : opsW[21]? = some o) (hs : AnyHas .any opsW (phiW Ax nx cx Ay ny cy bq oq cz s) a0 o a w') (hb : Below W.heap.size W w') :
  o.wp Tryz.prog a w' (fun a' w'' => ∃ v, a' = a.put o.dst v ∧ phiW Ax nx cx Ay ny cy bq oq cz s 21 v w'' ∧ Below w'.heap.size w' w'') Q := by
 have hop := opW_21 ho
 exact core_mk0 hop ⟨_, rfl, ⟨_, _, _, rfl, built_word w' [] 24 (by simp)⟩, bel⟩
theorem opW_22 {o : Oper} (ho : opsW[22]? = some o) : o.op = .load 24 (.tmp 4) := by obtain ⟨_, rfl⟩ := Array.getElem?_eq_some_iff.1 ho; kernel_rfl
theorem gdW_22 {Ax : Option Addr} {nx cx : Nat} {Ay : Option Addr} {ny cy bq oq cz x y z : Nat} {s : PairR} {a0 : Act} {o : Oper} {a : Act} {w' : World} (F : FrW Ax nx cx Ay ny cy bq oq cz x y z a0) (ho : opsW[22]? = some o) (hs : AnyHas .any opsW (phiW Ax nx cx Ay ny cy bq oq cz s) a0 o a w') : Region.wanted o (yielded opsW a.tmps) = true := by
 obtain ⟨v, hv, ht, _⟩ := dep_at 19 79 ho hs (by kernel_rfl) (by kernel_rfl) (by rw [F.sz]; decide)
 obtain rfl : v = .bool true := hv
 exact wanted_bool (by obtain ⟨_, rfl⟩ := Array.getElem?_eq_some_iff.1 ho; kernel_rfl : o.guard = some (19, true)) (by kernel_rfl) ht
theorem stW_22 {Ax : Option Addr} {nx cx : Nat} {Ay : Option Addr} {ny cy bq oq cz x y z : Nat} {s : PairR} {W : World} {a0 : Act} {Q : Exit → Act → World → Prop} (F : FrW Ax nx cx Ay ny cy bq oq cz x y z a0) (G : WoW Ax nx cx Ay ny cy bq oq x y z s W) {o : Oper} {a : Act} {w' : World} (ho : opsW[22]? = some o) (hs : AnyHas .any opsW (phiW Ax nx cx Ay ny cy bq oq cz s) a0 o a w') (hb : Below W.heap.size W w') :
  o.wp Tryz.prog a w' (fun a' w'' => ∃ v, a' = a.put o.dst v ∧ phiW Ax nx cx Ay ny cy bq oq cz s 22 v w'' ∧ Below w'.heap.size w' w'') Q := by
 have hop := opW_22 ho
 have ht4 := (hs.2.1 4 (noDst_w (by kernel_rfl))).trans F.t4
 have he4 : a.eval (.tmp 4) = .pointer (some ⟨x, 0, none⟩) := by simp [Act.eval, ht4]
 obtain ⟨d0, d1, _, _⟩ := snd_cells ((hb.block _ (lt_of_block G.kx)).trans G.kx)
 exact core_snd _ hop he4 d0 d1 ⟨_, rfl, rfl, Below.refl _ _⟩
theorem opW_23 {o : Oper} (ho : opsW[23]? = some o) : o.op = .buildSlice 32 1 #[(0, .tmp 82)] := by obtain ⟨_, rfl⟩ := Array.getElem?_eq_some_iff.1 ho; kernel_rfl
theorem gdW_23 {Ax : Option Addr} {nx cx : Nat} {Ay : Option Addr} {ny cy bq oq cz x y z : Nat} {s : PairR} {a0 : Act} {o : Oper} {a : Act} {w' : World} (F : FrW Ax nx cx Ay ny cy bq oq cz x y z a0) (ho : opsW[23]? = some o) (hs : AnyHas .any opsW (phiW Ax nx cx Ay ny cy bq oq cz s) a0 o a w') : Region.wanted o (yielded opsW a.tmps) = true := by
 obtain ⟨v, hv, ht, _⟩ := dep_at 19 79 ho hs (by kernel_rfl) (by kernel_rfl) (by rw [F.sz]; decide)
 obtain rfl : v = .bool true := hv
 exact wanted_bool (by obtain ⟨_, rfl⟩ := Array.getElem?_eq_some_iff.1 ho; kernel_rfl : o.guard = some (19, true)) (by kernel_rfl) ht
theorem stW_23 {Ax : Option Addr} {nx cx : Nat} {Ay : Option Addr} {ny cy bq oq cz x y z : Nat} {s : PairR} {W : World} {a0 : Act} {Q : Exit → Act → World → Prop} (F : FrW Ax nx cx Ay ny cy bq oq cz x y z a0) (G : WoW Ax nx cx Ay ny cy bq oq x y z s W) {o : Oper} {a : Act} {w' : World} (ho : opsW[23]? = some o) (hs : AnyHas .any opsW (phiW Ax nx cx Ay ny cy bq oq cz s) a0 o a w') (hb : Below W.heap.size W w') :
  o.wp Tryz.prog a w' (fun a' w'' => ∃ v, a' = a.put o.dst v ∧ phiW Ax nx cx Ay ny cy bq oq cz s 23 v w'' ∧ Below w'.heap.size w' w'') Q := by
 have hop := opW_23 ho
 obtain ⟨v82, hv82, ht82, he82⟩ := dep_at 22 82 ho hs (by kernel_rfl) (by kernel_rfl) (by rw [F.sz]; decide)
 obtain rfl : v82 = .agg #[.int .u32 2, .int .u32 5] := hv82
 exact core_mk1 _ hop (s := sP) ht82 ⟨_, rfl, ⟨_, _, _, rfl, built_word w' [sP] 24 (by simp)⟩, bel⟩
theorem opW_24 {o : Oper} (ho : opsW[24]? = some o) : o.op = .load 24 (.tmp 5) := by obtain ⟨_, rfl⟩ := Array.getElem?_eq_some_iff.1 ho; kernel_rfl
theorem gdW_24 {Ax : Option Addr} {nx cx : Nat} {Ay : Option Addr} {ny cy bq oq cz x y z : Nat} {s : PairR} {a0 : Act} {o : Oper} {a : Act} {w' : World} (F : FrW Ax nx cx Ay ny cy bq oq cz x y z a0) (ho : opsW[24]? = some o) (hs : AnyHas .any opsW (phiW Ax nx cx Ay ny cy bq oq cz s) a0 o a w') : Region.wanted o (yielded opsW a.tmps) = true := by
 obtain ⟨v, hv, ht, _⟩ := dep_at 19 79 ho hs (by kernel_rfl) (by kernel_rfl) (by rw [F.sz]; decide)
 obtain rfl : v = .bool true := hv
 exact wanted_bool (by obtain ⟨_, rfl⟩ := Array.getElem?_eq_some_iff.1 ho; kernel_rfl : o.guard = some (19, true)) (by kernel_rfl) ht
theorem stW_24 {Ax : Option Addr} {nx cx : Nat} {Ay : Option Addr} {ny cy bq oq cz x y z : Nat} {s : PairR} {W : World} {a0 : Act} {Q : Exit → Act → World → Prop} (F : FrW Ax nx cx Ay ny cy bq oq cz x y z a0) (G : WoW Ax nx cx Ay ny cy bq oq x y z s W) {o : Oper} {a : Act} {w' : World} (ho : opsW[24]? = some o) (hs : AnyHas .any opsW (phiW Ax nx cx Ay ny cy bq oq cz s) a0 o a w') (hb : Below W.heap.size W w') :
  o.wp Tryz.prog a w' (fun a' w'' => ∃ v, a' = a.put o.dst v ∧ phiW Ax nx cx Ay ny cy bq oq cz s 24 v w'' ∧ Below w'.heap.size w' w'') Q := by
 have hop := opW_24 ho
 have ht5 := (hs.2.1 5 (noDst_w (by kernel_rfl))).trans F.t5
 have he5 : a.eval (.tmp 5) = .pointer (some ⟨y, 0, none⟩) := by simp [Act.eval, ht5]
 obtain ⟨d0, d1, _, _⟩ := snd_cells ((hb.block _ (lt_of_block G.ky)).trans G.ky)
 exact core_snd _ hop he5 d0 d1 ⟨_, rfl, rfl, Below.refl _ _⟩
theorem opW_25 {o : Oper} (ho : opsW[25]? = some o) : o.op = .buildSlice 32 1 #[(0, .tmp 84)] := by obtain ⟨_, rfl⟩ := Array.getElem?_eq_some_iff.1 ho; kernel_rfl
theorem gdW_25 {Ax : Option Addr} {nx cx : Nat} {Ay : Option Addr} {ny cy bq oq cz x y z : Nat} {s : PairR} {a0 : Act} {o : Oper} {a : Act} {w' : World} (F : FrW Ax nx cx Ay ny cy bq oq cz x y z a0) (ho : opsW[25]? = some o) (hs : AnyHas .any opsW (phiW Ax nx cx Ay ny cy bq oq cz s) a0 o a w') : Region.wanted o (yielded opsW a.tmps) = true := by
 obtain ⟨v, hv, ht, _⟩ := dep_at 19 79 ho hs (by kernel_rfl) (by kernel_rfl) (by rw [F.sz]; decide)
 obtain rfl : v = .bool true := hv
 exact wanted_bool (by obtain ⟨_, rfl⟩ := Array.getElem?_eq_some_iff.1 ho; kernel_rfl : o.guard = some (19, true)) (by kernel_rfl) ht
theorem stW_25 {Ax : Option Addr} {nx cx : Nat} {Ay : Option Addr} {ny cy bq oq cz x y z : Nat} {s : PairR} {W : World} {a0 : Act} {Q : Exit → Act → World → Prop} (F : FrW Ax nx cx Ay ny cy bq oq cz x y z a0) (G : WoW Ax nx cx Ay ny cy bq oq x y z s W) {o : Oper} {a : Act} {w' : World} (ho : opsW[25]? = some o) (hs : AnyHas .any opsW (phiW Ax nx cx Ay ny cy bq oq cz s) a0 o a w') (hb : Below W.heap.size W w') :
  o.wp Tryz.prog a w' (fun a' w'' => ∃ v, a' = a.put o.dst v ∧ phiW Ax nx cx Ay ny cy bq oq cz s 25 v w'' ∧ Below w'.heap.size w' w'') Q := by
 have hop := opW_25 ho
 obtain ⟨v84, hv84, ht84, he84⟩ := dep_at 24 84 ho hs (by kernel_rfl) (by kernel_rfl) (by rw [F.sz]; decide)
 obtain rfl : v84 = .agg #[.int .u32 3, .int .u32 4] := hv84
 exact core_mk1 _ hop (s := sB) ht84 ⟨_, rfl, ⟨_, _, _, rfl, built_word w' [sB] 24 (by simp)⟩, bel⟩
theorem opW_26 {o : Oper} (ho : opsW[26]? = some o) : o.op = .buildSlice 46 3 #[(0, .tmp 81), (1, .tmp 83), (2, .tmp 85)] := by obtain ⟨_, rfl⟩ := Array.getElem?_eq_some_iff.1 ho; kernel_rfl
theorem gdW_26 {Ax : Option Addr} {nx cx : Nat} {Ay : Option Addr} {ny cy bq oq cz x y z : Nat} {s : PairR} {a0 : Act} {o : Oper} {a : Act} {w' : World} (F : FrW Ax nx cx Ay ny cy bq oq cz x y z a0) (ho : opsW[26]? = some o) (hs : AnyHas .any opsW (phiW Ax nx cx Ay ny cy bq oq cz s) a0 o a w') : Region.wanted o (yielded opsW a.tmps) = true := by
 obtain ⟨v, hv, ht, _⟩ := dep_at 19 79 ho hs (by kernel_rfl) (by kernel_rfl) (by rw [F.sz]; decide)
 obtain rfl : v = .bool true := hv
 exact wanted_bool (by obtain ⟨_, rfl⟩ := Array.getElem?_eq_some_iff.1 ho; kernel_rfl : o.guard = some (19, true)) (by kernel_rfl) ht
theorem stW_26 {Ax : Option Addr} {nx cx : Nat} {Ay : Option Addr} {ny cy bq oq cz x y z : Nat} {s : PairR} {W : World} {a0 : Act} {Q : Exit → Act → World → Prop} (F : FrW Ax nx cx Ay ny cy bq oq cz x y z a0) (G : WoW Ax nx cx Ay ny cy bq oq x y z s W) {o : Oper} {a : Act} {w' : World} (ho : opsW[26]? = some o) (hs : AnyHas .any opsW (phiW Ax nx cx Ay ny cy bq oq cz s) a0 o a w') (hb : Below W.heap.size W w') :
  o.wp Tryz.prog a w' (fun a' w'' => ∃ v, a' = a.put o.dst v ∧ phiW Ax nx cx Ay ny cy bq oq cz s 26 v w'' ∧ Below w'.heap.size w' w'') Q := by
 have hop := opW_26 ho
 obtain ⟨v81, hv81, ht81, he81⟩ := dep_at 21 81 ho hs (by kernel_rfl) (by kernel_rfl) (by rw [F.sz]; decide)
 obtain ⟨A81, n81, c81, rfl, hp81⟩ := hv81
 obtain ⟨v83, hv83, ht83, he83⟩ := dep_at 23 83 ho hs (by kernel_rfl) (by kernel_rfl) (by rw [F.sz]; decide)
 obtain ⟨A83, n83, c83, rfl, hp83⟩ := hv83
 obtain ⟨v85, hv85, ht85, he85⟩ := dep_at 25 85 ho hs (by kernel_rfl) (by kernel_rfl) (by rw [F.sz]; decide)
 obtain ⟨A85, n85, c85, rfl, hp85⟩ := hv85
 refine core_ws3 _ _ _ hop (p := (A81, n81, c81, [])) (q := (A83, n83, c83, [sP])) (r := (A85, n85, c85, [sB])) ht81 ht83 ht85 ⟨_, rfl, ⟨_, _, _, rfl, built_words w' [(A81, n81, c81, []), (A83, n83, c83, [sP]), (A85, n85, c85, [sB])] 32 (by simp) ?_⟩, bel⟩
 intro p hp
 simp only [List.mem_cons, List.not_mem_nil, or_false] at hp
 rcases hp with rfl | rfl | rfl
 ·exact hp81
 ·exact hp83
 ·exact hp85
theorem opW_27 {o : Oper} (ho : opsW[27]? = some o) : o.op = .call { callee := .value (.func 45), args := #[.tmp 80, .tmp 86], argTypes := #[46, 46] } := by obtain ⟨_, rfl⟩ := Array.getElem?_eq_some_iff.1 ho; kernel_rfl
theorem gdW_27 {Ax : Option Addr} {nx cx : Nat} {Ay : Option Addr} {ny cy bq oq cz x y z : Nat} {s : PairR} {a0 : Act} {o : Oper} {a : Act} {w' : World} (F : FrW Ax nx cx Ay ny cy bq oq cz x y z a0) (ho : opsW[27]? = some o) (hs : AnyHas .any opsW (phiW Ax nx cx Ay ny cy bq oq cz s) a0 o a w') : Region.wanted o (yielded opsW a.tmps) = true := by
 obtain ⟨v, hv, ht, _⟩ := dep_at 19 79 ho hs (by kernel_rfl) (by kernel_rfl) (by rw [F.sz]; decide)
 obtain rfl : v = .bool true := hv
 exact wanted_bool (by obtain ⟨_, rfl⟩ := Array.getElem?_eq_some_iff.1 ho; kernel_rfl : o.guard = some (19, true)) (by kernel_rfl) ht
theorem stW_27 {Ax : Option Addr} {nx cx : Nat} {Ay : Option Addr} {ny cy bq oq cz x y z : Nat} {s : PairR} {W : World} {a0 : Act} {Q : Exit → Act → World → Prop} (F : FrW Ax nx cx Ay ny cy bq oq cz x y z a0) (G : WoW Ax nx cx Ay ny cy bq oq x y z s W) {o : Oper} {a : Act} {w' : World} (ho : opsW[27]? = some o) (hs : AnyHas .any opsW (phiW Ax nx cx Ay ny cy bq oq cz s) a0 o a w') (hb : Below W.heap.size W w') :
  o.wp Tryz.prog a w' (fun a' w'' => ∃ v, a' = a.put o.dst v ∧ phiW Ax nx cx Ay ny cy bq oq cz s 27 v w'' ∧ Below w'.heap.size w' w'') Q := by
 have hop := opW_27 ho
 obtain ⟨v80, hv80, ht80, he80⟩ := dep_at 20 80 ho hs (by kernel_rfl) (by kernel_rfl) (by rw [F.sz]; decide)
 obtain rfl : v80 = .slice Ay ny cy := hv80
 obtain ⟨v86, hv86, ht86, he86⟩ := dep_at 26 86 ho hs (by kernel_rfl) (by kernel_rfl) (by rw [F.sz]; decide)
 obtain ⟨A86, n86, c86, rfl, hp86⟩ := hv86
 refine core_call _ _ _ _ hop ht80 ht86 (enters_of Tryz.func45 (by kernel_rfl) rfl) ?_ (fun w2 h2 => ⟨_, rfl, rfl, h2⟩)
 refine (rSame_c Ay A86 ny n86 cy c86 [[], [sP], [sB]] [[], [sP], [sB]] w' (G.r2.below hb rr) hp86).mono ?_
 rintro e w2 ⟨rfl, hb2⟩
 exact ⟨by rw [decide_eq_true rfl], hb2⟩
theorem opW_28 {o : Oper} (ho : opsW[28]? = some o) : o.op = .pick (.tmp 79) (.tmp 87) (.const (.bool false)) := by obtain ⟨_, rfl⟩ := Array.getElem?_eq_some_iff.1 ho; kernel_rfl
theorem stW_28 {Ax : Option Addr} {nx cx : Nat} {Ay : Option Addr} {ny cy bq oq cz x y z : Nat} {s : PairR} {W : World} {a0 : Act} {Q : Exit → Act → World → Prop} (F : FrW Ax nx cx Ay ny cy bq oq cz x y z a0) (G : WoW Ax nx cx Ay ny cy bq oq x y z s W) {o : Oper} {a : Act} {w' : World} (ho : opsW[28]? = some o) (hs : AnyHas .any opsW (phiW Ax nx cx Ay ny cy bq oq cz s) a0 o a w') (hb : Below W.heap.size W w') :
  o.wp Tryz.prog a w' (fun a' w'' => ∃ v, a' = a.put o.dst v ∧ phiW Ax nx cx Ay ny cy bq oq cz s 28 v w'' ∧ Below w'.heap.size w' w'') Q := by
 have hop := opW_28 ho
 obtain ⟨v79, hv79, ht79, he79⟩ := dep_at 19 79 ho hs (by kernel_rfl) (by kernel_rfl) (by rw [F.sz]; decide)
 obtain rfl : v79 = .bool true := hv79
 obtain ⟨v87, hv87, ht87, he87⟩ := dep_at 27 87 ho hs (by kernel_rfl) (by kernel_rfl) (by rw [F.sz]; decide)
 obtain rfl : v87 = .bool true := hv87
 exact core_pick _ _ _ hop he79 he87 ⟨_, rfl, rfl, Below.refl _ _⟩
theorem opW_29 {o : Oper} (ho : opsW[29]? = some o) : o.op = .move (.tmp 88) := by obtain ⟨_, rfl⟩ := Array.getElem?_eq_some_iff.1 ho; kernel_rfl
theorem stW_29 {Ax : Option Addr} {nx cx : Nat} {Ay : Option Addr} {ny cy bq oq cz x y z : Nat} {s : PairR} {W : World} {a0 : Act} {Q : Exit → Act → World → Prop} (F : FrW Ax nx cx Ay ny cy bq oq cz x y z a0) (G : WoW Ax nx cx Ay ny cy bq oq x y z s W) {o : Oper} {a : Act} {w' : World} (ho : opsW[29]? = some o) (hs : AnyHas .any opsW (phiW Ax nx cx Ay ny cy bq oq cz s) a0 o a w') (hb : Below W.heap.size W w') :
  o.wp Tryz.prog a w' (fun a' w'' => ∃ v, a' = a.put o.dst v ∧ phiW Ax nx cx Ay ny cy bq oq cz s 29 v w'' ∧ Below w'.heap.size w' w'') Q := by
 have hop := opW_29 ho
 obtain ⟨v88, hv88, ht88, he88⟩ := dep_at 28 88 ho hs (by kernel_rfl) (by kernel_rfl) (by rw [F.sz]; decide)
 obtain rfl : v88 = .bool true := hv88
 exact core_move _ hop he88 ⟨_, rfl, rfl, Below.refl _ _⟩
theorem opW_30 {o : Oper} (ho : opsW[30]? = some o) : o.op = .move (.tmp 12) := by obtain ⟨_, rfl⟩ := Array.getElem?_eq_some_iff.1 ho; kernel_rfl
theorem gdW_30 {Ax : Option Addr} {nx cx : Nat} {Ay : Option Addr} {ny cy bq oq cz x y z : Nat} {s : PairR} {a0 : Act} {o : Oper} {a : Act} {w' : World} (F : FrW Ax nx cx Ay ny cy bq oq cz x y z a0) (ho : opsW[30]? = some o) (hs : AnyHas .any opsW (phiW Ax nx cx Ay ny cy bq oq cz s) a0 o a w') : Region.wanted o (yielded opsW a.tmps) = true := by
 obtain ⟨v, hv, ht, _⟩ := dep_at 29 89 ho hs (by kernel_rfl) (by kernel_rfl) (by rw [F.sz]; decide)
 obtain rfl : v = .bool true := hv
 exact wanted_bool (by obtain ⟨_, rfl⟩ := Array.getElem?_eq_some_iff.1 ho; kernel_rfl : o.guard = some (29, true)) (by kernel_rfl) ht
theorem stW_30 {Ax : Option Addr} {nx cx : Nat} {Ay : Option Addr} {ny cy bq oq cz x y z : Nat} {s : PairR} {W : World} {a0 : Act} {Q : Exit → Act → World → Prop} (F : FrW Ax nx cx Ay ny cy bq oq cz x y z a0) (G : WoW Ax nx cx Ay ny cy bq oq x y z s W) {o : Oper} {a : Act} {w' : World} (ho : opsW[30]? = some o) (hs : AnyHas .any opsW (phiW Ax nx cx Ay ny cy bq oq cz s) a0 o a w') (hb : Below W.heap.size W w') :
  o.wp Tryz.prog a w' (fun a' w'' => ∃ v, a' = a.put o.dst v ∧ phiW Ax nx cx Ay ny cy bq oq cz s 30 v w'' ∧ Below w'.heap.size w' w'') Q := by
 have hop := opW_30 ho
 have ht12 := (hs.2.1 12 (noDst_w (by kernel_rfl))).trans F.t12
 have he12 : a.eval (.tmp 12) = .int .i64 0 := by simp [Act.eval, ht12]
 exact core_move _ hop he12 ⟨_, rfl, rfl, Below.refl _ _⟩
theorem opW_31 {o : Oper} (ho : opsW[31]? = some o) : o.op = .binOp .eql 37 (.tmp 90) (.const (.int .i64 0)) 37 := by obtain ⟨_, rfl⟩ := Array.getElem?_eq_some_iff.1 ho; kernel_rfl
theorem gdW_31 {Ax : Option Addr} {nx cx : Nat} {Ay : Option Addr} {ny cy bq oq cz x y z : Nat} {s : PairR} {a0 : Act} {o : Oper} {a : Act} {w' : World} (F : FrW Ax nx cx Ay ny cy bq oq cz x y z a0) (ho : opsW[31]? = some o) (hs : AnyHas .any opsW (phiW Ax nx cx Ay ny cy bq oq cz s) a0 o a w') : Region.wanted o (yielded opsW a.tmps) = true := by
 obtain ⟨v, hv, ht, _⟩ := dep_at 29 89 ho hs (by kernel_rfl) (by kernel_rfl) (by rw [F.sz]; decide)
 obtain rfl : v = .bool true := hv
 exact wanted_bool (by obtain ⟨_, rfl⟩ := Array.getElem?_eq_some_iff.1 ho; kernel_rfl : o.guard = some (29, true)) (by kernel_rfl) ht
theorem stW_31 {Ax : Option Addr} {nx cx : Nat} {Ay : Option Addr} {ny cy bq oq cz x y z : Nat} {s : PairR} {W : World} {a0 : Act} {Q : Exit → Act → World → Prop} (F : FrW Ax nx cx Ay ny cy bq oq cz x y z a0) (G : WoW Ax nx cx Ay ny cy bq oq x y z s W) {o : Oper} {a : Act} {w' : World} (ho : opsW[31]? = some o) (hs : AnyHas .any opsW (phiW Ax nx cx Ay ny cy bq oq cz s) a0 o a w') (hb : Below W.heap.size W w') :
  o.wp Tryz.prog a w' (fun a' w'' => ∃ v, a' = a.put o.dst v ∧ phiW Ax nx cx Ay ny cy bq oq cz s 31 v w'' ∧ Below w'.heap.size w' w'') Q := by
 have hop := opW_31 ho
 obtain ⟨v90, hv90, ht90, he90⟩ := dep_at 30 90 ho hs (by kernel_rfl) (by kernel_rfl) (by rw [F.sz]; decide)
 obtain rfl : v90 = .int .i64 0 := hv90
 exact core_eql _ _ _ _ hop (by decide) he90 rfl ⟨_, rfl, rfl, Below.refl _ _⟩
theorem opW_32 {o : Oper} (ho : opsW[32]? = some o) : o.op = .pick (.tmp 89) (.tmp 91) (.const (.bool false)) := by obtain ⟨_, rfl⟩ := Array.getElem?_eq_some_iff.1 ho; kernel_rfl
theorem stW_32 {Ax : Option Addr} {nx cx : Nat} {Ay : Option Addr} {ny cy bq oq cz x y z : Nat} {s : PairR} {W : World} {a0 : Act} {Q : Exit → Act → World → Prop} (F : FrW Ax nx cx Ay ny cy bq oq cz x y z a0) (G : WoW Ax nx cx Ay ny cy bq oq x y z s W) {o : Oper} {a : Act} {w' : World} (ho : opsW[32]? = some o) (hs : AnyHas .any opsW (phiW Ax nx cx Ay ny cy bq oq cz s) a0 o a w') (hb : Below W.heap.size W w') :
  o.wp Tryz.prog a w' (fun a' w'' => ∃ v, a' = a.put o.dst v ∧ phiW Ax nx cx Ay ny cy bq oq cz s 32 v w'' ∧ Below w'.heap.size w' w'') Q := by
 have hop := opW_32 ho
 obtain ⟨v89, hv89, ht89, he89⟩ := dep_at 29 89 ho hs (by kernel_rfl) (by kernel_rfl) (by rw [F.sz]; decide)
 obtain rfl : v89 = .bool true := hv89
 obtain ⟨v91, hv91, ht91, he91⟩ := dep_at 31 91 ho hs (by kernel_rfl) (by kernel_rfl) (by rw [F.sz]; decide)
 obtain rfl : v91 = .bool true := hv91
 exact core_pick _ _ _ hop he89 he91 ⟨_, rfl, rfl, Below.refl _ _⟩
theorem opW_33 {o : Oper} (ho : opsW[33]? = some o) : o.op = .move (.tmp 92) := by obtain ⟨_, rfl⟩ := Array.getElem?_eq_some_iff.1 ho; kernel_rfl
theorem stW_33 {Ax : Option Addr} {nx cx : Nat} {Ay : Option Addr} {ny cy bq oq cz x y z : Nat} {s : PairR} {W : World} {a0 : Act} {Q : Exit → Act → World → Prop} (F : FrW Ax nx cx Ay ny cy bq oq cz x y z a0) (G : WoW Ax nx cx Ay ny cy bq oq x y z s W) {o : Oper} {a : Act} {w' : World} (ho : opsW[33]? = some o) (hs : AnyHas .any opsW (phiW Ax nx cx Ay ny cy bq oq cz s) a0 o a w') (hb : Below W.heap.size W w') :
  o.wp Tryz.prog a w' (fun a' w'' => ∃ v, a' = a.put o.dst v ∧ phiW Ax nx cx Ay ny cy bq oq cz s 33 v w'' ∧ Below w'.heap.size w' w'') Q := by
 have hop := opW_33 ho
 obtain ⟨v92, hv92, ht92, he92⟩ := dep_at 32 92 ho hs (by kernel_rfl) (by kernel_rfl) (by rw [F.sz]; decide)
 obtain rfl : v92 = .bool true := hv92
 exact core_move _ hop he92 ⟨_, rfl, rfl, Below.refl _ _⟩
theorem opW_34 {o : Oper} (ho : opsW[34]? = some o) : o.op = .move (.tmp 11) := by obtain ⟨_, rfl⟩ := Array.getElem?_eq_some_iff.1 ho; kernel_rfl
theorem gdW_34 {Ax : Option Addr} {nx cx : Nat} {Ay : Option Addr} {ny cy bq oq cz x y z : Nat} {s : PairR} {a0 : Act} {o : Oper} {a : Act} {w' : World} (F : FrW Ax nx cx Ay ny cy bq oq cz x y z a0) (ho : opsW[34]? = some o) (hs : AnyHas .any opsW (phiW Ax nx cx Ay ny cy bq oq cz s) a0 o a w') : Region.wanted o (yielded opsW a.tmps) = true := by
 obtain ⟨v, hv, ht, _⟩ := dep_at 33 93 ho hs (by kernel_rfl) (by kernel_rfl) (by rw [F.sz]; decide)
 obtain rfl : v = .bool true := hv
 exact wanted_bool (by obtain ⟨_, rfl⟩ := Array.getElem?_eq_some_iff.1 ho; kernel_rfl : o.guard = some (33, true)) (by kernel_rfl) ht
theorem stW_34 {Ax : Option Addr} {nx cx : Nat} {Ay : Option Addr} {ny cy bq oq cz x y z : Nat} {s : PairR} {W : World} {a0 : Act} {Q : Exit → Act → World → Prop} (F : FrW Ax nx cx Ay ny cy bq oq cz x y z a0) (G : WoW Ax nx cx Ay ny cy bq oq x y z s W) {o : Oper} {a : Act} {w' : World} (ho : opsW[34]? = some o) (hs : AnyHas .any opsW (phiW Ax nx cx Ay ny cy bq oq cz s) a0 o a w') (hb : Below W.heap.size W w') :
  o.wp Tryz.prog a w' (fun a' w'' => ∃ v, a' = a.put o.dst v ∧ phiW Ax nx cx Ay ny cy bq oq cz s 34 v w'' ∧ Below w'.heap.size w' w'') Q := by
 have hop := opW_34 ho
 have ht11 := (hs.2.1 11 (noDst_w (by kernel_rfl))).trans F.t11
 have he11 : a.eval (.tmp 11) = .slice (some ⟨bq, oq, none⟩) 1 cz := by simp [Act.eval, ht11]
 exact core_move _ hop he11 ⟨_, rfl, rfl, Below.refl _ _⟩
theorem opW_35 {o : Oper} (ho : opsW[35]? = some o) : o.op = .call { callee := .builtin .len, args := #[.tmp 94], argTypes := #[47] } := by obtain ⟨_, rfl⟩ := Array.getElem?_eq_some_iff.1 ho; kernel_rfl
theorem gdW_35 {Ax : Option Addr} {nx cx : Nat} {Ay : Option Addr} {ny cy bq oq cz x y z : Nat} {s : PairR} {a0 : Act} {o : Oper} {a : Act} {w' : World} (F : FrW Ax nx cx Ay ny cy bq oq cz x y z a0) (ho : opsW[35]? = some o) (hs : AnyHas .any opsW (phiW Ax nx cx Ay ny cy bq oq cz s) a0 o a w') : Region.wanted o (yielded opsW a.tmps) = true := by
 obtain ⟨v, hv, ht, _⟩ := dep_at 33 93 ho hs (by kernel_rfl) (by kernel_rfl) (by rw [F.sz]; decide)
 obtain rfl : v = .bool true := hv
 exact wanted_bool (by obtain ⟨_, rfl⟩ := Array.getElem?_eq_some_iff.1 ho; kernel_rfl : o.guard = some (33, true)) (by kernel_rfl) ht
theorem stW_35 {Ax : Option Addr} {nx cx : Nat} {Ay : Option Addr} {ny cy bq oq cz x y z : Nat} {s : PairR} {W : World} {a0 : Act} {Q : Exit → Act → World → Prop} (F : FrW Ax nx cx Ay ny cy bq oq cz x y z a0) (G : WoW Ax nx cx Ay ny cy bq oq x y z s W) {o : Oper} {a : Act} {w' : World} (ho : opsW[35]? = some o) (hs : AnyHas .any opsW (phiW Ax nx cx Ay ny cy bq oq cz s) a0 o a w') (hb : Below W.heap.size W w') :
  o.wp Tryz.prog a w' (fun a' w'' => ∃ v, a' = a.put o.dst v ∧ phiW Ax nx cx Ay ny cy bq oq cz s 35 v w'' ∧ Below w'.heap.size w' w'') Q := by
 have hop := opW_35 ho
 obtain ⟨v94, hv94, ht94, he94⟩ := dep_at 34 94 ho hs (by kernel_rfl) (by kernel_rfl) (by rw [F.sz]; decide)
 obtain rfl : v94 = .slice (some ⟨bq, oq, none⟩) 1 cz := hv94
 exact core_len _ hop ht94 ⟨_, rfl, rfl, Below.refl _ _⟩
theorem opW_36 {o : Oper} (ho : opsW[36]? = some o) : o.op = .binOp .eql 3 (.tmp 95) (.const (.int .i64 1)) 3 := by obtain ⟨_, rfl⟩ := Array.getElem?_eq_some_iff.1 ho; kernel_rfl
theorem gdW_36 {Ax : Option Addr} {nx cx : Nat} {Ay : Option Addr} {ny cy bq oq cz x y z : Nat} {s : PairR} {a0 : Act} {o : Oper} {a : Act} {w' : World} (F : FrW Ax nx cx Ay ny cy bq oq cz x y z a0) (ho : opsW[36]? = some o) (hs : AnyHas .any opsW (phiW Ax nx cx Ay ny cy bq oq cz s) a0 o a w') : Region.wanted o (yielded opsW a.tmps) = true := by
 obtain ⟨v, hv, ht, _⟩ := dep_at 33 93 ho hs (by kernel_rfl) (by kernel_rfl) (by rw [F.sz]; decide)
 obtain rfl : v = .bool true := hv
 exact wanted_bool (by obtain ⟨_, rfl⟩ := Array.getElem?_eq_some_iff.1 ho; kernel_rfl : o.guard = some (33, true)) (by kernel_rfl) ht
theorem stW_36 {Ax : Option Addr} {nx cx : Nat} {Ay : Option Addr} {ny cy bq oq cz x y z : Nat} {s : PairR} {W : World} {a0 : Act} {Q : Exit → Act → World → Prop} (F : FrW Ax nx cx Ay ny cy bq oq cz x y z a0) (G : WoW Ax nx cx Ay ny cy bq oq x y z s W) {o : Oper} {a : Act} {w' : World} (ho : opsW[36]? = some o) (hs : AnyHas .any opsW (phiW Ax nx cx Ay ny cy bq oq cz s) a0 o a w') (hb : Below W.heap.size W w') :
  o.wp Tryz.prog a w' (fun a' w'' => ∃ v, a' = a.put o.dst v ∧ phiW Ax nx cx Ay ny cy bq oq cz s 36 v w'' ∧ Below w'.heap.size w' w'') Q := by
 have hop := opW_36 ho
 obtain ⟨v95, hv95, ht95, he95⟩ := dep_at 35 95 ho hs (by kernel_rfl) (by kernel_rfl) (by rw [F.sz]; decide)
 obtain rfl : v95 = .int .i64 1 := hv95
 exact core_eql _ _ _ _ hop (by decide) he95 rfl ⟨_, rfl, rfl, Below.refl _ _⟩
theorem opW_37 {o : Oper} (ho : opsW[37]? = some o) : o.op = .pick (.tmp 93) (.tmp 96) (.const (.bool false)) := by obtain ⟨_, rfl⟩ := Array.getElem?_eq_some_iff.1 ho; kernel_rfl
theorem stW_37 {Ax : Option Addr} {nx cx : Nat} {Ay : Option Addr} {ny cy bq oq cz x y z : Nat} {s : PairR} {W : World} {a0 : Act} {Q : Exit → Act → World → Prop} (F : FrW Ax nx cx Ay ny cy bq oq cz x y z a0) (G : WoW Ax nx cx Ay ny cy bq oq x y z s W) {o : Oper} {a : Act} {w' : World} (ho : opsW[37]? = some o) (hs : AnyHas .any opsW (phiW Ax nx cx Ay ny cy bq oq cz s) a0 o a w') (hb : Below W.heap.size W w') :
  o.wp Tryz.prog a w' (fun a' w'' => ∃ v, a' = a.put o.dst v ∧ phiW Ax nx cx Ay ny cy bq oq cz s 37 v w'' ∧ Below w'.heap.size w' w'') Q := by
 have hop := opW_37 ho
 obtain ⟨v93, hv93, ht93, he93⟩ := dep_at 33 93 ho hs (by kernel_rfl) (by kernel_rfl) (by rw [F.sz]; decide)
 obtain rfl : v93 = .bool true := hv93
 obtain ⟨v96, hv96, ht96, he96⟩ := dep_at 36 96 ho hs (by kernel_rfl) (by kernel_rfl) (by rw [F.sz]; decide)
 obtain rfl : v96 = .bool true := hv96
 exact core_pick _ _ _ hop he93 he96 ⟨_, rfl, rfl, Below.refl _ _⟩
theorem opW_38 {o : Oper} (ho : opsW[38]? = some o) : o.op = .move (.tmp 97) := by obtain ⟨_, rfl⟩ := Array.getElem?_eq_some_iff.1 ho; kernel_rfl
theorem stW_38 {Ax : Option Addr} {nx cx : Nat} {Ay : Option Addr} {ny cy bq oq cz x y z : Nat} {s : PairR} {W : World} {a0 : Act} {Q : Exit → Act → World → Prop} (F : FrW Ax nx cx Ay ny cy bq oq cz x y z a0) (G : WoW Ax nx cx Ay ny cy bq oq x y z s W) {o : Oper} {a : Act} {w' : World} (ho : opsW[38]? = some o) (hs : AnyHas .any opsW (phiW Ax nx cx Ay ny cy bq oq cz s) a0 o a w') (hb : Below W.heap.size W w') :
  o.wp Tryz.prog a w' (fun a' w'' => ∃ v, a' = a.put o.dst v ∧ phiW Ax nx cx Ay ny cy bq oq cz s 38 v w'' ∧ Below w'.heap.size w' w'') Q := by
 have hop := opW_38 ho
 obtain ⟨v97, hv97, ht97, he97⟩ := dep_at 37 97 ho hs (by kernel_rfl) (by kernel_rfl) (by rw [F.sz]; decide)
 obtain rfl : v97 = .bool true := hv97
 exact core_move _ hop he97 ⟨_, rfl, rfl, Below.refl _ _⟩
theorem opW_39 {o : Oper} (ho : opsW[39]? = some o) : o.op = .move (.tmp 11) := by obtain ⟨_, rfl⟩ := Array.getElem?_eq_some_iff.1 ho; kernel_rfl
theorem gdW_39 {Ax : Option Addr} {nx cx : Nat} {Ay : Option Addr} {ny cy bq oq cz x y z : Nat} {s : PairR} {a0 : Act} {o : Oper} {a : Act} {w' : World} (F : FrW Ax nx cx Ay ny cy bq oq cz x y z a0) (ho : opsW[39]? = some o) (hs : AnyHas .any opsW (phiW Ax nx cx Ay ny cy bq oq cz s) a0 o a w') : Region.wanted o (yielded opsW a.tmps) = true := by
 obtain ⟨v, hv, ht, _⟩ := dep_at 38 98 ho hs (by kernel_rfl) (by kernel_rfl) (by rw [F.sz]; decide)
 obtain rfl : v = .bool true := hv
 exact wanted_bool (by obtain ⟨_, rfl⟩ := Array.getElem?_eq_some_iff.1 ho; kernel_rfl : o.guard = some (38, true)) (by kernel_rfl) ht
theorem stW_39 {Ax : Option Addr} {nx cx : Nat} {Ay : Option Addr} {ny cy bq oq cz x y z : Nat} {s : PairR} {W : World} {a0 : Act} {Q : Exit → Act → World → Prop} (F : FrW Ax nx cx Ay ny cy bq oq cz x y z a0) (G : WoW Ax nx cx Ay ny cy bq oq x y z s W) {o : Oper} {a : Act} {w' : World} (ho : opsW[39]? = some o) (hs : AnyHas .any opsW (phiW Ax nx cx Ay ny cy bq oq cz s) a0 o a w') (hb : Below W.heap.size W w') :
  o.wp Tryz.prog a w' (fun a' w'' => ∃ v, a' = a.put o.dst v ∧ phiW Ax nx cx Ay ny cy bq oq cz s 39 v w'' ∧ Below w'.heap.size w' w'') Q := by
 have hop := opW_39 ho
 have ht11 := (hs.2.1 11 (noDst_w (by kernel_rfl))).trans F.t11
 have he11 : a.eval (.tmp 11) = .slice (some ⟨bq, oq, none⟩) 1 cz := by simp [Act.eval, ht11]
 exact core_move _ hop he11 ⟨_, rfl, rfl, Below.refl _ _⟩
theorem opW_40 {o : Oper} (ho : opsW[40]? = some o) : o.op = .indexAddr 47 (.tmp 99) (.const (.int .i64 0)) := by obtain ⟨_, rfl⟩ := Array.getElem?_eq_some_iff.1 ho; kernel_rfl
theorem gdW_40 {Ax : Option Addr} {nx cx : Nat} {Ay : Option Addr} {ny cy bq oq cz x y z : Nat} {s : PairR} {a0 : Act} {o : Oper} {a : Act} {w' : World} (F : FrW Ax nx cx Ay ny cy bq oq cz x y z a0) (ho : opsW[40]? = some o) (hs : AnyHas .any opsW (phiW Ax nx cx Ay ny cy bq oq cz s) a0 o a w') : Region.wanted o (yielded opsW a.tmps) = true := by
 obtain ⟨v, hv, ht, _⟩ := dep_at 38 98 ho hs (by kernel_rfl) (by kernel_rfl) (by rw [F.sz]; decide)
 obtain rfl : v = .bool true := hv
 exact wanted_bool (by obtain ⟨_, rfl⟩ := Array.getElem?_eq_some_iff.1 ho; kernel_rfl : o.guard = some (38, true)) (by kernel_rfl) ht
theorem stW_40 {Ax : Option Addr} {nx cx : Nat} {Ay : Option Addr} {ny cy bq oq cz x y z : Nat} {s : PairR} {W : World} {a0 : Act} {Q : Exit → Act → World → Prop} (F : FrW Ax nx cx Ay ny cy bq oq cz x y z a0) (G : WoW Ax nx cx Ay ny cy bq oq x y z s W) {o : Oper} {a : Act} {w' : World} (ho : opsW[40]? = some o) (hs : AnyHas .any opsW (phiW Ax nx cx Ay ny cy bq oq cz s) a0 o a w') (hb : Below W.heap.size W w') :
  o.wp Tryz.prog a w' (fun a' w'' => ∃ v, a' = a.put o.dst v ∧ phiW Ax nx cx Ay ny cy bq oq cz s 40 v w'' ∧ Below w'.heap.size w' w'') Q := by
 have hop := opW_40 ho
 obtain ⟨v99, hv99, ht99, he99⟩ := dep_at 39 99 ho hs (by kernel_rfl) (by kernel_rfl) (by rw [F.sz]; decide)
 obtain rfl : v99 = .slice (some ⟨bq, oq, none⟩) 1 cz := hv99
 exact core_index _ hop he99 ⟨_, rfl, rfl, Below.refl _ _⟩
theorem opW_41 {o : Oper} (ho : opsW[41]? = some o) : o.op = .fieldAddr 52 (.tmp 100) 0 := by obtain ⟨_, rfl⟩ := Array.getElem?_eq_some_iff.1 ho; kernel_rfl
theorem gdW_41 {Ax : Option Addr} {nx cx : Nat} {Ay : Option Addr} {ny cy bq oq cz x y z : Nat} {s : PairR} {a0 : Act} {o : Oper} {a : Act} {w' : World} (F : FrW Ax nx cx Ay ny cy bq oq cz x y z a0) (ho : opsW[41]? = some o) (hs : AnyHas .any opsW (phiW Ax nx cx Ay ny cy bq oq cz s) a0 o a w') : Region.wanted o (yielded opsW a.tmps) = true := by
 obtain ⟨v, hv, ht, _⟩ := dep_at 38 98 ho hs (by kernel_rfl) (by kernel_rfl) (by rw [F.sz]; decide)
 obtain rfl : v = .bool true := hv
 exact wanted_bool (by obtain ⟨_, rfl⟩ := Array.getElem?_eq_some_iff.1 ho; kernel_rfl : o.guard = some (38, true)) (by kernel_rfl) ht
theorem stW_41 {Ax : Option Addr} {nx cx : Nat} {Ay : Option Addr} {ny cy bq oq cz x y z : Nat} {s : PairR} {W : World} {a0 : Act} {Q : Exit → Act → World → Prop} (F : FrW Ax nx cx Ay ny cy bq oq cz x y z a0) (G : WoW Ax nx cx Ay ny cy bq oq x y z s W) {o : Oper} {a : Act} {w' : World} (ho : opsW[41]? = some o) (hs : AnyHas .any opsW (phiW Ax nx cx Ay ny cy bq oq cz s) a0 o a w') (hb : Below W.heap.size W w') :
  o.wp Tryz.prog a w' (fun a' w'' => ∃ v, a' = a.put o.dst v ∧ phiW Ax nx cx Ay ny cy bq oq cz s 41 v w'' ∧ Below w'.heap.size w' w'') Q := by
 have hop := opW_41 ho
 obtain ⟨v100, hv100, ht100, he100⟩ := dep_at 40 100 ho hs (by kernel_rfl) (by kernel_rfl) (by rw [F.sz]; decide)
 obtain rfl : v100 = .pointer (some ⟨bq, oq, none⟩) := hv100
 exact core_field _ _ hop (by decide) he100 ⟨_, rfl, rfl, Below.refl _ _⟩
theorem opW_42 {o : Oper} (ho : opsW[42]? = some o) : o.op = .load 32 (.tmp 101) := by obtain ⟨_, rfl⟩ := Array.getElem?_eq_some_iff.1 ho; kernel_rfl
theorem gdW_42 {Ax : Option Addr} {nx cx : Nat} {Ay : Option Addr} {ny cy bq oq cz x y z : Nat} {s : PairR} {a0 : Act} {o : Oper} {a : Act} {w' : World} (F : FrW Ax nx cx Ay ny cy bq oq cz x y z a0) (ho : opsW[42]? = some o) (hs : AnyHas .any opsW (phiW Ax nx cx Ay ny cy bq oq cz s) a0 o a w') : Region.wanted o (yielded opsW a.tmps) = true := by
 obtain ⟨v, hv, ht, _⟩ := dep_at 38 98 ho hs (by kernel_rfl) (by kernel_rfl) (by rw [F.sz]; decide)
 obtain rfl : v = .bool true := hv
 exact wanted_bool (by obtain ⟨_, rfl⟩ := Array.getElem?_eq_some_iff.1 ho; kernel_rfl : o.guard = some (38, true)) (by kernel_rfl) ht
theorem stW_42 {Ax : Option Addr} {nx cx : Nat} {Ay : Option Addr} {ny cy bq oq cz x y z : Nat} {s : PairR} {W : World} {a0 : Act} {Q : Exit → Act → World → Prop} (F : FrW Ax nx cx Ay ny cy bq oq cz x y z a0) (G : WoW Ax nx cx Ay ny cy bq oq x y z s W) {o : Oper} {a : Act} {w' : World} (ho : opsW[42]? = some o) (hs : AnyHas .any opsW (phiW Ax nx cx Ay ny cy bq oq cz s) a0 o a w') (hb : Below W.heap.size W w') :
  o.wp Tryz.prog a w' (fun a' w'' => ∃ v, a' = a.put o.dst v ∧ phiW Ax nx cx Ay ny cy bq oq cz s 42 v w'' ∧ Below w'.heap.size w' w'') Q := by
 have hop := opW_42 ho
 obtain ⟨v101, hv101, ht101, he101⟩ := dep_at 41 101 ho hs (by kernel_rfl) (by kernel_rfl) (by rw [F.sz]; decide)
 obtain rfl : v101 = .pointer (some ⟨bq, oq, none⟩) := hv101
 exact core_word _ hop he101 ((hb.cell (p := ⟨bq, oq, none⟩) G.lt).trans G.cp) ⟨_, rfl, rfl, Below.refl _ _⟩
theorem opW_43 {o : Oper} (ho : opsW[43]? = some o) : o.op = .load 24 (.tmp 6) := by obtain ⟨_, rfl⟩ := Array.getElem?_eq_some_iff.1 ho; kernel_rfl
theorem gdW_43 {Ax : Option Addr} {nx cx : Nat} {Ay : Option Addr} {ny cy bq oq cz x y z : Nat} {s : PairR} {a0 : Act} {o : Oper} {a : Act} {w' : World} (F : FrW Ax nx cx Ay ny cy bq oq cz x y z a0) (ho : opsW[43]? = some o) (hs : AnyHas .any opsW (phiW Ax nx cx Ay ny cy bq oq cz s) a0 o a w') : Region.wanted o (yielded opsW a.tmps) = true := by
 obtain ⟨v, hv, ht, _⟩ := dep_at 38 98 ho hs (by kernel_rfl) (by kernel_rfl) (by rw [F.sz]; decide)
 obtain rfl : v = .bool true := hv
 exact wanted_bool (by obtain ⟨_, rfl⟩ := Array.getElem?_eq_some_iff.1 ho; kernel_rfl : o.guard = some (38, true)) (by kernel_rfl) ht
theorem stW_43 {Ax : Option Addr} {nx cx : Nat} {Ay : Option Addr} {ny cy bq oq cz x y z : Nat} {s : PairR} {W : World} {a0 : Act} {Q : Exit → Act → World → Prop} (F : FrW Ax nx cx Ay ny cy bq oq cz x y z a0) (G : WoW Ax nx cx Ay ny cy bq oq x y z s W) {o : Oper} {a : Act} {w' : World} (ho : opsW[43]? = some o) (hs : AnyHas .any opsW (phiW Ax nx cx Ay ny cy bq oq cz s) a0 o a w') (hb : Below W.heap.size W w') :
  o.wp Tryz.prog a w' (fun a' w'' => ∃ v, a' = a.put o.dst v ∧ phiW Ax nx cx Ay ny cy bq oq cz s 43 v w'' ∧ Below w'.heap.size w' w'') Q := by
 have hop := opW_43 ho
 have ht6 := (hs.2.1 6 (noDst_w (by kernel_rfl))).trans F.t6
 have he6 : a.eval (.tmp 6) = .pointer (some ⟨z, 0, none⟩) := by simp [Act.eval, ht6]
 obtain ⟨d0, d1, _, _⟩ := snd_cells ((hb.block _ (lt_of_block G.kz)).trans G.kz)
 exact core_snd _ hop he6 d0 d1 ⟨_, rfl, rfl, Below.refl _ _⟩
theorem opW_44 {o : Oper} (ho : opsW[44]? = some o) : o.op = .load 24 (.tmp 4) := by obtain ⟨_, rfl⟩ := Array.getElem?_eq_some_iff.1 ho; kernel_rfl
theorem gdW_44 {Ax : Option Addr} {nx cx : Nat} {Ay : Option Addr} {ny cy bq oq cz x y z : Nat} {s : PairR} {a0 : Act} {o : Oper} {a : Act} {w' : World} (F : FrW Ax nx cx Ay ny cy bq oq cz x y z a0) (ho : opsW[44]? = some o) (hs : AnyHas .any opsW (phiW Ax nx cx Ay ny cy bq oq cz s) a0 o a w') : Region.wanted o (yielded opsW a.tmps) = true := by
 obtain ⟨v, hv, ht, _⟩ := dep_at 38 98 ho hs (by kernel_rfl) (by kernel_rfl) (by rw [F.sz]; decide)
 obtain rfl : v = .bool true := hv
 exact wanted_bool (by obtain ⟨_, rfl⟩ := Array.getElem?_eq_some_iff.1 ho; kernel_rfl : o.guard = some (38, true)) (by kernel_rfl) ht
theorem stW_44 {Ax : Option Addr} {nx cx : Nat} {Ay : Option Addr} {ny cy bq oq cz x y z : Nat} {s : PairR} {W : World} {a0 : Act} {Q : Exit → Act → World → Prop} (F : FrW Ax nx cx Ay ny cy bq oq cz x y z a0) (G : WoW Ax nx cx Ay ny cy bq oq x y z s W) {o : Oper} {a : Act} {w' : World} (ho : opsW[44]? = some o) (hs : AnyHas .any opsW (phiW Ax nx cx Ay ny cy bq oq cz s) a0 o a w') (hb : Below W.heap.size W w') :
  o.wp Tryz.prog a w' (fun a' w'' => ∃ v, a' = a.put o.dst v ∧ phiW Ax nx cx Ay ny cy bq oq cz s 44 v w'' ∧ Below w'.heap.size w' w'') Q := by
 have hop := opW_44 ho
 have ht4 := (hs.2.1 4 (noDst_w (by kernel_rfl))).trans F.t4
 have he4 : a.eval (.tmp 4) = .pointer (some ⟨x, 0, none⟩) := by simp [Act.eval, ht4]
 obtain ⟨d0, d1, _, _⟩ := snd_cells ((hb.block _ (lt_of_block G.kx)).trans G.kx)
 exact core_snd _ hop he4 d0 d1 ⟨_, rfl, rfl, Below.refl _ _⟩
theorem opW_45 {o : Oper} (ho : opsW[45]? = some o) : o.op = .load 24 (.tmp 6) := by obtain ⟨_, rfl⟩ := Array.getElem?_eq_some_iff.1 ho; kernel_rfl
theorem gdW_45 {Ax : Option Addr} {nx cx : Nat} {Ay : Option Addr} {ny cy bq oq cz x y z : Nat} {s : PairR} {a0 : Act} {o : Oper} {a : Act} {w' : World} (F : FrW Ax nx cx Ay ny cy bq oq cz x y z a0) (ho : opsW[45]? = some o) (hs : AnyHas .any opsW (phiW Ax nx cx Ay ny cy bq oq cz s) a0 o a w') : Region.wanted o (yielded opsW a.tmps) = true := by
 obtain ⟨v, hv, ht, _⟩ := dep_at 38 98 ho hs (by kernel_rfl) (by kernel_rfl) (by rw [F.sz]; decide)
 obtain rfl : v = .bool true := hv
 exact wanted_bool (by obtain ⟨_, rfl⟩ := Array.getElem?_eq_some_iff.1 ho; kernel_rfl : o.guard = some (38, true)) (by kernel_rfl) ht
theorem stW_45 {Ax : Option Addr} {nx cx : Nat} {Ay : Option Addr} {ny cy bq oq cz x y z : Nat} {s : PairR} {W : World} {a0 : Act} {Q : Exit → Act → World → Prop} (F : FrW Ax nx cx Ay ny cy bq oq cz x y z a0) (G : WoW Ax nx cx Ay ny cy bq oq x y z s W) {o : Oper} {a : Act} {w' : World} (ho : opsW[45]? = some o) (hs : AnyHas .any opsW (phiW Ax nx cx Ay ny cy bq oq cz s) a0 o a w') (hb : Below W.heap.size W w') :
  o.wp Tryz.prog a w' (fun a' w'' => ∃ v, a' = a.put o.dst v ∧ phiW Ax nx cx Ay ny cy bq oq cz s 45 v w'' ∧ Below w'.heap.size w' w'') Q := by
 have hop := opW_45 ho
 have ht6 := (hs.2.1 6 (noDst_w (by kernel_rfl))).trans F.t6
 have he6 : a.eval (.tmp 6) = .pointer (some ⟨z, 0, none⟩) := by simp [Act.eval, ht6]
 obtain ⟨d0, d1, _, _⟩ := snd_cells ((hb.block _ (lt_of_block G.kz)).trans G.kz)
 exact core_snd _ hop he6 d0 d1 ⟨_, rfl, rfl, Below.refl _ _⟩
theorem opW_46 {o : Oper} (ho : opsW[46]? = some o) : o.op = .buildSlice 32 3 #[(0, .tmp 103), (1, .tmp 104), (2, .tmp 105)] := by obtain ⟨_, rfl⟩ := Array.getElem?_eq_some_iff.1 ho; kernel_rfl
theorem gdW_46 {Ax : Option Addr} {nx cx : Nat} {Ay : Option Addr} {ny cy bq oq cz x y z : Nat} {s : PairR} {a0 : Act} {o : Oper} {a : Act} {w' : World} (F : FrW Ax nx cx Ay ny cy bq oq cz x y z a0) (ho : opsW[46]? = some o) (hs : AnyHas .any opsW (phiW Ax nx cx Ay ny cy bq oq cz s) a0 o a w') : Region.wanted o (yielded opsW a.tmps) = true := by
 obtain ⟨v, hv, ht, _⟩ := dep_at 38 98 ho hs (by kernel_rfl) (by kernel_rfl) (by rw [F.sz]; decide)
 obtain rfl : v = .bool true := hv
 exact wanted_bool (by obtain ⟨_, rfl⟩ := Array.getElem?_eq_some_iff.1 ho; kernel_rfl : o.guard = some (38, true)) (by kernel_rfl) ht
theorem stW_46 {Ax : Option Addr} {nx cx : Nat} {Ay : Option Addr} {ny cy bq oq cz x y z : Nat} {s : PairR} {W : World} {a0 : Act} {Q : Exit → Act → World → Prop} (F : FrW Ax nx cx Ay ny cy bq oq cz x y z a0) (G : WoW Ax nx cx Ay ny cy bq oq x y z s W) {o : Oper} {a : Act} {w' : World} (ho : opsW[46]? = some o) (hs : AnyHas .any opsW (phiW Ax nx cx Ay ny cy bq oq cz s) a0 o a w') (hb : Below W.heap.size W w') :
  o.wp Tryz.prog a w' (fun a' w'' => ∃ v, a' = a.put o.dst v ∧ phiW Ax nx cx Ay ny cy bq oq cz s 46 v w'' ∧ Below w'.heap.size w' w'') Q := by
 have hop := opW_46 ho
 obtain ⟨v103, hv103, ht103, he103⟩ := dep_at 43 103 ho hs (by kernel_rfl) (by kernel_rfl) (by rw [F.sz]; decide)
 obtain rfl : v103 = .agg #[.int .u32 5, .int .u32 2] := hv103
 obtain ⟨v104, hv104, ht104, he104⟩ := dep_at 44 104 ho hs (by kernel_rfl) (by kernel_rfl) (by rw [F.sz]; decide)
 obtain rfl : v104 = .agg #[.int .u32 2, .int .u32 5] := hv104
 obtain ⟨v105, hv105, ht105, he105⟩ := dep_at 45 105 ho hs (by kernel_rfl) (by kernel_rfl) (by rw [F.sz]; decide)
 obtain rfl : v105 = .agg #[.int .u32 5, .int .u32 2] := hv105
 exact core_mk3 _ _ _ hop (s := sA) (t := sP) (u := sA) ht103 ht104 ht105 ⟨_, rfl, ⟨_, _, _, rfl, built_word w' [sA, sP, sA] 24 (by simp)⟩, bel⟩
theorem opW_47 {o : Oper} (ho : opsW[47]? = some o) : o.op = .call { callee := .value (.func 86), args := #[.tmp 102, .tmp 106], argTypes := #[32, 32] } := by obtain ⟨_, rfl⟩ := Array.getElem?_eq_some_iff.1 ho; kernel_rfl
theorem gdW_47 {Ax : Option Addr} {nx cx : Nat} {Ay : Option Addr} {ny cy bq oq cz x y z : Nat} {s : PairR} {a0 : Act} {o : Oper} {a : Act} {w' : World} (F : FrW Ax nx cx Ay ny cy bq oq cz x y z a0) (ho : opsW[47]? = some o) (hs : AnyHas .any opsW (phiW Ax nx cx Ay ny cy bq oq cz s) a0 o a w') : Region.wanted o (yielded opsW a.tmps) = true := by
 obtain ⟨v, hv, ht, _⟩ := dep_at 38 98 ho hs (by kernel_rfl) (by kernel_rfl) (by rw [F.sz]; decide)
 obtain rfl : v = .bool true := hv
 exact wanted_bool (by obtain ⟨_, rfl⟩ := Array.getElem?_eq_some_iff.1 ho; kernel_rfl : o.guard = some (38, true)) (by kernel_rfl) ht
theorem stW_47 {Ax : Option Addr} {nx cx : Nat} {Ay : Option Addr} {ny cy bq oq cz x y z : Nat} {s : PairR} {W : World} {a0 : Act} {Q : Exit → Act → World → Prop} (F : FrW Ax nx cx Ay ny cy bq oq cz x y z a0) (G : WoW Ax nx cx Ay ny cy bq oq x y z s W) {o : Oper} {a : Act} {w' : World} (ho : opsW[47]? = some o) (hs : AnyHas .any opsW (phiW Ax nx cx Ay ny cy bq oq cz s) a0 o a w') (hb : Below W.heap.size W w') :
  o.wp Tryz.prog a w' (fun a' w'' => ∃ v, a' = a.put o.dst v ∧ phiW Ax nx cx Ay ny cy bq oq cz s 47 v w'' ∧ Below w'.heap.size w' w'') Q := by
 have hop := opW_47 ho
 obtain ⟨v102, hv102, ht102, he102⟩ := dep_at 42 102 ho hs (by kernel_rfl) (by kernel_rfl) (by rw [F.sz]; decide)
 obtain rfl : v102 = .slice s.p.1 s.p.2.1 s.p.2.2.1 := hv102
 obtain ⟨v106, hv106, ht106, he106⟩ := dep_at 46 106 ho hs (by kernel_rfl) (by kernel_rfl) (by rw [F.sz]; decide)
 obtain ⟨A106, n106, c106, rfl, hp106⟩ := hv106
 refine core_call _ _ _ _ hop ht102 ht106 (enters_of Tryz.func86 (by kernel_rfl) rfl) ?_ (fun w2 h2 => ⟨_, rfl, rfl, h2⟩)
 refine (rEqual_c s.p.1 A106 s.p.2.1 n106 s.p.2.2.1 c106 [sA, sP, sA] [sA, sP, sA] w' (G.pp.below hb rr) hp106).mono ?_
 rintro e w2 ⟨rfl, hb2⟩
 exact ⟨by rw [decide_eq_true rfl], hb2⟩
theorem opW_48 {o : Oper} (ho : opsW[48]? = some o) : o.op = .pick (.tmp 98) (.tmp 107) (.const (.bool false)) := by obtain ⟨_, rfl⟩ := Array.getElem?_eq_some_iff.1 ho; kernel_rfl
theorem stW_48 {Ax : Option Addr} {nx cx : Nat} {Ay : Option Addr} {ny cy bq oq cz x y z : Nat} {s : PairR} {W : World} {a0 : Act} {Q : Exit → Act → World → Prop} (F : FrW Ax nx cx Ay ny cy bq oq cz x y z a0) (G : WoW Ax nx cx Ay ny cy bq oq x y z s W) {o : Oper} {a : Act} {w' : World} (ho : opsW[48]? = some o) (hs : AnyHas .any opsW (phiW Ax nx cx Ay ny cy bq oq cz s) a0 o a w') (hb : Below W.heap.size W w') :
  o.wp Tryz.prog a w' (fun a' w'' => ∃ v, a' = a.put o.dst v ∧ phiW Ax nx cx Ay ny cy bq oq cz s 48 v w'' ∧ Below w'.heap.size w' w'') Q := by
 have hop := opW_48 ho
 obtain ⟨v98, hv98, ht98, he98⟩ := dep_at 38 98 ho hs (by kernel_rfl) (by kernel_rfl) (by rw [F.sz]; decide)
 obtain rfl : v98 = .bool true := hv98
 obtain ⟨v107, hv107, ht107, he107⟩ := dep_at 47 107 ho hs (by kernel_rfl) (by kernel_rfl) (by rw [F.sz]; decide)
 obtain rfl : v107 = .bool true := hv107
 exact core_pick _ _ _ hop he98 he107 ⟨_, rfl, rfl, Below.refl _ _⟩
theorem opW_49 {o : Oper} (ho : opsW[49]? = some o) : o.op = .move (.tmp 108) := by obtain ⟨_, rfl⟩ := Array.getElem?_eq_some_iff.1 ho; kernel_rfl
theorem stW_49 {Ax : Option Addr} {nx cx : Nat} {Ay : Option Addr} {ny cy bq oq cz x y z : Nat} {s : PairR} {W : World} {a0 : Act} {Q : Exit → Act → World → Prop} (F : FrW Ax nx cx Ay ny cy bq oq cz x y z a0) (G : WoW Ax nx cx Ay ny cy bq oq x y z s W) {o : Oper} {a : Act} {w' : World} (ho : opsW[49]? = some o) (hs : AnyHas .any opsW (phiW Ax nx cx Ay ny cy bq oq cz s) a0 o a w') (hb : Below W.heap.size W w') :
  o.wp Tryz.prog a w' (fun a' w'' => ∃ v, a' = a.put o.dst v ∧ phiW Ax nx cx Ay ny cy bq oq cz s 49 v w'' ∧ Below w'.heap.size w' w'') Q := by
 have hop := opW_49 ho
 obtain ⟨v108, hv108, ht108, he108⟩ := dep_at 48 108 ho hs (by kernel_rfl) (by kernel_rfl) (by rw [F.sz]; decide)
 obtain rfl : v108 = .bool true := hv108
 exact core_move _ hop he108 ⟨_, rfl, rfl, Below.refl _ _⟩
theorem opW_50 {o : Oper} (ho : opsW[50]? = some o) : o.op = .move (.tmp 11) := by obtain ⟨_, rfl⟩ := Array.getElem?_eq_some_iff.1 ho; kernel_rfl
theorem gdW_50 {Ax : Option Addr} {nx cx : Nat} {Ay : Option Addr} {ny cy bq oq cz x y z : Nat} {s : PairR} {a0 : Act} {o : Oper} {a : Act} {w' : World} (F : FrW Ax nx cx Ay ny cy bq oq cz x y z a0) (ho : opsW[50]? = some o) (hs : AnyHas .any opsW (phiW Ax nx cx Ay ny cy bq oq cz s) a0 o a w') : Region.wanted o (yielded opsW a.tmps) = true := by
 obtain ⟨v, hv, ht, _⟩ := dep_at 49 109 ho hs (by kernel_rfl) (by kernel_rfl) (by rw [F.sz]; decide)
 obtain rfl : v = .bool true := hv
 exact wanted_bool (by obtain ⟨_, rfl⟩ := Array.getElem?_eq_some_iff.1 ho; kernel_rfl : o.guard = some (49, true)) (by kernel_rfl) ht
theorem stW_50 {Ax : Option Addr} {nx cx : Nat} {Ay : Option Addr} {ny cy bq oq cz x y z : Nat} {s : PairR} {W : World} {a0 : Act} {Q : Exit → Act → World → Prop} (F : FrW Ax nx cx Ay ny cy bq oq cz x y z a0) (G : WoW Ax nx cx Ay ny cy bq oq x y z s W) {o : Oper} {a : Act} {w' : World} (ho : opsW[50]? = some o) (hs : AnyHas .any opsW (phiW Ax nx cx Ay ny cy bq oq cz s) a0 o a w') (hb : Below W.heap.size W w') :
  o.wp Tryz.prog a w' (fun a' w'' => ∃ v, a' = a.put o.dst v ∧ phiW Ax nx cx Ay ny cy bq oq cz s 50 v w'' ∧ Below w'.heap.size w' w'') Q := by
 have hop := opW_50 ho
 have ht11 := (hs.2.1 11 (noDst_w (by kernel_rfl))).trans F.t11
 have he11 : a.eval (.tmp 11) = .slice (some ⟨bq, oq, none⟩) 1 cz := by simp [Act.eval, ht11]
 exact core_move _ hop he11 ⟨_, rfl, rfl, Below.refl _ _⟩
theorem opW_51 {o : Oper} (ho : opsW[51]? = some o) : o.op = .indexAddr 47 (.tmp 110) (.const (.int .i64 0)) := by obtain ⟨_, rfl⟩ := Array.getElem?_eq_some_iff.1 ho; kernel_rfl
theorem gdW_51 {Ax : Option Addr} {nx cx : Nat} {Ay : Option Addr} {ny cy bq oq cz x y z : Nat} {s : PairR} {a0 : Act} {o : Oper} {a : Act} {w' : World} (F : FrW Ax nx cx Ay ny cy bq oq cz x y z a0) (ho : opsW[51]? = some o) (hs : AnyHas .any opsW (phiW Ax nx cx Ay ny cy bq oq cz s) a0 o a w') : Region.wanted o (yielded opsW a.tmps) = true := by
 obtain ⟨v, hv, ht, _⟩ := dep_at 49 109 ho hs (by kernel_rfl) (by kernel_rfl) (by rw [F.sz]; decide)
 obtain rfl : v = .bool true := hv
 exact wanted_bool (by obtain ⟨_, rfl⟩ := Array.getElem?_eq_some_iff.1 ho; kernel_rfl : o.guard = some (49, true)) (by kernel_rfl) ht
theorem stW_51 {Ax : Option Addr} {nx cx : Nat} {Ay : Option Addr} {ny cy bq oq cz x y z : Nat} {s : PairR} {W : World} {a0 : Act} {Q : Exit → Act → World → Prop} (F : FrW Ax nx cx Ay ny cy bq oq cz x y z a0) (G : WoW Ax nx cx Ay ny cy bq oq x y z s W) {o : Oper} {a : Act} {w' : World} (ho : opsW[51]? = some o) (hs : AnyHas .any opsW (phiW Ax nx cx Ay ny cy bq oq cz s) a0 o a w') (hb : Below W.heap.size W w') :
  o.wp Tryz.prog a w' (fun a' w'' => ∃ v, a' = a.put o.dst v ∧ phiW Ax nx cx Ay ny cy bq oq cz s 51 v w'' ∧ Below w'.heap.size w' w'') Q := by
 have hop := opW_51 ho
 obtain ⟨v110, hv110, ht110, he110⟩ := dep_at 50 110 ho hs (by kernel_rfl) (by kernel_rfl) (by rw [F.sz]; decide)
 obtain rfl : v110 = .slice (some ⟨bq, oq, none⟩) 1 cz := hv110
 exact core_index _ hop he110 ⟨_, rfl, rfl, Below.refl _ _⟩
theorem opW_52 {o : Oper} (ho : opsW[52]? = some o) : o.op = .fieldAddr 52 (.tmp 111) 1 := by obtain ⟨_, rfl⟩ := Array.getElem?_eq_some_iff.1 ho; kernel_rfl
theorem gdW_52 {Ax : Option Addr} {nx cx : Nat} {Ay : Option Addr} {ny cy bq oq cz x y z : Nat} {s : PairR} {a0 : Act} {o : Oper} {a : Act} {w' : World} (F : FrW Ax nx cx Ay ny cy bq oq cz x y z a0) (ho : opsW[52]? = some o) (hs : AnyHas .any opsW (phiW Ax nx cx Ay ny cy bq oq cz s) a0 o a w') : Region.wanted o (yielded opsW a.tmps) = true := by
 obtain ⟨v, hv, ht, _⟩ := dep_at 49 109 ho hs (by kernel_rfl) (by kernel_rfl) (by rw [F.sz]; decide)
 obtain rfl : v = .bool true := hv
 exact wanted_bool (by obtain ⟨_, rfl⟩ := Array.getElem?_eq_some_iff.1 ho; kernel_rfl : o.guard = some (49, true)) (by kernel_rfl) ht
theorem stW_52 {Ax : Option Addr} {nx cx : Nat} {Ay : Option Addr} {ny cy bq oq cz x y z : Nat} {s : PairR} {W : World} {a0 : Act} {Q : Exit → Act → World → Prop} (F : FrW Ax nx cx Ay ny cy bq oq cz x y z a0) (G : WoW Ax nx cx Ay ny cy bq oq x y z s W) {o : Oper} {a : Act} {w' : World} (ho : opsW[52]? = some o) (hs : AnyHas .any opsW (phiW Ax nx cx Ay ny cy bq oq cz s) a0 o a w') (hb : Below W.heap.size W w') :
  o.wp Tryz.prog a w' (fun a' w'' => ∃ v, a' = a.put o.dst v ∧ phiW Ax nx cx Ay ny cy bq oq cz s 52 v w'' ∧ Below w'.heap.size w' w'') Q := by
 have hop := opW_52 ho
 obtain ⟨v111, hv111, ht111, he111⟩ := dep_at 51 111 ho hs (by kernel_rfl) (by kernel_rfl) (by rw [F.sz]; decide)
 obtain rfl : v111 = .pointer (some ⟨bq, oq, none⟩) := hv111
 exact core_field _ _ hop (by decide) he111 ⟨_, rfl, rfl, Below.refl _ _⟩
theorem opW_53 {o : Oper} (ho : opsW[53]? = some o) : o.op = .load 32 (.tmp 112) := by obtain ⟨_, rfl⟩ := Array.getElem?_eq_some_iff.1 ho; kernel_rfl
theorem gdW_53 {Ax : Option Addr} {nx cx : Nat} {Ay : Option Addr} {ny cy bq oq cz x y z : Nat} {s : PairR} {a0 : Act} {o : Oper} {a : Act} {w' : World} (F : FrW Ax nx cx Ay ny cy bq oq cz x y z a0) (ho : opsW[53]? = some o) (hs : AnyHas .any opsW (phiW Ax nx cx Ay ny cy bq oq cz s) a0 o a w') : Region.wanted o (yielded opsW a.tmps) = true := by
 obtain ⟨v, hv, ht, _⟩ := dep_at 49 109 ho hs (by kernel_rfl) (by kernel_rfl) (by rw [F.sz]; decide)
 obtain rfl : v = .bool true := hv
 exact wanted_bool (by obtain ⟨_, rfl⟩ := Array.getElem?_eq_some_iff.1 ho; kernel_rfl : o.guard = some (49, true)) (by kernel_rfl) ht
theorem stW_53 {Ax : Option Addr} {nx cx : Nat} {Ay : Option Addr} {ny cy bq oq cz x y z : Nat} {s : PairR} {W : World} {a0 : Act} {Q : Exit → Act → World → Prop} (F : FrW Ax nx cx Ay ny cy bq oq cz x y z a0) (G : WoW Ax nx cx Ay ny cy bq oq x y z s W) {o : Oper} {a : Act} {w' : World} (ho : opsW[53]? = some o) (hs : AnyHas .any opsW (phiW Ax nx cx Ay ny cy bq oq cz s) a0 o a w') (hb : Below W.heap.size W w') :
  o.wp Tryz.prog a w' (fun a' w'' => ∃ v, a' = a.put o.dst v ∧ phiW Ax nx cx Ay ny cy bq oq cz s 53 v w'' ∧ Below w'.heap.size w' w'') Q := by
 have hop := opW_53 ho
 obtain ⟨v112, hv112, ht112, he112⟩ := dep_at 52 112 ho hs (by kernel_rfl) (by kernel_rfl) (by rw [F.sz]; decide)
 obtain rfl : v112 = .pointer (some ⟨bq, oq + 1, none⟩) := hv112
 exact core_word _ hop he112 ((hb.cell (p := ⟨bq, oq + 1, none⟩) G.lt).trans G.cq) ⟨_, rfl, rfl, Below.refl _ _⟩
theorem opW_54 {o : Oper} (ho : opsW[54]? = some o) : o.op = .load 24 (.tmp 6) := by obtain ⟨_, rfl⟩ := Array.getElem?_eq_some_iff.1 ho; kernel_rfl
theorem gdW_54 {Ax : Option Addr} {nx cx : Nat} {Ay : Option Addr} {ny cy bq oq cz x y z : Nat} {s : PairR} {a0 : Act} {o : Oper} {a : Act} {w' : World} (F : FrW Ax nx cx Ay ny cy bq oq cz x y z a0) (ho : opsW[54]? = some o) (hs : AnyHas .any opsW (phiW Ax nx cx Ay ny cy bq oq cz s) a0 o a w') : Region.wanted o (yielded opsW a.tmps) = true := by
 obtain ⟨v, hv, ht, _⟩ := dep_at 49 109 ho hs (by kernel_rfl) (by kernel_rfl) (by rw [F.sz]; decide)
 obtain rfl : v = .bool true := hv
 exact wanted_bool (by obtain ⟨_, rfl⟩ := Array.getElem?_eq_some_iff.1 ho; kernel_rfl : o.guard = some (49, true)) (by kernel_rfl) ht
theorem stW_54 {Ax : Option Addr} {nx cx : Nat} {Ay : Option Addr} {ny cy bq oq cz x y z : Nat} {s : PairR} {W : World} {a0 : Act} {Q : Exit → Act → World → Prop} (F : FrW Ax nx cx Ay ny cy bq oq cz x y z a0) (G : WoW Ax nx cx Ay ny cy bq oq x y z s W) {o : Oper} {a : Act} {w' : World} (ho : opsW[54]? = some o) (hs : AnyHas .any opsW (phiW Ax nx cx Ay ny cy bq oq cz s) a0 o a w') (hb : Below W.heap.size W w') :
  o.wp Tryz.prog a w' (fun a' w'' => ∃ v, a' = a.put o.dst v ∧ phiW Ax nx cx Ay ny cy bq oq cz s 54 v w'' ∧ Below w'.heap.size w' w'') Q := by
 have hop := opW_54 ho
 have ht6 := (hs.2.1 6 (noDst_w (by kernel_rfl))).trans F.t6
 have he6 : a.eval (.tmp 6) = .pointer (some ⟨z, 0, none⟩) := by simp [Act.eval, ht6]
 obtain ⟨d0, d1, _, _⟩ := snd_cells ((hb.block _ (lt_of_block G.kz)).trans G.kz)
 exact core_snd _ hop he6 d0 d1 ⟨_, rfl, rfl, Below.refl _ _⟩
theorem opW_55 {o : Oper} (ho : opsW[55]? = some o) : o.op = .load 24 (.tmp 5) := by obtain ⟨_, rfl⟩ := Array.getElem?_eq_some_iff.1 ho; kernel_rfl
theorem gdW_55 {Ax : Option Addr} {nx cx : Nat} {Ay : Option Addr} {ny cy bq oq cz x y z : Nat} {s : PairR} {a0 : Act} {o : Oper} {a : Act} {w' : World} (F : FrW Ax nx cx Ay ny cy bq oq cz x y z a0) (ho : opsW[55]? = some o) (hs : AnyHas .any opsW (phiW Ax nx cx Ay ny cy bq oq cz s) a0 o a w') : Region.wanted o (yielded opsW a.tmps) = true := by
 obtain ⟨v, hv, ht, _⟩ := dep_at 49 109 ho hs (by kernel_rfl) (by kernel_rfl) (by rw [F.sz]; decide)
 obtain rfl : v = .bool true := hv
 exact wanted_bool (by obtain ⟨_, rfl⟩ := Array.getElem?_eq_some_iff.1 ho; kernel_rfl : o.guard = some (49, true)) (by kernel_rfl) ht
theorem stW_55 {Ax : Option Addr} {nx cx : Nat} {Ay : Option Addr} {ny cy bq oq cz x y z : Nat} {s : PairR} {W : World} {a0 : Act} {Q : Exit → Act → World → Prop} (F : FrW Ax nx cx Ay ny cy bq oq cz x y z a0) (G : WoW Ax nx cx Ay ny cy bq oq x y z s W) {o : Oper} {a : Act} {w' : World} (ho : opsW[55]? = some o) (hs : AnyHas .any opsW (phiW Ax nx cx Ay ny cy bq oq cz s) a0 o a w') (hb : Below W.heap.size W w') :
  o.wp Tryz.prog a w' (fun a' w'' => ∃ v, a' = a.put o.dst v ∧ phiW Ax nx cx Ay ny cy bq oq cz s 55 v w'' ∧ Below w'.heap.size w' w'') Q := by
 have hop := opW_55 ho
 have ht5 := (hs.2.1 5 (noDst_w (by kernel_rfl))).trans F.t5
 have he5 : a.eval (.tmp 5) = .pointer (some ⟨y, 0, none⟩) := by simp [Act.eval, ht5]
 obtain ⟨d0, d1, _, _⟩ := snd_cells ((hb.block _ (lt_of_block G.ky)).trans G.ky)
 exact core_snd _ hop he5 d0 d1 ⟨_, rfl, rfl, Below.refl _ _⟩
theorem opW_56 {o : Oper} (ho : opsW[56]? = some o) : o.op = .load 24 (.tmp 6) := by obtain ⟨_, rfl⟩ := Array.getElem?_eq_some_iff.1 ho; kernel_rfl
theorem gdW_56 {Ax : Option Addr} {nx cx : Nat} {Ay : Option Addr} {ny cy bq oq cz x y z : Nat} {s : PairR} {a0 : Act} {o : Oper} {a : Act} {w' : World} (F : FrW Ax nx cx Ay ny cy bq oq cz x y z a0) (ho : opsW[56]? = some o) (hs : AnyHas .any opsW (phiW Ax nx cx Ay ny cy bq oq cz s) a0 o a w') : Region.wanted o (yielded opsW a.tmps) = true := by
 obtain ⟨v, hv, ht, _⟩ := dep_at 49 109 ho hs (by kernel_rfl) (by kernel_rfl) (by rw [F.sz]; decide)
 obtain rfl : v = .bool true := hv
 exact wanted_bool (by obtain ⟨_, rfl⟩ := Array.getElem?_eq_some_iff.1 ho; kernel_rfl : o.guard = some (49, true)) (by kernel_rfl) ht
theorem stW_56 {Ax : Option Addr} {nx cx : Nat} {Ay : Option Addr} {ny cy bq oq cz x y z : Nat} {s : PairR} {W : World} {a0 : Act} {Q : Exit → Act → World → Prop} (F : FrW Ax nx cx Ay ny cy bq oq cz x y z a0) (G : WoW Ax nx cx Ay ny cy bq oq x y z s W) {o : Oper} {a : Act} {w' : World} (ho : opsW[56]? = some o) (hs : AnyHas .any opsW (phiW Ax nx cx Ay ny cy bq oq cz s) a0 o a w') (hb : Below W.heap.size W w') :
  o.wp Tryz.prog a w' (fun a' w'' => ∃ v, a' = a.put o.dst v ∧ phiW Ax nx cx Ay ny cy bq oq cz s 56 v w'' ∧ Below w'.heap.size w' w'') Q := by
 have hop := opW_56 ho
 have ht6 := (hs.2.1 6 (noDst_w (by kernel_rfl))).trans F.t6
 have he6 : a.eval (.tmp 6) = .pointer (some ⟨z, 0, none⟩) := by simp [Act.eval, ht6]
 obtain ⟨d0, d1, _, _⟩ := snd_cells ((hb.block _ (lt_of_block G.kz)).trans G.kz)
 exact core_snd _ hop he6 d0 d1 ⟨_, rfl, rfl, Below.refl _ _⟩
theorem opW_57 {o : Oper} (ho : opsW[57]? = some o) : o.op = .buildSlice 32 3 #[(0, .tmp 114), (1, .tmp 115), (2, .tmp 116)] := by obtain ⟨_, rfl⟩ := Array.getElem?_eq_some_iff.1 ho; kernel_rfl
theorem gdW_57 {Ax : Option Addr} {nx cx : Nat} {Ay : Option Addr} {ny cy bq oq cz x y z : Nat} {s : PairR} {a0 : Act} {o : Oper} {a : Act} {w' : World} (F : FrW Ax nx cx Ay ny cy bq oq cz x y z a0) (ho : opsW[57]? = some o) (hs : AnyHas .any opsW (phiW Ax nx cx Ay ny cy bq oq cz s) a0 o a w') : Region.wanted o (yielded opsW a.tmps) = true := by
 obtain ⟨v, hv, ht, _⟩ := dep_at 49 109 ho hs (by kernel_rfl) (by kernel_rfl) (by rw [F.sz]; decide)
 obtain rfl : v = .bool true := hv
 exact wanted_bool (by obtain ⟨_, rfl⟩ := Array.getElem?_eq_some_iff.1 ho; kernel_rfl : o.guard = some (49, true)) (by kernel_rfl) ht
theorem stW_57 {Ax : Option Addr} {nx cx : Nat} {Ay : Option Addr} {ny cy bq oq cz x y z : Nat} {s : PairR} {W : World} {a0 : Act} {Q : Exit → Act → World → Prop} (F : FrW Ax nx cx Ay ny cy bq oq cz x y z a0) (G : WoW Ax nx cx Ay ny cy bq oq x y z s W) {o : Oper} {a : Act} {w' : World} (ho : opsW[57]? = some o) (hs : AnyHas .any opsW (phiW Ax nx cx Ay ny cy bq oq cz s) a0 o a w') (hb : Below W.heap.size W w') :
  o.wp Tryz.prog a w' (fun a' w'' => ∃ v, a' = a.put o.dst v ∧ phiW Ax nx cx Ay ny cy bq oq cz s 57 v w'' ∧ Below w'.heap.size w' w'') Q := by
 have hop := opW_57 ho
 obtain ⟨v114, hv114, ht114, he114⟩ := dep_at 54 114 ho hs (by kernel_rfl) (by kernel_rfl) (by rw [F.sz]; decide)
 obtain rfl : v114 = .agg #[.int .u32 5, .int .u32 2] := hv114
 obtain ⟨v115, hv115, ht115, he115⟩ := dep_at 55 115 ho hs (by kernel_rfl) (by kernel_rfl) (by rw [F.sz]; decide)
 obtain rfl : v115 = .agg #[.int .u32 3, .int .u32 4] := hv115
 obtain ⟨v116, hv116, ht116, he116⟩ := dep_at 56 116 ho hs (by kernel_rfl) (by kernel_rfl) (by rw [F.sz]; decide)
 obtain rfl : v116 = .agg #[.int .u32 5, .int .u32 2] := hv116
 exact core_mk3 _ _ _ hop (s := sA) (t := sB) (u := sA) ht114 ht115 ht116 ⟨_, rfl, ⟨_, _, _, rfl, built_word w' [sA, sB, sA] 24 (by simp)⟩, bel⟩
theorem opW_58 {o : Oper} (ho : opsW[58]? = some o) : o.op = .call { callee := .value (.func 86), args := #[.tmp 113, .tmp 117], argTypes := #[32, 32] } := by obtain ⟨_, rfl⟩ := Array.getElem?_eq_some_iff.1 ho; kernel_rfl
theorem gdW_58 {Ax : Option Addr} {nx cx : Nat} {Ay : Option Addr} {ny cy bq oq cz x y z : Nat} {s : PairR} {a0 : Act} {o : Oper} {a : Act} {w' : World} (F : FrW Ax nx cx Ay ny cy bq oq cz x y z a0) (ho : opsW[58]? = some o) (hs : AnyHas .any opsW (phiW Ax nx cx Ay ny cy bq oq cz s) a0 o a w') : Region.wanted o (yielded opsW a.tmps) = true := by
 obtain ⟨v, hv, ht, _⟩ := dep_at 49 109 ho hs (by kernel_rfl) (by kernel_rfl) (by rw [F.sz]; decide)
 obtain rfl : v = .bool true := hv
 exact wanted_bool (by obtain ⟨_, rfl⟩ := Array.getElem?_eq_some_iff.1 ho; kernel_rfl : o.guard = some (49, true)) (by kernel_rfl) ht
theorem stW_58 {Ax : Option Addr} {nx cx : Nat} {Ay : Option Addr} {ny cy bq oq cz x y z : Nat} {s : PairR} {W : World} {a0 : Act} {Q : Exit → Act → World → Prop} (F : FrW Ax nx cx Ay ny cy bq oq cz x y z a0) (G : WoW Ax nx cx Ay ny cy bq oq x y z s W) {o : Oper} {a : Act} {w' : World} (ho : opsW[58]? = some o) (hs : AnyHas .any opsW (phiW Ax nx cx Ay ny cy bq oq cz s) a0 o a w') (hb : Below W.heap.size W w') :
  o.wp Tryz.prog a w' (fun a' w'' => ∃ v, a' = a.put o.dst v ∧ phiW Ax nx cx Ay ny cy bq oq cz s 58 v w'' ∧ Below w'.heap.size w' w'') Q := by
 have hop := opW_58 ho
 obtain ⟨v113, hv113, ht113, he113⟩ := dep_at 53 113 ho hs (by kernel_rfl) (by kernel_rfl) (by rw [F.sz]; decide)
 obtain rfl : v113 = .slice s.q.1 s.q.2.1 s.q.2.2.1 := hv113
 obtain ⟨v117, hv117, ht117, he117⟩ := dep_at 57 117 ho hs (by kernel_rfl) (by kernel_rfl) (by rw [F.sz]; decide)
 obtain ⟨A117, n117, c117, rfl, hp117⟩ := hv117
 refine core_call _ _ _ _ hop ht113 ht117 (enters_of Tryz.func86 (by kernel_rfl) rfl) ?_ (fun w2 h2 => ⟨_, rfl, rfl, h2⟩)
 refine (rEqual_c s.q.1 A117 s.q.2.1 n117 s.q.2.2.1 c117 [sA, sB, sA] [sA, sB, sA] w' (G.pq.below hb rr) hp117).mono ?_
 rintro e w2 ⟨rfl, hb2⟩
 exact ⟨by rw [decide_eq_true rfl], hb2⟩
theorem opW_59 {o : Oper} (ho : opsW[59]? = some o) : o.op = .pick (.tmp 109) (.tmp 118) (.const (.bool false)) := by obtain ⟨_, rfl⟩ := Array.getElem?_eq_some_iff.1 ho; kernel_rfl
theorem stW_59 {Ax : Option Addr} {nx cx : Nat} {Ay : Option Addr} {ny cy bq oq cz x y z : Nat} {s : PairR} {W : World} {a0 : Act} {Q : Exit → Act → World → Prop} (F : FrW Ax nx cx Ay ny cy bq oq cz x y z a0) (G : WoW Ax nx cx Ay ny cy bq oq x y z s W) {o : Oper} {a : Act} {w' : World} (ho : opsW[59]? = some o) (hs : AnyHas .any opsW (phiW Ax nx cx Ay ny cy bq oq cz s) a0 o a w') (hb : Below W.heap.size W w') :
  o.wp Tryz.prog a w' (fun a' w'' => ∃ v, a' = a.put o.dst v ∧ phiW Ax nx cx Ay ny cy bq oq cz s 59 v w'' ∧ Below w'.heap.size w' w'') Q := by
 have hop := opW_59 ho
 obtain ⟨v109, hv109, ht109, he109⟩ := dep_at 49 109 ho hs (by kernel_rfl) (by kernel_rfl) (by rw [F.sz]; decide)
 obtain rfl : v109 = .bool true := hv109
 obtain ⟨v118, hv118, ht118, he118⟩ := dep_at 58 118 ho hs (by kernel_rfl) (by kernel_rfl) (by rw [F.sz]; decide)
 obtain rfl : v118 = .bool true := hv118
 exact core_pick _ _ _ hop he109 he118 ⟨_, rfl, rfl, Below.refl _ _⟩
theorem opW_60 {o : Oper} (ho : opsW[60]? = some o) : o.op = .move (.tmp 119) := by obtain ⟨_, rfl⟩ := Array.getElem?_eq_some_iff.1 ho; kernel_rfl
theorem stW_60 {Ax : Option Addr} {nx cx : Nat} {Ay : Option Addr} {ny cy bq oq cz x y z : Nat} {s : PairR} {W : World} {a0 : Act} {Q : Exit → Act → World → Prop} (F : FrW Ax nx cx Ay ny cy bq oq cz x y z a0) (G : WoW Ax nx cx Ay ny cy bq oq x y z s W) {o : Oper} {a : Act} {w' : World} (ho : opsW[60]? = some o) (hs : AnyHas .any opsW (phiW Ax nx cx Ay ny cy bq oq cz s) a0 o a w') (hb : Below W.heap.size W w') :
  o.wp Tryz.prog a w' (fun a' w'' => ∃ v, a' = a.put o.dst v ∧ phiW Ax nx cx Ay ny cy bq oq cz s 60 v w'' ∧ Below w'.heap.size w' w'') Q := by
 have hop := opW_60 ho
 obtain ⟨v119, hv119, ht119, he119⟩ := dep_at 59 119 ho hs (by kernel_rfl) (by kernel_rfl) (by rw [F.sz]; decide)
 obtain rfl : v119 = .bool true := hv119
 exact core_move _ hop he119 ⟨_, rfl, rfl, Below.refl _ _⟩
theorem opW_61 {o : Oper} (ho : opsW[61]? = some o) : o.op = .move (.tmp 13) := by obtain ⟨_, rfl⟩ := Array.getElem?_eq_some_iff.1 ho; kernel_rfl
theorem gdW_61 {Ax : Option Addr} {nx cx : Nat} {Ay : Option Addr} {ny cy bq oq cz x y z : Nat} {s : PairR} {a0 : Act} {o : Oper} {a : Act} {w' : World} (F : FrW Ax nx cx Ay ny cy bq oq cz x y z a0) (ho : opsW[61]? = some o) (hs : AnyHas .any opsW (phiW Ax nx cx Ay ny cy bq oq cz s) a0 o a w') : Region.wanted o (yielded opsW a.tmps) = true := by
 obtain ⟨v, hv, ht, _⟩ := dep_at 60 120 ho hs (by kernel_rfl) (by kernel_rfl) (by rw [F.sz]; decide)
 obtain rfl : v = .bool true := hv
 exact wanted_bool (by obtain ⟨_, rfl⟩ := Array.getElem?_eq_some_iff.1 ho; kernel_rfl : o.guard = some (60, true)) (by kernel_rfl) ht
theorem stW_61 {Ax : Option Addr} {nx cx : Nat} {Ay : Option Addr} {ny cy bq oq cz x y z : Nat} {s : PairR} {W : World} {a0 : Act} {Q : Exit → Act → World → Prop} (F : FrW Ax nx cx Ay ny cy bq oq cz x y z a0) (G : WoW Ax nx cx Ay ny cy bq oq x y z s W) {o : Oper} {a : Act} {w' : World} (ho : opsW[61]? = some o) (hs : AnyHas .any opsW (phiW Ax nx cx Ay ny cy bq oq cz s) a0 o a w') (hb : Below W.heap.size W w') :
  o.wp Tryz.prog a w' (fun a' w'' => ∃ v, a' = a.put o.dst v ∧ phiW Ax nx cx Ay ny cy bq oq cz s 61 v w'' ∧ Below w'.heap.size w' w'') Q := by
 have hop := opW_61 ho
 have ht13 := (hs.2.1 13 (noDst_w (by kernel_rfl))).trans F.t13
 have he13 : a.eval (.tmp 13) = .int .i64 6 := by simp [Act.eval, ht13]
 exact core_move _ hop he13 ⟨_, rfl, rfl, Below.refl _ _⟩
theorem opW_62 {o : Oper} (ho : opsW[62]? = some o) : o.op = .binOp .eql 3 (.tmp 121) (.const (.int .i64 6)) 3 := by obtain ⟨_, rfl⟩ := Array.getElem?_eq_some_iff.1 ho; kernel_rfl
theorem gdW_62 {Ax : Option Addr} {nx cx : Nat} {Ay : Option Addr} {ny cy bq oq cz x y z : Nat} {s : PairR} {a0 : Act} {o : Oper} {a : Act} {w' : World} (F : FrW Ax nx cx Ay ny cy bq oq cz x y z a0) (ho : opsW[62]? = some o) (hs : AnyHas .any opsW (phiW Ax nx cx Ay ny cy bq oq cz s) a0 o a w') : Region.wanted o (yielded opsW a.tmps) = true := by
 obtain ⟨v, hv, ht, _⟩ := dep_at 60 120 ho hs (by kernel_rfl) (by kernel_rfl) (by rw [F.sz]; decide)
 obtain rfl : v = .bool true := hv
 exact wanted_bool (by obtain ⟨_, rfl⟩ := Array.getElem?_eq_some_iff.1 ho; kernel_rfl : o.guard = some (60, true)) (by kernel_rfl) ht
theorem stW_62 {Ax : Option Addr} {nx cx : Nat} {Ay : Option Addr} {ny cy bq oq cz x y z : Nat} {s : PairR} {W : World} {a0 : Act} {Q : Exit → Act → World → Prop} (F : FrW Ax nx cx Ay ny cy bq oq cz x y z a0) (G : WoW Ax nx cx Ay ny cy bq oq x y z s W) {o : Oper} {a : Act} {w' : World} (ho : opsW[62]? = some o) (hs : AnyHas .any opsW (phiW Ax nx cx Ay ny cy bq oq cz s) a0 o a w') (hb : Below W.heap.size W w') :
  o.wp Tryz.prog a w' (fun a' w'' => ∃ v, a' = a.put o.dst v ∧ phiW Ax nx cx Ay ny cy bq oq cz s 62 v w'' ∧ Below w'.heap.size w' w'') Q := by
 have hop := opW_62 ho
 obtain ⟨v121, hv121, ht121, he121⟩ := dep_at 61 121 ho hs (by kernel_rfl) (by kernel_rfl) (by rw [F.sz]; decide)
 obtain rfl : v121 = .int .i64 6 := hv121
 exact core_eql _ _ _ _ hop (by decide) he121 rfl ⟨_, rfl, rfl, Below.refl _ _⟩
theorem opW_63 {o : Oper} (ho : opsW[63]? = some o) : o.op = .pick (.tmp 120) (.tmp 122) (.const (.bool false)) := by obtain ⟨_, rfl⟩ := Array.getElem?_eq_some_iff.1 ho; kernel_rfl
theorem stW_63 {Ax : Option Addr} {nx cx : Nat} {Ay : Option Addr} {ny cy bq oq cz x y z : Nat} {s : PairR} {W : World} {a0 : Act} {Q : Exit → Act → World → Prop} (F : FrW Ax nx cx Ay ny cy bq oq cz x y z a0) (G : WoW Ax nx cx Ay ny cy bq oq x y z s W) {o : Oper} {a : Act} {w' : World} (ho : opsW[63]? = some o) (hs : AnyHas .any opsW (phiW Ax nx cx Ay ny cy bq oq cz s) a0 o a w') (hb : Below W.heap.size W w') :
  o.wp Tryz.prog a w' (fun a' w'' => ∃ v, a' = a.put o.dst v ∧ phiW Ax nx cx Ay ny cy bq oq cz s 63 v w'' ∧ Below w'.heap.size w' w'') Q := by
 have hop := opW_63 ho
 obtain ⟨v120, hv120, ht120, he120⟩ := dep_at 60 120 ho hs (by kernel_rfl) (by kernel_rfl) (by rw [F.sz]; decide)
 obtain rfl : v120 = .bool true := hv120
 obtain ⟨v122, hv122, ht122, he122⟩ := dep_at 62 122 ho hs (by kernel_rfl) (by kernel_rfl) (by rw [F.sz]; decide)
 obtain rfl : v122 = .bool true := hv122
 exact core_pick _ _ _ hop he120 he122 ⟨_, rfl, rfl, Below.refl _ _⟩
theorem opW_64 {o : Oper} (ho : opsW[64]? = some o) : o.op = .move (.tmp 123) := by obtain ⟨_, rfl⟩ := Array.getElem?_eq_some_iff.1 ho; kernel_rfl
theorem stW_64 {Ax : Option Addr} {nx cx : Nat} {Ay : Option Addr} {ny cy bq oq cz x y z : Nat} {s : PairR} {W : World} {a0 : Act} {Q : Exit → Act → World → Prop} (F : FrW Ax nx cx Ay ny cy bq oq cz x y z a0) (G : WoW Ax nx cx Ay ny cy bq oq x y z s W) {o : Oper} {a : Act} {w' : World} (ho : opsW[64]? = some o) (hs : AnyHas .any opsW (phiW Ax nx cx Ay ny cy bq oq cz s) a0 o a w') (hb : Below W.heap.size W w') :
  o.wp Tryz.prog a w' (fun a' w'' => ∃ v, a' = a.put o.dst v ∧ phiW Ax nx cx Ay ny cy bq oq cz s 64 v w'' ∧ Below w'.heap.size w' w'') Q := by
 have hop := opW_64 ho
 obtain ⟨v123, hv123, ht123, he123⟩ := dep_at 63 123 ho hs (by kernel_rfl) (by kernel_rfl) (by rw [F.sz]; decide)
 obtain rfl : v123 = .bool true := hv123
 exact core_move _ hop he123 ⟨_, rfl, rfl, Below.refl _ _⟩
theorem opW_65 {o : Oper} (ho : opsW[65]? = some o) : o.op = .move (.tmp 14) := by obtain ⟨_, rfl⟩ := Array.getElem?_eq_some_iff.1 ho; kernel_rfl
theorem gdW_65 {Ax : Option Addr} {nx cx : Nat} {Ay : Option Addr} {ny cy bq oq cz x y z : Nat} {s : PairR} {a0 : Act} {o : Oper} {a : Act} {w' : World} (F : FrW Ax nx cx Ay ny cy bq oq cz x y z a0) (ho : opsW[65]? = some o) (hs : AnyHas .any opsW (phiW Ax nx cx Ay ny cy bq oq cz s) a0 o a w') : Region.wanted o (yielded opsW a.tmps) = true := by
 obtain ⟨v, hv, ht, _⟩ := dep_at 64 124 ho hs (by kernel_rfl) (by kernel_rfl) (by rw [F.sz]; decide)
 obtain rfl : v = .bool true := hv
 exact wanted_bool (by obtain ⟨_, rfl⟩ := Array.getElem?_eq_some_iff.1 ho; kernel_rfl : o.guard = some (64, true)) (by kernel_rfl) ht
theorem stW_65 {Ax : Option Addr} {nx cx : Nat} {Ay : Option Addr} {ny cy bq oq cz x y z : Nat} {s : PairR} {W : World} {a0 : Act} {Q : Exit → Act → World → Prop} (F : FrW Ax nx cx Ay ny cy bq oq cz x y z a0) (G : WoW Ax nx cx Ay ny cy bq oq x y z s W) {o : Oper} {a : Act} {w' : World} (ho : opsW[65]? = some o) (hs : AnyHas .any opsW (phiW Ax nx cx Ay ny cy bq oq cz s) a0 o a w') (hb : Below W.heap.size W w') :
  o.wp Tryz.prog a w' (fun a' w'' => ∃ v, a' = a.put o.dst v ∧ phiW Ax nx cx Ay ny cy bq oq cz s 65 v w'' ∧ Below w'.heap.size w' w'') Q := by
 have hop := opW_65 ho
 have ht14 := (hs.2.1 14 (noDst_w (by kernel_rfl))).trans F.t14
 have he14 : a.eval (.tmp 14) = .int .i64 0 := by simp [Act.eval, ht14]
 exact core_move _ hop he14 ⟨_, rfl, rfl, Below.refl _ _⟩
theorem opW_66 {o : Oper} (ho : opsW[66]? = some o) : o.op = .binOp .eql 37 (.tmp 125) (.const (.int .i64 0)) 37 := by obtain ⟨_, rfl⟩ := Array.getElem?_eq_some_iff.1 ho; kernel_rfl
theorem gdW_66 {Ax : Option Addr} {nx cx : Nat} {Ay : Option Addr} {ny cy bq oq cz x y z : Nat} {s : PairR} {a0 : Act} {o : Oper} {a : Act} {w' : World} (F : FrW Ax nx cx Ay ny cy bq oq cz x y z a0) (ho : opsW[66]? = some o) (hs : AnyHas .any opsW (phiW Ax nx cx Ay ny cy bq oq cz s) a0 o a w') : Region.wanted o (yielded opsW a.tmps) = true := by
 obtain ⟨v, hv, ht, _⟩ := dep_at 64 124 ho hs (by kernel_rfl) (by kernel_rfl) (by rw [F.sz]; decide)
 obtain rfl : v = .bool true := hv
 exact wanted_bool (by obtain ⟨_, rfl⟩ := Array.getElem?_eq_some_iff.1 ho; kernel_rfl : o.guard = some (64, true)) (by kernel_rfl) ht
theorem stW_66 {Ax : Option Addr} {nx cx : Nat} {Ay : Option Addr} {ny cy bq oq cz x y z : Nat} {s : PairR} {W : World} {a0 : Act} {Q : Exit → Act → World → Prop} (F : FrW Ax nx cx Ay ny cy bq oq cz x y z a0) (G : WoW Ax nx cx Ay ny cy bq oq x y z s W) {o : Oper} {a : Act} {w' : World} (ho : opsW[66]? = some o) (hs : AnyHas .any opsW (phiW Ax nx cx Ay ny cy bq oq cz s) a0 o a w') (hb : Below W.heap.size W w') :
  o.wp Tryz.prog a w' (fun a' w'' => ∃ v, a' = a.put o.dst v ∧ phiW Ax nx cx Ay ny cy bq oq cz s 66 v w'' ∧ Below w'.heap.size w' w'') Q := by
 have hop := opW_66 ho
 obtain ⟨v125, hv125, ht125, he125⟩ := dep_at 65 125 ho hs (by kernel_rfl) (by kernel_rfl) (by rw [F.sz]; decide)
 obtain rfl : v125 = .int .i64 0 := hv125
 exact core_eql _ _ _ _ hop (by decide) he125 rfl ⟨_, rfl, rfl, Below.refl _ _⟩
theorem opW_67 {o : Oper} (ho : opsW[67]? = some o) : o.op = .pick (.tmp 124) (.tmp 126) (.const (.bool false)) := by obtain ⟨_, rfl⟩ := Array.getElem?_eq_some_iff.1 ho; kernel_rfl
theorem stW_67 {Ax : Option Addr} {nx cx : Nat} {Ay : Option Addr} {ny cy bq oq cz x y z : Nat} {s : PairR} {W : World} {a0 : Act} {Q : Exit → Act → World → Prop} (F : FrW Ax nx cx Ay ny cy bq oq cz x y z a0) (G : WoW Ax nx cx Ay ny cy bq oq x y z s W) {o : Oper} {a : Act} {w' : World} (ho : opsW[67]? = some o) (hs : AnyHas .any opsW (phiW Ax nx cx Ay ny cy bq oq cz s) a0 o a w') (hb : Below W.heap.size W w') :
  o.wp Tryz.prog a w' (fun a' w'' => ∃ v, a' = a.put o.dst v ∧ phiW Ax nx cx Ay ny cy bq oq cz s 67 v w'' ∧ Below w'.heap.size w' w'') Q := by
 have hop := opW_67 ho
 obtain ⟨v124, hv124, ht124, he124⟩ := dep_at 64 124 ho hs (by kernel_rfl) (by kernel_rfl) (by rw [F.sz]; decide)
 obtain rfl : v124 = .bool true := hv124
 obtain ⟨v126, hv126, ht126, he126⟩ := dep_at 66 126 ho hs (by kernel_rfl) (by kernel_rfl) (by rw [F.sz]; decide)
 obtain rfl : v126 = .bool true := hv126
 exact core_pick _ _ _ hop he124 he126 ⟨_, rfl, rfl, Below.refl _ _⟩
theorem opW_68 {o : Oper} (ho : opsW[68]? = some o) : o.op = .assign (.tmp 127) := by obtain ⟨_, rfl⟩ := Array.getElem?_eq_some_iff.1 ho; kernel_rfl
theorem stW_68 {Ax : Option Addr} {nx cx : Nat} {Ay : Option Addr} {ny cy bq oq cz x y z : Nat} {s : PairR} {W : World} {a0 : Act} {Q : Exit → Act → World → Prop} (F : FrW Ax nx cx Ay ny cy bq oq cz x y z a0) (G : WoW Ax nx cx Ay ny cy bq oq x y z s W) {o : Oper} {a : Act} {w' : World} (ho : opsW[68]? = some o) (hs : AnyHas .any opsW (phiW Ax nx cx Ay ny cy bq oq cz s) a0 o a w') (hb : Below W.heap.size W w') :
  o.wp Tryz.prog a w' (fun a' w'' => ∃ v, a' = a.put o.dst v ∧ phiW Ax nx cx Ay ny cy bq oq cz s 68 v w'' ∧ Below w'.heap.size w' w'') Q := by
 have hop := opW_68 ho
 obtain ⟨v127, hv127, ht127, he127⟩ := dep_at 67 127 ho hs (by kernel_rfl) (by kernel_rfl) (by rw [F.sz]; decide)
 obtain rfl : v127 = .bool true := hv127
 exact core_assign _ hop he127 ⟨_, rfl, rfl, Below.refl _ _⟩
theorem opsW_cases {i : Nat} {o : Oper} (ho : opsW[i]? = some o) : i = 0 ∨ i = 1 ∨ i = 2 ∨ i = 3 ∨ i = 4 ∨ i = 5 ∨ i = 6 ∨ i = 7 ∨ i = 8 ∨ i = 9 ∨ i = 10 ∨ i = 11 ∨ i = 12 ∨ i = 13 ∨ i = 14 ∨ i = 15 ∨ i = 16 ∨ i = 17 ∨ i = 18 ∨ i = 19 ∨ i = 20 ∨ i = 21 ∨ i = 22 ∨ i = 23 ∨ i = 24 ∨ i = 25 ∨ i = 26 ∨ i = 27 ∨ i = 28 ∨ i = 29 ∨ i = 30 ∨ i = 31 ∨ i = 32 ∨ i = 33 ∨ i = 34 ∨ i = 35 ∨ i = 36 ∨ i = 37 ∨ i = 38 ∨ i = 39 ∨ i = 40 ∨ i = 41 ∨ i = 42 ∨ i = 43 ∨ i = 44 ∨ i = 45 ∨ i = 46 ∨ i = 47 ∨ i = 48 ∨ i = 49 ∨ i = 50 ∨ i = 51 ∨ i = 52 ∨ i = 53 ∨ i = 54 ∨ i = 55 ∨ i = 56 ∨ i = 57 ∨ i = 58 ∨ i = 59 ∨ i = 60 ∨ i = 61 ∨ i = 62 ∨ i = 63 ∨ i = 64 ∨ i = 65 ∨ i = 66 ∨ i = 67 ∨ i = 68 := by
 have h1 : i < opsW.size := (Array.getElem?_eq_some_iff.1 ho).1
 have h2 : opsW.size = 69 := by kernel_rfl
 omega
theorem stepsW {Ax : Option Addr} {nx cx : Nat} {Ay : Option Addr} {ny cy bq oq cz x y z : Nat} {s : PairR} {W : World} {a0 : Act} {Q : Exit → Act → World → Prop} (F : FrW Ax nx cx Ay ny cy bq oq cz x y z a0) (G : WoW Ax nx cx Ay ny cy bq oq x y z s W) {o : Oper} {a : Act} {w' : World} {i : Nat} (ho : opsW[i]? = some o) (hs : AnyHas .any opsW (phiW Ax nx cx Ay ny cy bq oq cz s) a0 o a w') (hb : Below W.heap.size W w') :
  o.wp Tryz.prog a w' (fun a' w'' => ∃ v, a' = a.put o.dst v ∧ phiW Ax nx cx Ay ny cy bq oq cz s i v w'' ∧ Below w'.heap.size w' w'') Q := by
 rcases opsW_cases ho with rfl | rfl | rfl | rfl | rfl | rfl | rfl | rfl | rfl | rfl | rfl | rfl | rfl | rfl | rfl | rfl | rfl | rfl | rfl | rfl | rfl | rfl | rfl | rfl | rfl | rfl | rfl | rfl | rfl | rfl | rfl | rfl | rfl | rfl | rfl | rfl | rfl | rfl | rfl | rfl | rfl | rfl | rfl | rfl | rfl | rfl | rfl | rfl | rfl | rfl | rfl | rfl | rfl | rfl | rfl | rfl | rfl | rfl | rfl | rfl | rfl | rfl | rfl | rfl | rfl | rfl | rfl | rfl | rfl
 ·exact stW_0 F G ho hs hb
 ·exact stW_1 F G ho hs hb
 ·exact stW_2 F G ho hs hb
 ·exact stW_3 F G ho hs hb
 ·exact stW_4 F G ho hs hb
 ·exact stW_5 F G ho hs hb
 ·exact stW_6 F G ho hs hb
 ·exact stW_7 F G ho hs hb
 ·exact stW_8 F G ho hs hb
 ·exact stW_9 F G ho hs hb
 ·exact stW_10 F G ho hs hb
 ·exact stW_11 F G ho hs hb
 ·exact stW_12 F G ho hs hb
 ·exact stW_13 F G ho hs hb
 ·exact stW_14 F G ho hs hb
 ·exact stW_15 F G ho hs hb
 ·exact stW_16 F G ho hs hb
 ·exact stW_17 F G ho hs hb
 ·exact stW_18 F G ho hs hb
 ·exact stW_19 F G ho hs hb
 ·exact stW_20 F G ho hs hb
 ·exact stW_21 F G ho hs hb
 ·exact stW_22 F G ho hs hb
 ·exact stW_23 F G ho hs hb
 ·exact stW_24 F G ho hs hb
 ·exact stW_25 F G ho hs hb
 ·exact stW_26 F G ho hs hb
 ·exact stW_27 F G ho hs hb
 ·exact stW_28 F G ho hs hb
 ·exact stW_29 F G ho hs hb
 ·exact stW_30 F G ho hs hb
 ·exact stW_31 F G ho hs hb
 ·exact stW_32 F G ho hs hb
 ·exact stW_33 F G ho hs hb
 ·exact stW_34 F G ho hs hb
 ·exact stW_35 F G ho hs hb
 ·exact stW_36 F G ho hs hb
 ·exact stW_37 F G ho hs hb
 ·exact stW_38 F G ho hs hb
 ·exact stW_39 F G ho hs hb
 ·exact stW_40 F G ho hs hb
 ·exact stW_41 F G ho hs hb
 ·exact stW_42 F G ho hs hb
 ·exact stW_43 F G ho hs hb
 ·exact stW_44 F G ho hs hb
 ·exact stW_45 F G ho hs hb
 ·exact stW_46 F G ho hs hb
 ·exact stW_47 F G ho hs hb
 ·exact stW_48 F G ho hs hb
 ·exact stW_49 F G ho hs hb
 ·exact stW_50 F G ho hs hb
 ·exact stW_51 F G ho hs hb
 ·exact stW_52 F G ho hs hb
 ·exact stW_53 F G ho hs hb
 ·exact stW_54 F G ho hs hb
 ·exact stW_55 F G ho hs hb
 ·exact stW_56 F G ho hs hb
 ·exact stW_57 F G ho hs hb
 ·exact stW_58 F G ho hs hb
 ·exact stW_59 F G ho hs hb
 ·exact stW_60 F G ho hs hb
 ·exact stW_61 F G ho hs hb
 ·exact stW_62 F G ho hs hb
 ·exact stW_63 F G ho hs hb
 ·exact stW_64 F G ho hs hb
 ·exact stW_65 F G ho hs hb
 ·exact stW_66 F G ho hs hb
 ·exact stW_67 F G ho hs hb
 ·exact stW_68 F G ho hs hb
theorem guardsW {Ax : Option Addr} {nx cx : Nat} {Ay : Option Addr} {ny cy bq oq cz x y z : Nat} {s : PairR} {a0 : Act} {o : Oper} {a : Act} {w' : World} (F : FrW Ax nx cx Ay ny cy bq oq cz x y z a0) {i : Nat} (ho : opsW[i]? = some o) (hs : AnyHas .any opsW (phiW Ax nx cx Ay ny cy bq oq cz s) a0 o a w') : Region.wanted o (yielded opsW a.tmps) = true := by
 rcases opsW_cases ho with rfl | rfl | rfl | rfl | rfl | rfl | rfl | rfl | rfl | rfl | rfl | rfl | rfl | rfl | rfl | rfl | rfl | rfl | rfl | rfl | rfl | rfl | rfl | rfl | rfl | rfl | rfl | rfl | rfl | rfl | rfl | rfl | rfl | rfl | rfl | rfl | rfl | rfl | rfl | rfl | rfl | rfl | rfl | rfl | rfl | rfl | rfl | rfl | rfl | rfl | rfl | rfl | rfl | rfl | rfl | rfl | rfl | rfl | rfl | rfl | rfl | rfl | rfl | rfl | rfl | rfl | rfl | rfl | rfl
 ·unfold Region.wanted; rw [show o.guard = none from by obtain ⟨_, rfl⟩ := Array.getElem?_eq_some_iff.1 ho; kernel_rfl]
 ·unfold Region.wanted; rw [show o.guard = none from by obtain ⟨_, rfl⟩ := Array.getElem?_eq_some_iff.1 ho; kernel_rfl]
 ·unfold Region.wanted; rw [show o.guard = none from by obtain ⟨_, rfl⟩ := Array.getElem?_eq_some_iff.1 ho; kernel_rfl]
 ·exact gdW_3 F ho hs
 ·exact gdW_4 F ho hs
 ·exact gdW_5 F ho hs
 ·exact gdW_6 F ho hs
 ·exact gdW_7 F ho hs
 ·exact gdW_8 F ho hs
 ·exact gdW_9 F ho hs
 ·exact gdW_10 F ho hs
 ·exact gdW_11 F ho hs
 ·exact gdW_12 F ho hs
 ·exact gdW_13 F ho hs
 ·unfold Region.wanted; rw [show o.guard = none from by obtain ⟨_, rfl⟩ := Array.getElem?_eq_some_iff.1 ho; kernel_rfl]
 ·unfold Region.wanted; rw [show o.guard = none from by obtain ⟨_, rfl⟩ := Array.getElem?_eq_some_iff.1 ho; kernel_rfl]
 ·exact gdW_16 F ho hs
 ·exact gdW_17 F ho hs
 ·unfold Region.wanted; rw [show o.guard = none from by obtain ⟨_, rfl⟩ := Array.getElem?_eq_some_iff.1 ho; kernel_rfl]
 ·unfold Region.wanted; rw [show o.guard = none from by obtain ⟨_, rfl⟩ := Array.getElem?_eq_some_iff.1 ho; kernel_rfl]
 ·exact gdW_20 F ho hs
 ·exact gdW_21 F ho hs
 ·exact gdW_22 F ho hs
 ·exact gdW_23 F ho hs
 ·exact gdW_24 F ho hs
 ·exact gdW_25 F ho hs
 ·exact gdW_26 F ho hs
 ·exact gdW_27 F ho hs
 ·unfold Region.wanted; rw [show o.guard = none from by obtain ⟨_, rfl⟩ := Array.getElem?_eq_some_iff.1 ho; kernel_rfl]
 ·unfold Region.wanted; rw [show o.guard = none from by obtain ⟨_, rfl⟩ := Array.getElem?_eq_some_iff.1 ho; kernel_rfl]
 ·exact gdW_30 F ho hs
 ·exact gdW_31 F ho hs
 ·unfold Region.wanted; rw [show o.guard = none from by obtain ⟨_, rfl⟩ := Array.getElem?_eq_some_iff.1 ho; kernel_rfl]
 ·unfold Region.wanted; rw [show o.guard = none from by obtain ⟨_, rfl⟩ := Array.getElem?_eq_some_iff.1 ho; kernel_rfl]
 ·exact gdW_34 F ho hs
 ·exact gdW_35 F ho hs
 ·exact gdW_36 F ho hs
 ·unfold Region.wanted; rw [show o.guard = none from by obtain ⟨_, rfl⟩ := Array.getElem?_eq_some_iff.1 ho; kernel_rfl]
 ·unfold Region.wanted; rw [show o.guard = none from by obtain ⟨_, rfl⟩ := Array.getElem?_eq_some_iff.1 ho; kernel_rfl]
 ·exact gdW_39 F ho hs
 ·exact gdW_40 F ho hs
 ·exact gdW_41 F ho hs
 ·exact gdW_42 F ho hs
 ·exact gdW_43 F ho hs
 ·exact gdW_44 F ho hs
 ·exact gdW_45 F ho hs
 ·exact gdW_46 F ho hs
 ·exact gdW_47 F ho hs
 ·unfold Region.wanted; rw [show o.guard = none from by obtain ⟨_, rfl⟩ := Array.getElem?_eq_some_iff.1 ho; kernel_rfl]
 ·unfold Region.wanted; rw [show o.guard = none from by obtain ⟨_, rfl⟩ := Array.getElem?_eq_some_iff.1 ho; kernel_rfl]
 ·exact gdW_50 F ho hs
 ·exact gdW_51 F ho hs
 ·exact gdW_52 F ho hs
 ·exact gdW_53 F ho hs
 ·exact gdW_54 F ho hs
 ·exact gdW_55 F ho hs
 ·exact gdW_56 F ho hs
 ·exact gdW_57 F ho hs
 ·exact gdW_58 F ho hs
 ·unfold Region.wanted; rw [show o.guard = none from by obtain ⟨_, rfl⟩ := Array.getElem?_eq_some_iff.1 ho; kernel_rfl]
 ·unfold Region.wanted; rw [show o.guard = none from by obtain ⟨_, rfl⟩ := Array.getElem?_eq_some_iff.1 ho; kernel_rfl]
 ·exact gdW_61 F ho hs
 ·exact gdW_62 F ho hs
 ·unfold Region.wanted; rw [show o.guard = none from by obtain ⟨_, rfl⟩ := Array.getElem?_eq_some_iff.1 ho; kernel_rfl]
 ·unfold Region.wanted; rw [show o.guard = none from by obtain ⟨_, rfl⟩ := Array.getElem?_eq_some_iff.1 ho; kernel_rfl]
 ·exact gdW_65 F ho hs
 ·exact gdW_66 F ho hs
 ·unfold Region.wanted; rw [show o.guard = none from by obtain ⟨_, rfl⟩ := Array.getElem?_eq_some_iff.1 ho; kernel_rfl]
 ·unfold Region.wanted; rw [show o.guard = none from by obtain ⟨_, rfl⟩ := Array.getElem?_eq_some_iff.1 ho; kernel_rfl]
end Go.Proofs.YtlgliddhideflaaGreatDoor
