/-
  Patterns in memory; pats.compile.
  pats.compile.
  pats.Check as it is reckoned, and what it means.
-/
import Derived.Maps.AppendAt
import Derived.Test.YtaglfmlgbcmakaaGreatDoorG04
set_option linter.all false
set_option maxRecDepth 100000
set_option maxHeartbeats 4000000
namespace Go.Proofs.YtaglfmlgbcmakaaGreatDoor
open Go.RowKit
def FAt (w : World) (A : Option Addr) : Nat → Fo → Prop
 | _, .nil => True
 | i, .node k ch nx => ∃ b off A' n' c', A = some ⟨b, off, none⟩ ∧ b < w.heap.size ∧
   (w.cell? ⟨b, off + i * 7, none⟩ = some (.int .i64 k.kind) ∧ w.cell? ⟨b, off + i * 7 + 1, none⟩ = some (.int .u32 k.isp) ∧ w.cell? ⟨b, off + i * 7 + 2, none⟩ = some (.int .u32 k.ism) ∧
    w.cell? ⟨b, off + i * 7 + 3, none⟩ = some (.bool k.neg) ∧ w.cell? ⟨b, off + i * 7 + 4, none⟩ = some (.int .i64 k.lo) ∧ w.cell? ⟨b, off + i * 7 + 5, none⟩ = some (.int .i64 k.hi) ∧
    w.cell? ⟨b, off + i * 7 + 6, none⟩ = some (.slice A' n' c')) ∧
   (n' = ch.len ∧ n' ≤ c' ∧ c' ≤ maxLen ∧ (A' = none → c' = 0)) ∧ FAt w A' 0 ch ∧ FAt w A (i + 1) nx
def FSl (w : World) (A : Option Addr) (n c : Nat) (f : Fo) : Prop := (n = f.len ∧ n ≤ c ∧ c ≤ maxLen ∧ (A = none → c = 0)) ∧ FAt w A 0 f
theorem FAt.below {w w' : World} {B : Nat} (hb : Below B w w') (hB : w.heap.size ≤ B) : ∀ (f : Fo) (A : Option Addr) (i : Nat), FAt w A i f → FAt w' A i f
 | .nil, _, _, _ => trivial
 | .node k ch nx, A, i, ⟨b, off, A', n', c', hA, hlt, ⟨h0, h1, h2, h3, h4, h5, h6⟩, hn, hch, hnx⟩ => by
  have hc : ∀ o, w'.cell? ⟨b, o, none⟩ = w.cell? ⟨b, o, none⟩ := fun o => hb.cell (p := ⟨b, o, none⟩) (Nat.lt_of_lt_of_le hlt hB)
  exact ⟨b, off, A', n', c', hA, Nat.lt_of_lt_of_le hlt hb.size, ⟨(hc _).trans h0, (hc _).trans h1, (hc _).trans h2, (hc _).trans h3, (hc _).trans h4, (hc _).trans h5, (hc _).trans h6⟩, hn, below hb hB ch _ _ hch, below hb hB nx _ _ hnx⟩
theorem FSl.below {w w' : World} {B : Nat} (hb : Below B w w') (hB : w.heap.size ≤ B) {A : Option Addr} {n c : Nat} {f : Fo} (h : FSl w A n c f) : FSl w' A n c f := ⟨h.1, h.2.below hb hB⟩
def Fo.get : Fo → Nat → Option (Nd × Fo)
 | .nil, _ => none
 | .node k ch _, 0 => some (k, ch)
 | .node _ _ nx, i + 1 => nx.get i
theorem Fo.get_lt : ∀ (f : Fo) (i : Nat), i < f.len → ∃ x, f.get i = some x
 | .nil, i, h => absurd h (Nat.not_lt_zero i)
 | .node k ch _, 0, _ => ⟨_, rfl⟩
 | .node _ _ nx, i + 1, h => get_lt nx i (by simpa [Fo.len] using h)
def Fo.take : Nat → Fo → Fo
 | 0, _ => .nil
 | _ + 1, .nil => .nil
 | i + 1, .node k ch nx => .node k ch (nx.take i)
theorem Fo.take_all : ∀ f : Fo, f.take f.len = f
 | .nil => rfl
 | .node k ch nx => by simp [Fo.len, Fo.take, take_all nx]
theorem FAt.at_ {w : World} : ∀ (f : Fo) (A : Option Addr) (i j : Nat) (k : Nd) (ch : Fo), FAt w A i f → f.get j = some (k, ch) → FAt w A (i + j) (.node k ch .nil)
 | .node k0 ch0 nx, A, i, 0, k, ch, h, hg => by
  obtain ⟨rfl, rfl⟩ : k0 = k ∧ ch0 = ch := by simpa [Fo.get] using hg
  obtain ⟨b, off, A', n', c', h1, h2, h3, h4, h5, h6⟩ := h
  exact ⟨b, off, A', n', c', h1, h2, h3, h4, h5, trivial⟩
 | .node k0 ch0 nx, A, i, j + 1, k, ch, h, hg => by
  obtain ⟨b, off, A', n', c', h1, h2, h3, h4, h5, h6⟩ := h
  have := at_ nx A (i + 1) j k ch h6 (by simpa [Fo.get] using hg)
  rw [show i + (j + 1) = i + 1 + j by omega]; exact this
theorem okF.at_ : ∀ (f : Fo) (j : Nat) (k : Nd) (ch : Fo), okF f → f.get j = some (k, ch) → allowedM k ch.len = 0 ∧ okF ch
 | .node k0 ch0 nx, 0, k, ch, h, hg => by
  obtain ⟨rfl, rfl⟩ : k0 = k ∧ ch0 = ch := by simpa [Fo.get] using hg
  exact ⟨h.1, h.2.1⟩
 | .node k0 ch0 nx, j + 1, k, ch, h, hg => at_ nx j k ch h.2.2 (by simpa [Fo.get] using hg)
def PartsIn (P : Nat → Prop) (w : World) : Fo → List Value → Prop
 | .nil, vs => vs = []
 | .node k ch nx, vs => ∃ A n c cvs v vs', vs = v :: vs' ∧ Cells w A n c 1 cvs ∧ (∀ a, A = some a → P a.block ∧ a.block < w.heap.size) ∧ PartsIn P w ch cvs ∧ v = partV k A n c cvs ∧ PartsIn P w nx vs'
theorem PartsIn.to_at {P : Nat → Prop} {w : World} : ∀ (f : Fo) (vs : List Value), PartsIn P w f vs → PartsAt w f vs
 | .nil, _, h => h
 | .node _ ch nx, _, ⟨A, n, c, cvs, v, vs', h1, h2, _, h3, h4, h5⟩ => ⟨A, n, c, cvs, v, vs', h1, h2, to_at ch _ h3, h4, to_at nx _ h5⟩
theorem PartsIn.imp {P Q : Nat → Prop} {w : World} (hPQ : ∀ b, b < w.heap.size → P b → Q b) : ∀ (f : Fo) (vs : List Value), PartsIn P w f vs → PartsIn Q w f vs
 | .nil, _, h => h
 | .node _ ch nx, _, ⟨A, n, c, cvs, v, vs', h1, h2, hP, h3, h4, h5⟩ => ⟨A, n, c, cvs, v, vs', h1, h2, fun a ha => ⟨hPQ _ (hP a ha).2 (hP a ha).1, (hP a ha).2⟩, imp hPQ ch _ h3, h4, imp hPQ nx _ h5⟩
theorem PartsIn.stay {P : Nat → Prop} {w w' : World} (hs : w.heap.size ≤ w'.heap.size) (hc : ∀ b o, b < w.heap.size → P b → w'.cell? ⟨b, o, none⟩ = w.cell? ⟨b, o, none⟩) : ∀ (f : Fo) (vs : List Value), PartsIn P w f vs → PartsIn P w' f vs
 | .nil, _, h => h
 | .node _ ch nx, _, ⟨A, n, c, cvs, v, vs', h1, h2, hP, h3, h4, h5⟩ => by
  refine ⟨A, n, c, cvs, v, vs', h1, ?_, fun a ha => ⟨(hP a ha).1, Nat.lt_of_lt_of_le (hP a ha).2 hs⟩, stay hs hc ch _ h3, h4, stay hs hc nx _ h5⟩
  obtain ⟨g1, g2, g3, g4, g5⟩ := h2
  refine ⟨g1, g2, g3, g4, fun hn => ?_⟩
  obtain ⟨b, off, rfl, hlt, hcl⟩ := g5 hn
  exact ⟨b, off, rfl, Nat.lt_of_lt_of_le hlt hs, fun j x hx => (hc _ _ hlt (hP _ rfl).1).trans (hcl j x hx)⟩
theorem PartsIn.below {P : Nat → Prop} {w w' : World} {B : Nat} (hb : Below B w w') (hB : w.heap.size ≤ B) (f : Fo) (vs : List Value) (h : PartsIn P w f vs) : PartsIn P w' f vs :=
 h.stay hb.size (fun b o hlt _ => hb.cell (p := ⟨b, o, none⟩) (Nat.lt_of_lt_of_le hlt hB))
theorem PartsIn.len {P : Nat → Prop} {w : World} (f : Fo) (vs : List Value) (h : PartsIn P w f vs) : vs.length = f.len := PartsAt.len f vs h.to_at
theorem PartsIn.snoc {P : Nat → Prop} {w : World} : ∀ (f : Fo) (j : Nat) (k : Nd) (ch : Fo) (vs : List Value) (v : Value), f.get j = some (k, ch) → PartsIn P w (f.take j) vs → PartsIn P w (.node k ch .nil) [v] → PartsIn P w (f.take (j + 1)) (vs ++ [v])
 | .node k0 ch0 nx, 0, k, ch, vs, v, hg, h, hv => by
  obtain ⟨rfl, rfl⟩ : k0 = k ∧ ch0 = ch := by simpa [Fo.get] using hg
  rw [show vs = [] from h]; exact hv
 | .node k0 ch0 nx, j + 1, k, ch, vs, v, hg, h, hv => by
  obtain ⟨A, n, c, cvs, v0, vs', h1, h2, hP, h3, h4, h5⟩ := h
  subst h1
  exact ⟨A, n, c, cvs, v0, vs' ++ [v], rfl, h2, hP, h3, h4, snoc nx j k ch vs' v (by simpa [Fo.get] using hg) h5 hv⟩
theorem part_info : (Tryz.prog.info? 273).map (fun i => (i.zero, i.size, i.bytes)) = some (some .nilIface, 1, 16) := by kernel_rfl
theorem append_part {ops : Array Oper} {rest : List Oper} {o : Oper} {a : Act} {w : World} {Q : Exit → Act → World → Prop} (hgd : o.guard = none) (s x : Operand)
  (ho : o.op = .call { callee := .builtin .append, args := #[s, x], argTypes := #[277, 277] })
  (base : Nat) (v : Value) (n : Nat) (xs : List Value) (hs : a.eval s = v) (hown : w.ownsRow base 273 1 v n xs)
  (ad : Addr) (c : Nat) (y : Value) (hx : a.eval x = .slice (some ad) 1 c) (hr : ∀ j u, [y][j]? = some u → w.cell? (ad.add j) = some u) (hy : y.oneCell' = true) (hl : n + 1 ≤ 4096) (hbase : base ≤ w.heap.size)
  (h : ∀ v' w', w'.ownsRow base 273 1 v' (n + 1) (xs ++ [y]) → w.grownBy w' v.ownBlock → (v'.ownBlock = v.ownBlock ∨ v'.ownBlock = some w.heap.size) →
   wpList Tryz.prog ops Q rest (a.put o.dst v') w') : wpList Tryz.prog ops Q (o :: rest) a w := by
 obtain ⟨i0, hi, hz0, hz1, hz2⟩ := info_parts part_info
 exact wpList_append_own_at w hgd s x 277 ho base 273 i0 _ 1 16 Tryz.underlying277 hi hz0 hz1 hz2 rfl (by decide) v n xs hs hown ad 1 c [y] hx rfl hr
  (by intro u hu; simp at hu; subst hu; exact hy) (by unfold maxLen; omega) (by omega) hbase fun v' w' h1 h2 _ h4 => h v' w' h1 h2 h4
theorem own_keep {w w' : World} {B base : Nat} {e : TypeId} {sz n : Nat} {v : Value} {xs : List Value} (h : w.ownsRow base e sz v n xs) (hb : Below B w w') (hB : w.heap.size ≤ B) : w'.ownsRow base e sz v n xs := by
 refine ⟨h.1, ?_⟩
 rcases h.2 with hn | ⟨g, cap, cur, rfl, h1, hg, rest⟩
 ·exact Or.inl hn
 ·exact Or.inr ⟨g, cap, cur, rfl, h1, (hb.block g (Nat.lt_of_lt_of_le (Array.getElem?_eq_some_iff.1 hg).1 hB)).trans hg, rest⟩
theorem partV_form (k : Nd) (A : Option Addr) (n c : Nat) (cvs : List Value) : ∃ t d, partV k A n c cvs = .iface t d := by
 unfold partV; repeat' split
 all_goals exact ⟨_, _, rfl⟩
def Fo.cnt : Fo → Nat
 | .nil => 0
 | .node _ ch nx => ch.cnt + nx.cnt + 1
theorem Fo.len_cnt : ∀ f : Fo, f.len ≤ f.cnt
 | .nil => rr
 | .node _ ch nx => by have := len_cnt nx; simp only [Fo.len, Fo.cnt]; omega
theorem Fo.get_cnt : ∀ (f : Fo) (j : Nat) (k : Nd) (ch : Fo), f.get j = some (k, ch) → ch.cnt ≤ f.cnt
 | .node k0 ch0 nx, 0, k, ch, hg => by
  obtain ⟨rfl, rfl⟩ : k0 = k ∧ ch0 = ch := by simpa [Fo.get] using hg
  simp only [Fo.cnt]; omega
 | .node k0 ch0 nx, j + 1, k, ch, hg => by have := get_cnt nx j k ch (by simpa [Fo.get] using hg); simp only [Fo.cnt]; omega
theorem PartsIn.form {P : Nat → Prop} {w : World} : ∀ (f : Fo) (vs : List Value), PartsIn P w f vs → ∀ v ∈ vs, ∃ t d, v = .iface t d
 | .nil, vs, h, v, hv => by rw [show vs = [] from h] at hv; simp at hv
 | .node _ ch nx, vs, ⟨A, n, c, cvs, v0, vs', h1, h2, hP, h3, h4, h5⟩, v, hv => by
  subst h1
  rcases List.mem_cons.1 hv with e | e
  ·rw [e, h4]; exact partV_form _ _ _ _ _
  ·exact form nx vs' h5 v e
def CompOK (k : Nd) (ch : Fo) : Prop := ∀ (w : World) (A : Option Addr) (n c : Nat), FSl w A n c ch → allowedM k ch.len = 0 → okF ch → ch.cnt ≤ 64 →
 Calls Tryz.prog 241 #[patV k A n c] w fun e w' => ∃ v, e = .returned v ∧ Below w.heap.size w w' ∧ PartsIn (w.heap.size ≤ ·) w' (.node k ch .nil) [v]
theorem compile_step (k : Nd) (ch : Fo) (ih : ∀ j k' ch', ch.get j = some (k', ch') → CompOK k' ch') : CompOK k ch := by
 intro w A n c hs hal hok hcnt
 have hn : n ≤ 64 := by have := hs.1.1; have := ch.len_cnt; omega
 have HI := hI ih; clear ih
 have HS := hI hs; clear hs
 have HA := hI hal; clear hal
 have HO := hI hok; clear hok
 obtain ⟨kind, isp, ism, neg, lo, hi⟩ := k
 go_enter Tryz.func241, Tryz.ntmps241
 go_wp2
 go_loopw [3, 9] (fun l i wr => ∃ (j : Nat) (vs : List Value), j ≤ n ∧ i = .int .i64 j ∧ Hid (wr.heap[w.heap.size]? = some (.cells #[.int .i64 kind, .int .u32 isp, .int .u32 ism, .bool neg, .int .i64 lo, .int .i64 hi, .slice A n c] 52 (0, 0))) ∧
   Hid (wr.ownsRow (w.heap.size + 1) 273 1 l j vs) ∧ Hid (PartsIn (fun b => w.heap.size ≤ b ∧ l.ownBlock ≠ some b) wr (ch.take j) vs) ∧ Below w.heap.size w wr) (fun _ i _ => n - (intOf i).toNat)
 case atStart => exact ⟨0, [], Nat.zero_le _, rfl, hpt, World.ownsRow_nil _ _ _ _, rfl, bel⟩
 case round =>
  obtain ⟨j, vs, hj, rfl, hb, hown, hp, hB⟩ := hrel
  have hBs := hB.size
  have hsz0 : w.heap.size < wr.heap.size := (Array.getElem?_eq_some_iff.1 hb.out).1
  by_cases hlt : j < n
  ·obtain ⟨⟨k', ch'⟩, hg⟩ := ch.get_lt j (by have := HS.out.1.1; omega)
   have hat := (HS.out.below hB rr).2.at_ ch _ 0 j k' ch' hg
   obtain ⟨b, off, A', n', c', rfl, hbl, ⟨h0, h1, h2, h3, h4, h5, h6⟩, ⟨rfl, hn'⟩, hch', _⟩ := hat
   have HG := hI hg; clear hg
   have HCH := hI hch'; clear hch'
   simp only [Nat.zero_add] at h0 h1 h2 h3 h4 h5 h6
   obtain ⟨A1, c1, rfl⟩ := own_form hown.out
   go_wp2_with fail
   have hok' := okF.at_ ch j k' ch' HO.out HG.out
   have hcn := ch.get_cnt j k' ch' HG.out
   have hfs : FSl (wr.alloc (.cells #[.int .i64 k'.kind, .int .u32 k'.isp, .int .u32 k'.ism, .bool k'.neg, .int .i64 k'.lo, .int .i64 k'.hi, .slice A' ch'.len c'] 52)) A' ch'.len c' ch' :=
    ⟨⟨rfl, hn'⟩, HCH.out.below (Below.alloc (Below.refl wr.heap.size wr) rr _) rr⟩
   have hcall := HI.out j k' ch' HG.out _ A' _ c' hfs hok'.1 hok'.2 (by omega)
   refine hcall.mono ?_
   rintro e w1 ⟨v, rfl, hb1, hp1⟩
   have hs1 := hb1.size
   simp only [World.size_alloc] at hs1
   have hB1 : Below w.heap.size w w1 := bel
   have hown1 := hI (own_keep (hown.out.alloc _) hb1 rr)
   have hpo := hI ((hp.out.below (Below.alloc (Below.refl wr.heap.size wr) rr _) rr).below hb1 rr)
   have hbx := hI ((hb1.block w.heap.size sd).trans ((Below.heap_alloc _ _ _ (by omega)).trans hb.out))
   have hform : ∃ t d, v = .iface t d := by
    obtain ⟨_, _, _, _, v0, _, e0, _, _, _, e1, _⟩ := hp1
    obtain ⟨rfl, _⟩ : v = v0 ∧ _ := by simpa using e0
    rw [e1]; exact partV_form _ _ _ _ _
   obtain ⟨t0, d0, rfl⟩ := hform
   have HP1 := hI hp1
   have hol := hown.out.lt
   have HOL := hI hol
   clear hp1 hb1 hol hok' h0 h1 h2 h3 h4 h5 h6
   go_wp2_with (at_builtin; refine append_part rfl (.tmp 13) (.tmp 16) rfl (w.heap.size + 1) (.slice A1 j c1) j vs rfl ?ho ⟨w1.heap.size, 0, none⟩ 1 (.iface t0 d0) rfl ?ha rfl ?hl ?hz ?hc)
   all_goals first | exact hown1.out.alloc _ | exact cell_one_new _ _ _ | omega | (simp; omega) | skip
   intro v' w2 hown2 hg2 hat2
   have hs2 : w1.heap.size < w2.heap.size := by have := hg2.size; simp only [World.size_alloc] at this; omega
   have hownA := hown1.out.alloc (.cells #[.iface t0 d0] 273)
   have hB2 : Below w.heap.size w w2 := own_below (hB1.alloc hB1.size _) hownA hg2 (by omega) (by simp; omega)
   have hbx2 := hI ((hg2.block w.heap.size (by simp; omega) (fun e => by have := (hownA.lt _ e.symm).1; omega)).trans ((Below.heap_alloc _ _ _ (by omega)).trans hbx.out))
   have hsub : ∀ g, (Value.slice A1 j c1).ownBlock = some g → g < wr.heap.size := fun g hg => (HOL.out g hg).2
   have hnew := hat2
   have hP2 : PartsIn (fun b => w.heap.size ≤ b ∧ v'.ownBlock ≠ some b) w2 (ch.take (j + 1)) (vs ++ [.iface t0 d0]) := by
    have hbA : Below w1.heap.size w1 (w1.alloc (.cells #[.iface t0 d0] 273)) := Below.alloc (Below.refl _ _) rr _
    refine PartsIn.snoc ch j k' ch' vs _ HG.out ?_ ?_
    ·refine PartsIn.imp (P := fun b => w.heap.size ≤ b ∧ (Value.slice A1 j c1).ownBlock ≠ some b ∧ v'.ownBlock ≠ some b) (fun b _ h => ⟨h.1, h.2.2⟩) _ _ ?_
     refine PartsIn.stay (w := w1.alloc (.cells #[.iface t0 d0] 273)) hg2.size (fun b o hlt h => World.cell?_of_block (hg2.block b hlt fun e => h.2.1 e.symm)) _ _ ?_
     refine PartsIn.below hbA rr _ _ ?_
     refine PartsIn.imp (fun b hlt h => ⟨h.1, h.2, ?_⟩) _ _ hpo.out
     rcases hnew with e | e
     ·rw [e]; exact h.2
     ·rw [e]; intro e2; simp at e2; omega
    ·refine PartsIn.imp (P := fun b => w.heap.size ≤ b ∧ (Value.slice A1 j c1).ownBlock ≠ some b ∧ v'.ownBlock ≠ some b) (fun b _ h => ⟨h.1, h.2.2⟩) _ _ ?_
     refine PartsIn.stay (w := w1.alloc (.cells #[.iface t0 d0] 273)) hg2.size (fun b o hlt h => World.cell?_of_block (hg2.block b hlt fun e => h.2.1 e.symm)) _ _ ?_
     refine PartsIn.below hbA rr _ _ ?_
     refine PartsIn.imp (fun b hlt h => ?_) _ _ HP1.out
     simp only [World.size_alloc] at h
     have h1 : (Value.slice A1 j c1).ownBlock ≠ some b := fun e => by have := hsub b e; omega
     refine ⟨by omega, h1, ?_⟩
     rcases hnew with e | e
     ·rw [e]; exact h1
     ·rw [e]; intro e2; simp at e2; omega
   have HP2 := hI hP2
   have HOWN2 := hI hown2
   clear hP2 hown2 hg2 hat2 hownA hnew hsub
   obtain ⟨A2, c2, rfl⟩ := own_form HOWN2.out
   go_wp2
   go_roundw
   case rel => exact ⟨j + 1, _, by omega, by go_num, hbx2, HOWN2, HP2, hB2⟩
   case measure => simp [intOf]; omega
  ·obtain rfl : j = n := by omega
   obtain ⟨A1, c1, rfl⟩ := own_form hown.out
   have hfin : PartsIn (w.heap.size ≤ ·) wr (.node ⟨kind, isp, ism, neg, lo, hi⟩ ch .nil) [partV ⟨kind, isp, ism, neg, lo, hi⟩ A1 j c1 vs] := by
    refine ⟨A1, j, c1, vs, _, [], rfl, Cells.of_own hown.out (by decide), fun a ha => ?_, ?_, rfl, rfl⟩
    ·have := hown.out.lt a.block (by rw [ha]; rfl); omega
    ·have h := PartsIn.imp (Q := fun b => w.heap.size ≤ b) (fun b _ h => h.1) _ _ hp.out
     rw [HS.out.1.1, Fo.take_all] at h; exact h
   have HF := hI hfin; clear hfin
   have d0 := cell_of_row wr w.heap.size 0 _ _ _ hb.out
   have d1 := cell_of_row wr w.heap.size 1 _ _ _ hb.out
   have d2 := cell_of_row wr w.heap.size 2 _ _ _ hb.out
   have d3 := cell_of_row wr w.heap.size 3 _ _ _ hb.out
   have d4 := cell_of_row wr w.heap.size 4 _ _ _ hb.out
   have d5 := cell_of_row wr w.heap.size 5 _ _ _ hb.out
   simp only [List.getElem?_toArray, List.getElem?_cons_zero, List.getElem?_cons_succ] at d0 d1 d2 d3 d4 d5
   by_cases k1 : kind = 1
   ·subst k1
    go_wp2
    go_ret
    exact ⟨_, rfl, hB, HF.out⟩
   by_cases k2 : kind = 2
   ·subst k2
    go_wp2
    go_ret
    exact ⟨_, rfl, hB, HF.out⟩
   by_cases k6 : kind = 6
   ·subst k6
    go_wp2
    go_ret
    exact ⟨_, rfl, hB, HF.out⟩
   by_cases k4 : kind = 4
   ·subst k4
    go_wp2
    go_ret
    exact ⟨_, rfl, hB, HF.out⟩
   by_cases k5 : kind = 5
   ·subst k5
    have hlo := (allowed_rep rfl HA.out).1
    obtain rfl : j = 1 := by rw [HS.out.1.1]; exact hlo
    have hCl := Cells.of_own hown.out (by decide)
    obtain ⟨g, og, v0, rfl, hgl, hv0, hg0⟩ := hCl.at1 (k := 0) (by omega)
    have hvs : vs = [v0] := by
     have hl := hown.out.1
     match vs, hl, hv0 with
     | [x], _, h => simpa using h
    obtain ⟨t0, e0, rfl⟩ := hp.out.form _ _ v0 (by rw [hvs]; exact List.mem_cons_self ..)
    have HVS := hI hvs
    clear hvs hv0 hCl hlo
    simp only [Nat.add_zero] at hg0
    go_wp2
    go_region
    go_wp2
    go_ret
    have hBd : Below w.heap.size wr wr.drew := Below.drew (Below.refl _ _)
    have hF := HF.out
    rw [HVS.out] at hF
    refine ⟨_, rfl, hB.drew, PartsIn.stay (w := wr) (w' := wr.drew) rr (fun _ _ _ _ => rfl) _ _ hF⟩
   have b1 : (kind == 1) = false := by simpa using k1
   have b2 : (kind == 2) = false := by simpa using k2
   have b4 : (kind == 4) = false := by simpa using k4
   have b5 : (kind == 5) = false := by simpa using k5
   have b6 : (kind == 6) = false := by simpa using k6
   have hv : partV ⟨kind, isp, ism, neg, lo, hi⟩ A1 j c1 vs = .iface 286 (.agg #[.slice A1 j c1]) := by unfold partV; simp [k1, k2, k4, k5, k6]
   have HV := hI hv
   clear k1 k2 k4 k5 k6 hv
   go_wp2
   go_ret
   exact ⟨_, rfl, hB, by have := HF.out; rw [HV.out] at this; exact this⟩
theorem compile_all : ∀ (f : Fo) (j : Nat) (k : Nd) (ch : Fo), f.get j = some (k, ch) → CompOK k ch
 | .node k0 ch0 nx, 0, k, ch, hg => by
  obtain ⟨rfl, rfl⟩ : k0 = k ∧ ch0 = ch := by simpa [Fo.get] using hg
  exact compile_step _ _ (compile_all ch0)
 | .node k0 ch0 nx, j + 1, k, ch, hg => compile_all nx j k ch (by simpa [Fo.get] using hg)
theorem compile_c (k : Nd) (ch : Fo) : CompOK k ch := compile_step k ch (compile_all ch)
def Fo.list : Fo → List (Nd × Fo)
 | .nil => []
 | .node k ch nx => (k, ch) :: nx.list
theorem Fo.list_len : ∀ f : Fo, f.list.length = f.len
 | .nil => rfl
 | .node _ _ nx => by simp [Fo.list, Fo.len, list_len nx]
theorem Fo.get_list : ∀ (f : Fo) (i : Nat), f.get i = f.list[i]?
 | .nil, _ => rfl
 | .node _ _ _, 0 => rfl
 | .node _ _ nx, i + 1 => by simpa [Fo.get, Fo.list] using get_list nx i
def checkM : Nat → List (Nd × Fo) → Int
 | _, [] => 0
 | 0, _ :: _ => 12
 | f + 1, (k, ch) :: st => if allowedM k ch.len = 0 then checkM f (ch.list.take 41 ++ st) else allowedM k ch.len
def cntL (st : List (Nd × Fo)) : Nat := (st.map fun x => x.2.cnt + 1).sum
theorem Fo.cnt_list : ∀ f : Fo, cntL f.list = f.cnt
 | .nil => rfl
 | .node _ ch nx => by have := cnt_list nx; simp only [cntL, Fo.list, Fo.cnt, List.map_cons, List.sum_cons] at *; omega
theorem cntL_app (a b : List (Nd × Fo)) : cntL (a ++ b) = cntL a + cntL b := by simp [cntL]
theorem checkM_len : ∀ (f : Nat) (st : List (Nd × Fo)), checkM f st = 0 → st.length ≤ f
 | _, [], _ => Nat.zero_le _
 | 0, _ :: _, h => absurd h (by simp [checkM])
 | f + 1, (k, ch) :: st, h => by
  simp only [checkM] at h
  split at h
  ·have := checkM_len f _ h
   simp only [List.length_append, List.length_cons] at this ⊢; omega
  ·rename_i hne; exact absurd h hne
theorem okF_list : ∀ f : Fo, (∀ x ∈ f.list, allowedM x.1 x.2.len = 0 ∧ okF x.2) → okF f
 | .nil, _ => trivial
 | .node k ch nx, h => ⟨(h (k, ch) (List.mem_cons_self ..)).1, (h (k, ch) (List.mem_cons_self ..)).2, okF_list nx fun x hx => h x (List.mem_cons_of_mem _ hx)⟩
theorem checkM_ok : ∀ (f : Nat) (st : List (Nd × Fo)), f ≤ 40 → checkM f st = 0 → cntL st ≤ f ∧ ∀ x ∈ st, allowedM x.1 x.2.len = 0 ∧ okF x.2
 | _, [], _, _ => ⟨Nat.zero_le _, by simp⟩
 | 0, _ :: _, _, h => absurd h (by simp [checkM])
 | f + 1, (k, ch) :: st, hf, h => by
  simp only [checkM] at h
  split at h
  ·rename_i hal
   have hl := checkM_len f _ h
   have hch : ch.list.length < 41 := by
    simp only [List.length_append, List.length_take] at hl; omega
   rw [List.take_of_length_le (by omega)] at h
   obtain ⟨h1, h2⟩ := checkM_ok f _ (by omega) h
   rw [cntL_app, Fo.cnt_list] at h1
   refine ⟨by simp only [cntL, List.map_cons, List.sum_cons] at *; omega, fun x hx => ?_⟩
   rcases List.mem_cons.1 hx with e | e
   ·subst e; exact ⟨hal, okF_list ch fun y hy => h2 y (List.mem_append_left _ hy)⟩
   ·exact h2 x (List.mem_append_right _ e)
  ·rename_i hne; exact absurd h hne
end Go.Proofs.YtaglfmlgbcmakaaGreatDoor
