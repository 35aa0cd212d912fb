/-
  A table of forms that is filled row by row: rows in a made slice, the last one under way.
  paradigm.Derive.
-/
import Derived.Test.YtlgliddhideflaaGreatDoorG63
set_option linter.all false
set_option maxRecDepth 100000
set_option maxHeartbeats 4000000
namespace Go.Proofs.YtlgliddhideflaaGreatDoor
open Go.RowKit Go.Shelf
def FAw (S : Nat → Prop) (w : World) (r : RowR) : Prop :=
 ∃ fs : List FormR, fs.map FormR.data = r.l ∧ Recs FormR.cells 2 w r.A r.n r.c fs ∧ (∀ ad, r.A = some ad → 0 < r.n → ¬ S ad.block) ∧ ∀ f ∈ fs, IsWord w f.p.1 f.p.2.1 f.p.2.2.1 f.p.2.2.2 ∧ ∀ ad, f.p.1 = some ad → 0 < f.p.2.1 → ¬ S ad.block
theorem FAw.forms {S : Nat → Prop} {w : World} {r : RowR} (h : FAw S w r) : IsForms w r.A r.n r.c r.l := by
 obtain ⟨fs, h1, h2, _, h4⟩ := h
 exact ⟨fs, h1, h2, fun f hf => (h4 f hf).1⟩
theorem FAw.below {S : Nat → Prop} {w w' : World} {r : RowR} (h : FAw S w r) (hb : Below w.heap.size w w') : FAw S w' r := by
 obtain ⟨fs, h1, h2, h3, h4⟩ := h
 exact ⟨fs, h1, h2.below hb rr, h3, fun f hf => ⟨(h4 f hf).1.below hb rr, (h4 f hf).2⟩⟩
theorem FAw.keep {S S' : Nat → Prop} {w w' : World} {r : RowR} (h : FAw S w r) (hk : Keep S w w') (hS : ∀ k, k < w.heap.size → S' k → S k) : FAw S' w' r := by
 obtain ⟨fs, h1, h2, h3, h4⟩ := h
 refine ⟨fs, h1, ⟨cells_keep h2.1 hk fun hn ad had => h3 ad had hn, h2.2⟩, fun ad had hn e => h3 ad had hn (hS _ (cells_lt h2.1 had hn) e), fun f hf => ⟨(h4 f hf).1.keep hk fun hn ad had => (h4 f hf).2 ad had hn, fun ad had hn e => (h4 f hf).2 ad had hn (hS _ (part_lt (h4 f hf).1 had hn) e)⟩⟩
def tabV (n : Nat) (vs : List Value) : Array Value := (vs ++ List.replicate (n - vs.length) (Value.slice none 0 0)).toArray
theorem made_tabV (n : Nat) : madeCells #[Value.slice none 0 0] n = tabV n [] := by
 apply Array.ext
 ·simp [size_madeCells, tabV]
 ·intro i h1 h2
  simp [madeCells, Nat.mod_one, tabV]
theorem tabV_nil {n : Nat} {vs : List Value} (h : vs.length < n) : tabV n vs = tabV n (vs ++ [.slice none 0 0]) := by
 unfold tabV
 rw [List.length_append, List.length_singleton, show n - vs.length = (n - (vs.length + 1)) + 1 by omega, List.replicate_succ, List.append_assoc]; rfl
theorem tabV_set {n : Nat} {vs : List Value} {v v' : Value} : (tabV n (vs ++ [v])).setIfInBounds vs.length v' = tabV n (vs ++ [v']) := by
 unfold tabV
 rw [List.setIfInBounds_toArray, List.append_assoc, List.set_append_right _ _ rr, Nat.sub_self]
 simp
theorem tabV_at {w : World} {g n : Nat} {vs : List Value} {v : Value} {t : TypeId} {fr : Nat × Nat} (h : w.heap[g]? = some (.cells (tabV n (vs ++ [v])) t fr)) : w.cell? ⟨g, vs.length, none⟩ = some v :=
 cell_at_heap h (by unfold tabV; rw [List.getElem?_toArray, List.getElem?_append_left (by simp)]; simp)
structure TabW (w : World) (B g n : Nat) (rs : List RowR) (v : Value) (fs : List FormR) : Prop where
 hg : w.heap[g]? = some (.cells (tabV n (rs.map RowR.val ++ [v])) 62 (0, 0))
 lt : g < B
 cur : FrmW w B v fs
 ww : ∀ f ∈ fs, ∀ ad, f.p.1 = some ad → 0 < f.p.2.1 → ad.block ≠ g
 rws : ∀ r ∈ rs, FAw (fun k => k = g ∨ v.ownBlock = some k) w r
theorem TabW.below {w w' : World} {B g n : Nat} {rs : List RowR} {v : Value} {fs : List FormR} (h : TabW w B g n rs v fs) (hb : Below w.heap.size w w') : TabW w' B g n rs v fs :=
 ⟨(hb.block _ (lt_of_block h.hg)).trans h.hg, h.lt, h.cur.below hb, h.ww, fun r hr => (h.rws r hr).below hb⟩
theorem FrmW.kept {w w' : World} {B g : Nat} {v : Value} {fs : List FormR} (h : FrmW w B v fs) (hg : g < B) (hw : ∀ f ∈ fs, ∀ ad, f.p.1 = some ad → 0 < f.p.2.1 → ad.block ≠ g) (hk : Keep (fun k => k = g) w w') : FrmW w' B v fs :=
 ⟨own_heap h.own fun k e => hk.block k (h.own.lt k e).2 (by have := (h.own.lt k e).1; omega), fun f hf => ⟨(h.pp f hf).1.keep hk fun hn ad had => hw f hf ad had hn, (h.pp f hf).2⟩, Nat.le_trans h.sz hk.size⟩
theorem TabW.push {w X : World} {B g n : Nat} {rs : List RowR} {v v' : Value} {fs : List FormR} (h : TabW w B g n rs v fs) {q : FormR} (hq : Away v w q.p) (hqg : ∀ ad, q.p.1 = some ad → 0 < q.p.2.1 → ad.block ≠ g) (hown : X.ownsRow B 57 2 v' (fs.length + 1) (fs.flatMap FormR.cells ++ q.cells)) (hgr : w.grownBy X v.ownBlock)
  (hat : v'.ownBlock = v.ownBlock ∨ v'.ownBlock = some w.heap.size) : TabW (X.setCell ⟨g, rs.length, none⟩ v') B g n rs v' (fs ++ [q]) := by
 have hgl := lt_of_block h.hg
 have hne : some g ≠ v.ownBlock := fun e => by have := (h.cur.own.lt g e.symm).1; have := h.lt; omega
 have hxg := (hgr.block g hgl hne).trans h.hg
 have hk1 : Keep (fun k => k = g ∨ v.ownBlock = some k) w X := (Keep.refl _ w).grown hgr (fun k e => .inl (.inr e))
 have hk2 : Keep (fun k => k = g ∨ v.ownBlock = some k) w (X.setCell ⟨g, rs.length, none⟩ v') := hk1.setCell (p := ⟨g, rs.length, none⟩) (.inl rfl) _
 have hk3 : Keep (fun k => k = g) X (X.setCell ⟨g, rs.length, none⟩ v') := (Keep.refl (fun k => k = g) X).setCell (p := ⟨g, rs.length, none⟩) rfl _
 have hww : ∀ f ∈ fs ++ [q], ∀ ad, f.p.1 = some ad → 0 < f.p.2.1 → ad.block ≠ g := fun f hf => by
  rcases List.mem_append.1 hf with hf | hf
  ·exact h.ww f hf
  ·obtain rfl : f = q := by simpa using hf
   exact hqg
 refine ⟨?_, h.lt, (h.cur.push hq hown hgr hat).kept h.lt hww hk3, hww, fun r hr => (h.rws r hr).keep hk2 fun k hk e => ?_⟩
 ·have := heap_setCell_same (o := rs.length) (u := v') hxg
  rw [show (tabV n (rs.map RowR.val ++ [v])).setIfInBounds rs.length v' = tabV n (rs.map RowR.val ++ [v']) by have h := tabV_set (n := n) (vs := rs.map RowR.val) (v := v) (v' := v'); rw [List.length_map] at h; exact h] at this
  exact this
 ·rcases e with e | e
  ·exact .inl e
  ·rcases hat with e' | e'
   ·exact .inr (e' ▸ e)
   ·rw [e'] at e; injection e with e; omega
structure TabD (w : World) (g n : Nat) (rs : List RowR) : Prop where
 hg : w.heap[g]? = some (.cells (tabV n (rs.map RowR.val)) 62 (0, 0))
 rws : ∀ r ∈ rs, FAw (fun k => k = g) w r
theorem TabD.below {w w' : World} {g n : Nat} {rs : List RowR} (h : TabD w g n rs) (hb : Below w.heap.size w w') : TabD w' g n rs :=
 ⟨(hb.block _ (lt_of_block h.hg)).trans h.hg, fun r hr => (h.rws r hr).below hb⟩
theorem TabD.start {w : World} {B g n : Nat} {rs : List RowR} (h : TabD w g n rs) (hl : rs.length < n) (hg : g < B) (hB : B ≤ w.heap.size) : TabW w B g n rs (.slice none 0 0) [] := by
 refine ⟨?_, hg, FrmW.nilB hB, (fun f hf => by cases hf), fun r hr => (h.rws r hr).keep (Keep.refl _ _) fun k _ e => ?_⟩
 ·rw [h.hg, tabV_nil (by rw [List.length_map]; exact hl)]
 ·rcases e with e | e
  ·exact e
  ·cases e
theorem TabW.done {w : World} {B g n : Nat} {rs : List RowR} {A : Option Addr} {m c : Nat} {fs : List FormR} (h : TabW w B g n rs (.slice A m c) fs) (hm : m = fs.length) : TabD w g n (rs ++ [⟨A, m, c, fs.map FormR.data⟩]) := by
 subst hm
 refine ⟨by rw [List.map_append]; exact h.hg, fun r hr => ?_⟩
 rcases List.mem_append.1 hr with hr | hr
 ·exact (h.rws r hr).keep ((Keep.refl (fun k => k = g ∨ (Value.slice A fs.length c).ownBlock = some k) w)) fun k _ e => .inl e
 ·obtain rfl : r = _ := by simpa using hr
  exact ⟨fs, rfl, Recs.of_own h.cur.own FormR.len (by decide), fun ad had hn e => by
   have := own_addr h.cur.own ad had; have := h.lt; have e' : ad.block = g := e; omega, fun f hf => ⟨(h.cur.pp f hf).1, fun ad had hn => h.ww f hf ad had hn⟩⟩
theorem TabD.par {w : World} {g n : Nat} {rs : List RowR} (h : TabD w g n rs) (hl : rs.length = n) (hn : n ≤ maxLen) : IsPar w (some ⟨g, 0, none⟩) n n (rs.map RowR.l) :=
 ⟨rs, rfl, ⟨by simpa using hl, rr, hn, (fun h => by cases h), fun _ => ⟨g, 0, rfl, lt_of_block h.hg, fun j v hv => by
  rw [Nat.zero_add]
  exact cell_at_heap h.hg (by unfold tabV; rw [List.getElem?_toArray, List.getElem?_append_left (List.getElem?_eq_some_iff.1 hv).1]; exact hv)⟩⟩, fun r hr => (h.rws r hr).forms⟩
def RetPar (w : World) (r : Int × List (List Frm)) (e : Ending) (w' : World) : Prop := ∃ A n c, e = .returned (.tuple #[.slice A n c, .int .i64 r.1]) ∧ IsPar w' A n c r.2 ∧ Below w.heap.size w w'
theorem RetPar.bad {w w' : World} {r : Int × List (List Frm)} {er : Int} (h : r = (er, [])) (hb : Below w.heap.size w w') : RetPar w r (.returned (.tuple #[.slice none 0 0, .int .i64 er])) w' := by
 subst h
 exact ⟨none, 0, 0, rfl, IsPar.nil _, hb⟩
def derF (ls : List LawD) (x : Frm) : Frm := (x.1, if x.1 then (deriveM ls x.2).2 else x.2)
def derBad (ls : List LawD) (x : Frm) : Bool := x.1 && (deriveM ls x.2).1 != 0
def pDerM (T : List (List Frm)) (ls : List LawD) : Int × List (List Frm) :=
 if lawsE ls ≠ 0 then (lawsE ls, []) else if parE T ≠ 0 then (parE T, []) else if T.any (fun l => l.any (derBad ls)) = true then (11, []) else (0, T.map fun l => l.map (derF ls))
theorem derive_11 {ls : List LawD} {ws : List Snd} (hl : lawsE ls = 0) (hw : wcheck ws = 0) : (deriveM ls ws).1 = 0 ∨ (deriveM ls ws).1 = 11 := by
 rw [derive_ok hl hw]
 split
 ·exact .inr rfl
 ·exact .inl rfl
theorem pDerive_c (A : Option Addr) (n c : Nat) (T : List (List Frm)) (A' : Option Addr) (n' c' : Nat) (xs : List LawR) (w : World) (hx : IsPar w A n c T) (hl : IsLaws w A' n' c' xs) (hT : TabOK w) :
  Calls Tryz.prog 36 #[.slice A n c, .slice A' n' c'] w (RetPar w (pDerM T (lawsD xs))) := by
 have hm := hx.max
 have HX := hI hx; clear hx
 have HL := hI hl; clear hl
 have HT := hI hT; clear hT
 go_enter Tryz.func36, Tryz.ntmps36
 go_wp2_with fail
 refine (dCheck_c A' n' c' xs w HL.out).mono ?_
 obtain ⟨er, her⟩ : ∃ er, er = lawsE (lawsD xs) := ⟨_, rfl⟩
 rw [← her]
 rintro e w0 ⟨rfl, hB0⟩
 by_cases h0 : er = 0
 case neg =>
  have h1 : (er != 0) = true := by simpa using h0
  have HM : Hid (pDerM T (lawsD xs) = (er, [])) := by show _ = _; unfold pDerM; rw [← her, if_pos h0]
  clear h0 her
  go_wp2
  go_ret2
  exact RetPar.bad HM.out hB0
 have h1 : (er != 0) = false := by simpa using h0
 have HLE : Hid (lawsE (lawsD xs) = 0) := by show _ = _; rw [← her]; exact h0
 clear h0 her
 go_wp2_with fail
 refine (pCheck_c A n c T w0 (HX.out.below hB0 rr)).mono ?_
 obtain ⟨er, her⟩ : ∃ er, er = parE T := ⟨_, rfl⟩
 rw [← her]
 rintro e w1 ⟨rfl, hb1⟩
 have hB1 := hB0.trans (hb1.mono hB0.size)
 clear hB0 hb1
 by_cases h0 : er = 0
 case neg =>
  have h2 : (er != 0) = true := by simpa using h0
  have HM : Hid (pDerM T (lawsD xs) = (er, [])) := by show _ = _; unfold pDerM; rw [if_neg (by simp [HLE.out]), ← her, if_pos h0]
  clear h0 her
  go_wp2
  go_ret2
  exact RetPar.bad HM.out hB1
 have h2 : (er != 0) = false := by simpa using h0
 have HPE : Hid (parE T = 0) := by show _ = _; rw [← her]; exact h0
 have HM : Hid (pDerM T (lawsD xs) = if T.any (fun l => l.any (derBad (lawsD xs))) = true then (11, []) else (0, T.map fun l => l.map (derF (lawsD xs)))) := by show _ = _; unfold pDerM; rw [if_neg (by simp [HLE.out]), if_neg (by simp [HPE.out])]
 have hlT := HX.out.len
 have h64 := (shape_len (par_shape HPE.out)).1
 rw [hlT] at h64
 have HLT := hI hlT
 clear h0 her hlT
 have HB1 := hI hB1
 have hmk := fun w => run_make_row' (P := Tryz.prog) 60 62 (.slice none 0 0) 24 Tryz.underlying60 fms_info rfl .i64 .i64 n (by omega) (by omega) w
 have hnm : n ≤ maxLen := by unfold maxLen; omega
 go_wp2_with fail
 clear hmk
 rw [made_tabV]
 have kg : (w1.alloc (.cells (tabV n []) 62)).heap[w1.heap.size]? = some (.cells (tabV n []) 62 (0, 0)) := hpt
 have kB : Below w1.heap.size w1 (w1.alloc (.cells (tabV n []) 62)) := bel
 have kz : (w1.alloc (.cells (tabV n []) 62)).heap.size = w1.heap.size + 1 := by simp
 generalize (w1.alloc (.cells (tabV n []) 62)) = V0 at *
 obtain ⟨g, eg⟩ : ∃ g, g = w1.heap.size := ⟨_, rfl⟩
 obtain ⟨B0, eB⟩ : ∃ B0, B0 = g + 1 := ⟨_, rfl⟩
 rw [← eg] at kg kz ⊢
 have hgB : w1.heap.size ≤ g := Nat.le_of_eq eg.symm
 have hBB0 : w1.heap.size ≤ B0 := by omega
 have hgB0 : g < B0 := by omega
 have hV0 : B0 ≤ V0.heap.size := by omega
 clear eg kz eB
 have HD0 : Hid (TabD V0 g n []) := ⟨kg, fun r hr => by cases hr⟩
 have KB := hI kB
 clear kg kB
 go_loopw [30] (fun vi wr => ∃ (i : Nat) (rs : List RowR), vi = .int .i64 i ∧ i ≤ n ∧ Hid (rs.length = i) ∧ Hid (TabD wr g n rs) ∧ Hid (rs.map RowR.l = (T.take i).map fun l => l.map (derF (lawsD xs))) ∧ Hid ((T.take i).any (fun l => l.any (derBad (lawsD xs))) = false) ∧ B0 ≤ wr.heap.size ∧ Below w1.heap.size w1 wr) (fun vi _ => n - (intOf vi).toNat)
 case atStart => exact ⟨0, [], rfl, Nat.zero_le _, rfl, HD0.out, by simp [Hid], rfl, hV0, KB.out⟩
 case round =>
  obtain ⟨i, rs, rfl, hi, HRI, htd, hdat, hbad, hBr, hB⟩ := hrel
  have hBs := hB.size
  have hBB := HB1.out.trans (hB.mono HB1.out.size)
  by_cases hlt : i < n
  ·have hi1 : (i : Int) < (n : Int) := by omega
   obtain ⟨b, off, A1, n1, c1, l, rfl, hb, hc00, hlk, hfl⟩ := HX.out.at_ hlt
   have hc0 := (hBB.cell (p := ⟨b, off + i, none⟩) hb).trans hc00
   clear hc00
   have hmem := List.mem_of_getElem? hlk
   have h16 := (shape_len (par_shape HPE.out)).2.1 _ hmem
   rw [hfl.len] at h16
   have HOK : Hid (∀ x ∈ l, wcheck x.2 = 0 ∧ (x.1 = false → x.2 = [])) := fun x hx => ⟨words_all HPE.out hmem hx, ((shape_len (par_shape HPE.out)).2.2 _ hmem).2 x hx⟩
   have HF := hI hfl
   have HLI := hI hlk
   have HTW0 := hI (htd.out.start (by rw [HRI.out]; exact hlt) hgB0 hBr)
   clear hfl hlk hmem htd
   clear hBs hBB hBr
   go_wp2_with fail
   go_loopw [37] (fun vj wr => ∃ (j : Nat) (fs : List FormR) (v : Value), vj = .int .i64 j ∧ j ≤ n1 ∧ fs.length = j ∧ Hid (TabW wr B0 g n rs v fs) ∧ Hid (fs.map FormR.data = (l.take j).map (derF (lawsD xs))) ∧ Hid ((l.take j).any (derBad (lawsD xs)) = false) ∧ Hid (∃ A c, v = .slice A j c) ∧ Below w1.heap.size w1 wr) (fun vj _ => n1 - (intOf vj).toNat)
   case atStart => exact ⟨0, [], .slice none 0 0, rfl, Nat.zero_le _, rfl, HTW0.out, by simp [Hid], rfl, ⟨_, _, rfl⟩, hB⟩
   case round =>
    obtain ⟨j, fs, v, rfl, hj, hfl, htw, hda2, hba2, hvf, hB2⟩ := hrel
    have hB2s := hB2.size
    have hBB2 := HB1.out.trans (hB2.mono HB1.out.size)
    by_cases hltj : j < n1
    ·have hj1 : (j : Int) < (n1 : Int) := by omega
     obtain ⟨b2, off2, h, A2, n2, c2, ws, rfl, hb2, hd0, hd1, hlj, hwj⟩ := (HF.out.below hBB2 rr).at_ hltj
     obtain ⟨hwc, hnk⟩ := HOK.out _ (List.mem_of_getElem? hlj)
     have HWC : Hid (wcheck ws = 0) := hwc
     have HNK : Hid (h = false → ws = []) := hnk
     have HLJ := hI hlj
     have hb1 : Below wr.heap.size wr (wr.alloc (.cells #[.bool h, .slice A2 n2 c2] 57)) := bel
     have hbx : (wr.alloc (.cells #[.bool h, .slice A2 n2 c2] 57)).heap[wr.heap.size]? = some (.cells #[.bool h, .slice A2 n2 c2] 57 (0, 0)) := hpt
     have HW := hI (hwj.below hb1 rr)
     have HTW1 := hI (htw.out.below hb1)
     have hnb : v.ownBlock ≠ some wr.heap.size := fun e => by have := (htw.out.cur.own.lt _ e).2; omega
     have hbg : wr.heap.size ≠ g := by have := lt_of_block htw.out.hg; omega
     have hBV := hB2.trans (hb1.mono hB2s)
     have hBBV := HB1.out.trans (hBV.mono HB1.out.size)
     have HLV := hI (HL.out.below hBBV rr)
     have HTV := hI (HT.out.below hBBV rr)
     have hWW : w1.heap.size ≤ wr.heap.size := hB2s
     clear hlj hwj hwc hnk hB2 hB2s hBB2
     cases h with
     | false =>
      obtain rfl : ws = [] := HNK.out rfl
      obtain rfl : 0 = n2 := HW.out.len
      go_wp2_with fail
      clear hd0 hd1 hb1
      generalize (wr.alloc (.cells #[.bool false, .slice A2 0 c2] 57)) = V1 at *
      obtain ⟨bx, hbxe⟩ : ∃ bx, bx = wr.heap.size := ⟨_, rfl⟩
      rw [← hbxe] at hbx hnb hbg ⊢
      have HBX := hI hbx
      have HNB := hI hnb
      have HAW : Hid (Away v V1 (A2, 0, c2, [])) := ⟨HW.out, fun ad _ h0 => absurd h0 (Nat.lt_irrefl 0)⟩
      have HQG : Hid (∀ ad, A2 = some ad → 0 < 0 → ad.block ≠ g) := fun ad _ h0 => absurd h0 (Nat.lt_irrefl 0)
      have k1 : V1.cell? ⟨g, i, none⟩ = some v := by rw [← HRI.out, ← List.length_map (f := RowR.val)]; exact tabV_at HTW1.out.hg
      have k2 : V1.cell? ⟨bx, 0, none⟩ = some (.bool false) := cell_at_heap hbx rfl
      have k3 : V1.cell? ⟨bx, 1, none⟩ = some (.slice A2 0 c2) := cell_at_heap hbx rfl
      have HDN : Hid ((fs ++ [(⟨false, (A2, 0, c2, [])⟩ : FormR)]).map FormR.data = (l.take (j + 1)).map (derF (lawsD xs))) := by show _ = _; rw [take_snoc' l j _ HLJ.out, List.map_append, List.map_append, hda2.out]; rfl
      have HBN : Hid ((l.take (j + 1)).any (derBad (lawsD xs)) = false) := any_snoc HLJ.out hba2.out rfl
      clear hbx hnb hbxe
      refine plain_region (fun W' => W'.cell? ⟨g, i, none⟩ = some v ∧ W'.cell? ⟨bx, 0, none⟩ = some (.bool false) ∧ W'.cell? ⟨bx, 1, none⟩ = some (.slice A2 0 c2)) (by kernel_rfl) ⟨k1, k2, k3⟩ (fun hHeld => ?_)
      (refine' anyT_tk 0 rfl ?_; (try simp only [Act.put, nY, nX])); (refine' anyT_tk 1 rfl ?_; (try simp only [Act.put, nY, nX])); (refine' anyT_tk 2 rfl ?_; (try simp only [Act.put, nY, nX])); (refine' anyT_tk 3 rfl ?_; (try simp only [Act.put, nY, nX])); (refine' anyT_tk 4 rfl ?_; (try simp only [Act.put, nY, nX])); (refine' anyT_tk 5 rfl ?_; (try simp only [Act.put, nY, nX])); (refine' anyT_tk 6 rfl ?_; (try simp only [Act.put, nY, nX]))
      (refine anyT_sp 7 rfl (fun K' hK' => ?_); simp only [nY]; go_simp)
      have hb6 : Below V1.heap.size V1 (V1.alloc (.cells #[.bool false, .slice A2 0 c2] 57)).drew := ((Below.refl V1.heap.size V1).alloc rr _).drew
      have hz6 : (V1.alloc (.cells #[.bool false, .slice A2 0 c2] 57)).drew.heap[V1.heap.size]? = some (.cells #[.bool false, .slice A2 0 c2] 57 (0, 0)) := heap_new_at rfl
      have hTW6 := HTW1.out.below hb6
      have hx6 := (hb6.block bx (lt_of_block HBX.out)).trans HBX.out
      refine hK' _ _ ⟨.inr ⟨by rw [← HRI.out, ← List.length_map (f := RowR.val)]; exact tabV_at hTW6.hg, cell_at_heap hx6 rfl, cell_at_heap hx6 rfl⟩, fun _ => ?_⟩
      clear hK' K' hHeld k1 k2 k3
      (try simp only [Act.put, nY, nX])
      have hB6 := hBV.trans (hb6.mono hBV.size)
      have HTW6 := hI hTW6
      have HAW6 := hI (HAW.out.below hb6)
      clear hTW6 hb6
      generalize (V1.alloc (.cells #[.bool false, .slice A2 0 c2] 57)).drew = V6 at *
      refine anyT_sp 8 rfl (fun K' hK' => ?_)
      rw [if_pos (by rfl)]
      refine wp_append_own_at (.tmp 60) (.tmp 62) 62 rfl B0 57 (.agg #[.bool false, .slice none 0 0]) 2 32 Tryz.underlying62 form_info rfl (by decide) v fs.length (fs.flatMap FormR.cells) (by rfl) HTW6.out.cur.own ⟨V1.heap.size, 0, none⟩ 1 1 (FormR.cells ⟨false, (A2, 0, c2, [])⟩) (by rfl) rfl (form_cells (f := ⟨false, (A2, 0, c2, [])⟩) hz6) form_one (by unfold maxLen; omega) (by omega) HTW6.out.cur.sz ?_
      intro v7 X7 hown7 hg7 _ hat7
      have hgn : some g ≠ v.ownBlock := fun e => by have := (HTW6.out.cur.own.lt g e.symm).1; have := HTW6.out.lt; omega
      have hxg := (hg7.block g (lt_of_block HTW6.out.hg) hgn).trans HTW6.out.hg
      have hx7 := (hg7.block bx (lt_of_block hx6) (Ne.symm HNB.out)).trans hx6
      have hP7 := HTW6.out.push (q := ⟨false, (A2, 0, c2, [])⟩) HAW6.out HQG.out hown7 hg7 hat7
      rw [HRI.out] at hP7
      have HP7 := hI hP7
      have m1 : X7.cell? ⟨g, i, none⟩ = some v := by rw [← HRI.out, ← List.length_map (f := RowR.val)]; exact tabV_at hxg
      have m2 : X7.frozen? ⟨g, i, none⟩ = false := frozen_of_row X7 g i _ _ hxg
      have hB7 : Below w1.heap.size w1 (X7.setCell ⟨g, i, none⟩ v7) := (hB6.trans (own_below (Below.refl _ _) HTW6.out.cur.own hg7 hBB0 hB6.size)).setCell (p := ⟨g, i, none⟩) hgB _
      have hL7 := own_form hown7
      have hS7 : X7.cell? ⟨g, i, none⟩ = some v ∧ X7.cell? ⟨bx, 0, none⟩ = some (.bool false) ∧ X7.cell? ⟨bx, 1, none⟩ = some (.slice A2 0 c2) := ⟨m1, cell_at_heap hx7 rfl, cell_at_heap hx7 rfl⟩
      refine hK' _ _ ⟨.inr hS7, fun _ => ?_⟩
      clear hK' K' hown7 hg7 hat7 hgn hxg hP7 hx6 hx7 hz6
      obtain ⟨A7, c7, rfl⟩ := hL7
      (try simp only [Act.put, nY, nX])
      (refine' anyT_tk 9 rfl ?_; (try simp only [Act.put, nY, nX]))
      (refine anyT_sp 10 rfl (fun K' hK' => ?_); simp only [nY]; go_simp)
      clear hS7
      refine hK' _ _ ⟨.inl (by kernel_rfl), fun _ => anyT_done (by kernel_rfl) ?_ _⟩
      clear hK' K' m1 m2
      rw [hfl] at HP7 hB7
      generalize (X7.setCell ⟨g, i, none⟩ (.slice A7 (j + 1) c7)) = Y at *
      go_wp2
      go_roundw
      case rel => exact ⟨j + 1, _, .slice A7 (j + 1) c7, by go_num, by omega, by rw [List.length_append, hfl]; rfl, HP7.out, HDN.out, HBN.out, ⟨_, _, rfl⟩, hB7⟩
      case measure => simp [intOf]; omega
     | true =>
      go_wp2_with fail
      clear hd0 hd1
      generalize (wr.alloc (.cells #[.bool true, .slice A2 n2 c2] 57)) = V1 at *
      obtain ⟨bx, hbxe⟩ : ∃ bx, bx = wr.heap.size := ⟨_, rfl⟩
      rw [← hbxe] at hbx hnb hbg ⊢
      have hbxw : wr.heap.size ≤ bx := Nat.le_of_eq hbxe.symm
      have hbxV := lt_of_block hbx
      have hgV : g < V1.heap.size := lt_of_block HTW1.out.hg
      have HBX1 := hI hbx
      have HNB := hI hnb
      clear hbx hnb hbxe
      refine (derive_c A' n' c' xs A2 n2 c2 ws V1 HLV.out HW.out HTV.out).mono ?_
      obtain ⟨r, hr⟩ : ∃ r, r = deriveM (lawsD xs) ws := ⟨_, rfl⟩
      rw [← hr]
      have h11 := derive_11 HLE.out HWC.out
      rw [← hr] at h11
      have HR := hI hr; clear hr
      rintro e w5 ⟨A5, n5, c5, rfl, hw5, hb5, hf5⟩
      have hx5 := (hb5.block bx hbxV).trans HBX1.out
      have hB5 := hBV.trans (hb5.mono hBV.size)
      by_cases h0 : r.1 = 0
      case neg =>
       have h3 : (r.1 != 0) = true := by simpa using h0
       have HM' : Hid (pDerM T (lawsD xs) = (r.1, [])) := by
        show _ = _
        rw [HM.out, if_pos (any_at HLI.out (any_at HLJ.out (by show (true && (deriveM (lawsD xs) ws).1 != 0) = true; rw [← HR.out, h3]; rfl)))]
        rcases h11 with q | q
        ·exact absurd q h0
        ·rw [q]
       clear h0 h11 hw5 hf5 hx5
       go_wp2
       go_ret2
       exact RetPar.bad HM'.out (HB1.out.trans (hB5.mono HB1.out.size))
      have h3 : (r.1 != 0) = false := by simpa using h0
      have hbw5 : Below wr.heap.size wr (w5.setCell ⟨bx, 1, none⟩ (.slice A5 n5 c5)) := (hb1.trans (hb5.mono hb1.size)).setCell (p := ⟨bx, 1, none⟩) hbxw _
      have hbx6 : (w5.setCell ⟨bx, 1, none⟩ (.slice A5 n5 c5)).heap[bx]? = some (.cells #[.bool true, .slice A5 n5 c5] 57 (0, 0)) := heap_setCell_same hx5
      have HTW5 := hI (htw.out.below hbw5)
      have hkx : Keep (fun k => k = bx) w5 (w5.setCell ⟨bx, 1, none⟩ (.slice A5 n5 c5)) := (Keep.refl (fun k => k = bx) w5).setCell (p := ⟨bx, 1, none⟩) rfl _
      have HAW : Hid (Away v (w5.setCell ⟨bx, 1, none⟩ (.slice A5 n5 c5)) (A5, n5, c5, r.2)) := ⟨hw5.keep hkx fun _ ad had e => by have := hf5 ad had; omega, fun ad had _ e => by have := (htw.out.cur.own.lt _ e).2; have := hf5 ad had; omega⟩
      have HQG : Hid (∀ ad, A5 = some ad → 0 < n5 → ad.block ≠ g) := fun ad had _ e => by have := hf5 ad had; omega
      have e0 : w5.cell? ⟨bx, 1, none⟩ = some (.slice A2 n2 c2) := cell_at_heap hx5 rfl
      have e1 : w5.frozen? ⟨bx, 1, none⟩ = false := frozen_of_row w5 bx 1 _ _ hx5
      have hBW : Below w1.heap.size w1 (w5.setCell ⟨bx, 1, none⟩ (.slice A5 n5 c5)) := hB5.setCell (p := ⟨bx, 1, none⟩) (by simp; omega) _
      have HDN : Hid ((fs ++ [(⟨true, (A5, n5, c5, r.2)⟩ : FormR)]).map FormR.data = (l.take (j + 1)).map (derF (lawsD xs))) := by show _ = _; rw [take_snoc' l j _ HLJ.out, List.map_append, List.map_append, hda2.out, HR.out]; rfl
      have HBN : Hid ((l.take (j + 1)).any (derBad (lawsD xs)) = false) := any_snoc HLJ.out hba2.out (by show (true && (deriveM (lawsD xs) ws).1 != 0) = false; rw [← HR.out, h3]; rfl)
      clear h0 h11 hw5 hf5 hkx hb5 hBV hB5
      go_wp2_with fail
      clear e0 e1 hx5 hbw5
      generalize (w5.setCell ⟨bx, 1, none⟩ (.slice A5 n5 c5)) = W5 at *
      have hBV := hBW
      have HBX := hI hbx6
      have k1 : W5.cell? ⟨g, i, none⟩ = some v := by rw [← HRI.out, ← List.length_map (f := RowR.val)]; exact tabV_at HTW5.out.hg
      have k2 : W5.cell? ⟨bx, 0, none⟩ = some (.bool true) := cell_at_heap hbx6 rfl
      have k3 : W5.cell? ⟨bx, 1, none⟩ = some (.slice A5 n5 c5) := cell_at_heap hbx6 rfl
      clear hbx6
      refine plain_region (fun W' => W'.cell? ⟨g, i, none⟩ = some v ∧ W'.cell? ⟨bx, 0, none⟩ = some (.bool true) ∧ W'.cell? ⟨bx, 1, none⟩ = some (.slice A5 n5 c5)) (by kernel_rfl) ⟨k1, k2, k3⟩ (fun hHeld => ?_)
      (refine' anyT_tk 0 rfl ?_; (try simp only [Act.put, nY, nX])); (refine' anyT_tk 1 rfl ?_; (try simp only [Act.put, nY, nX])); (refine' anyT_tk 2 rfl ?_; (try simp only [Act.put, nY, nX])); (refine' anyT_tk 3 rfl ?_; (try simp only [Act.put, nY, nX])); (refine' anyT_tk 4 rfl ?_; (try simp only [Act.put, nY, nX])); (refine' anyT_tk 5 rfl ?_; (try simp only [Act.put, nY, nX])); (refine' anyT_tk 6 rfl ?_; (try simp only [Act.put, nY, nX]))
      (refine anyT_sp 7 rfl (fun K' hK' => ?_); simp only [nY]; go_simp)
      have hb6 : Below W5.heap.size W5 (W5.alloc (.cells #[.bool true, .slice A5 n5 c5] 57)).drew := ((Below.refl W5.heap.size W5).alloc rr _).drew
      have hz6 : (W5.alloc (.cells #[.bool true, .slice A5 n5 c5] 57)).drew.heap[W5.heap.size]? = some (.cells #[.bool true, .slice A5 n5 c5] 57 (0, 0)) := heap_new_at rfl
      have hTW6 := HTW5.out.below hb6
      have hx6 := (hb6.block bx (lt_of_block HBX.out)).trans HBX.out
      refine hK' _ _ ⟨.inr ⟨by rw [← HRI.out, ← List.length_map (f := RowR.val)]; exact tabV_at hTW6.hg, cell_at_heap hx6 rfl, cell_at_heap hx6 rfl⟩, fun _ => ?_⟩
      clear hK' K' hHeld k1 k2 k3
      (try simp only [Act.put, nY, nX])
      have hB6 := hBV.trans (hb6.mono hBV.size)
      have HTW6 := hI hTW6
      have HAW6 := hI (HAW.out.below hb6)
      clear hTW6 hb6
      generalize (W5.alloc (.cells #[.bool true, .slice A5 n5 c5] 57)).drew = V6 at *
      refine anyT_sp 8 rfl (fun K' hK' => ?_)
      rw [if_pos (by rfl)]
      refine wp_append_own_at (.tmp 60) (.tmp 62) 62 rfl B0 57 (.agg #[.bool false, .slice none 0 0]) 2 32 Tryz.underlying62 form_info rfl (by decide) v fs.length (fs.flatMap FormR.cells) (by rfl) HTW6.out.cur.own ⟨W5.heap.size, 0, none⟩ 1 1 (FormR.cells ⟨true, (A5, n5, c5, r.2)⟩) (by rfl) rfl (form_cells (f := ⟨true, (A5, n5, c5, r.2)⟩) hz6) form_one (by unfold maxLen; omega) (by omega) HTW6.out.cur.sz ?_
      intro v7 X7 hown7 hg7 _ hat7
      have hgn : some g ≠ v.ownBlock := fun e => by have := (HTW6.out.cur.own.lt g e.symm).1; have := HTW6.out.lt; omega
      have hxg := (hg7.block g (lt_of_block HTW6.out.hg) hgn).trans HTW6.out.hg
      have hx7 := (hg7.block bx (lt_of_block hx6) (Ne.symm HNB.out)).trans hx6
      have hP7 := HTW6.out.push (q := ⟨true, (A5, n5, c5, r.2)⟩) HAW6.out HQG.out hown7 hg7 hat7
      rw [HRI.out] at hP7
      have HP7 := hI hP7
      have m1 : X7.cell? ⟨g, i, none⟩ = some v := by rw [← HRI.out, ← List.length_map (f := RowR.val)]; exact tabV_at hxg
      have m2 : X7.frozen? ⟨g, i, none⟩ = false := frozen_of_row X7 g i _ _ hxg
      have hB7 : Below w1.heap.size w1 (X7.setCell ⟨g, i, none⟩ v7) := (hB6.trans (own_below (Below.refl _ _) HTW6.out.cur.own hg7 hBB0 hB6.size)).setCell (p := ⟨g, i, none⟩) hgB _
      have hL7 := own_form hown7
      have hS7 : X7.cell? ⟨g, i, none⟩ = some v ∧ X7.cell? ⟨bx, 0, none⟩ = some (.bool true) ∧ X7.cell? ⟨bx, 1, none⟩ = some (.slice A5 n5 c5) := ⟨m1, cell_at_heap hx7 rfl, cell_at_heap hx7 rfl⟩
      refine hK' _ _ ⟨.inr hS7, fun _ => ?_⟩
      clear hK' K' hown7 hg7 hat7 hgn hxg hP7 hx6 hx7 hz6
      obtain ⟨A7, c7, rfl⟩ := hL7
      (try simp only [Act.put, nY, nX])
      (refine' anyT_tk 9 rfl ?_; (try simp only [Act.put, nY, nX]))
      (refine anyT_sp 10 rfl (fun K' hK' => ?_); simp only [nY]; go_simp)
      clear hS7
      refine hK' _ _ ⟨.inl (by kernel_rfl), fun _ => anyT_done (by kernel_rfl) ?_ _⟩
      clear hK' K' m1 m2
      rw [hfl] at HP7 hB7
      generalize (X7.setCell ⟨g, i, none⟩ (.slice A7 (j + 1) c7)) = Y at *
      go_wp2
      go_roundw
      case rel => exact ⟨j + 1, _, .slice A7 (j + 1) c7, by go_num, by omega, by rw [List.length_append, hfl]; rfl, HP7.out, HDN.out, HBN.out, ⟨_, _, rfl⟩, hB7⟩
      case measure => simp [intOf]; omega
    ·have hj1 : ¬ ((j : Int) < (n1 : Int)) := by omega
     have hjn : j = n1 := by omega
     obtain ⟨Av, cv, hvv⟩ := hvf.out
     subst hvv
     have HDN := hI (htw.out.done (by omega))
     have HBZ := htw.out.cur.sz
     have HDF : Hid (fs.map FormR.data = l.map (derF (lawsD xs))) := by show _ = _; rw [hda2.out, List.take_of_length_le (by rw [HF.out.len]; omega)]
     have HN1 : Hid ((rs ++ [(⟨Av, j, cv, fs.map FormR.data⟩ : RowR)]).map RowR.l = (T.take (i + 1)).map fun l => l.map (derF (lawsD xs))) := by
      show _ = _
      rw [take_snoc' T i _ HLI.out, List.map_append, List.map_append, hdat.out, HDF.out]; rfl
     have HN2 : Hid ((T.take (i + 1)).any (fun l => l.any (derBad (lawsD xs))) = false) := any_snoc HLI.out hbad.out (by
      have := hba2.out
      rwa [List.take_of_length_le (by rw [HF.out.len]; omega)] at this)
     clear htw hjn
     go_wp2
     go_roundw
     case rel => exact ⟨i + 1, _, by go_num, by omega, by show _ = _; rw [List.length_append, HRI.out]; rfl, HDN.out, HN1.out, HN2.out, HBZ, hB2⟩
     case measure => simp [intOf]; omega
  ·have hi1 : ¬ ((i : Int) < (n : Int)) := by omega
   have HD : Hid (rs.map RowR.l = T.map fun l => l.map (derF (lawsD xs))) := by show _ = _; rw [hdat.out, List.take_of_length_le (by rw [HLT.out]; omega)]
   have HM' : Hid (pDerM T (lawsD xs) = (0, T.map fun l => l.map (derF (lawsD xs)))) := by
    have := hbad.out
    rw [List.take_of_length_le (by rw [HLT.out]; omega)] at this
    show _ = _
    rw [HM.out, if_neg (by rw [this]; decide)]
   have hp := htd.out.par (by rw [HRI.out]; omega) hnm
   rw [HD.out] at hp
   have HP := hI hp; clear hp
   go_wp2
   go_ret2
   exact ⟨some ⟨g, 0, none⟩, n, n, by rw [HM'.out]; rfl, by rw [HM'.out]; exact HP.out, hBB⟩
end Go.Proofs.YtlgliddhideflaaGreatDoor
