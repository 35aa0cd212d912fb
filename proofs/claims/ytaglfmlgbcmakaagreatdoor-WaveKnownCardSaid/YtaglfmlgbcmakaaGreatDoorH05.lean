/-
  wave.Forms.
  A slice of words, as records of one cell.
  slices.IndexFunc over records of type []api.Sound.
  wave.Values.
  Package wave, where there is no map: each call is refused.
  Package wave, over a map or none.
  A map that bears the names that have been seen, in plain words.
  slices.Clone of strings and of roads; (*points.Map).Roads.
  A word that make lays.
  The examples of the statements' own package: sounds and laws.
  slices.IndexFunc and slices.ContainsFunc over records of type points.end.
  A row of records, as the library's sort sees it.
  The closures of points.New; slices.SortFunc over the ends of roads.
-/
import Derived.Maps.Own
import Derived.Lib.OwnBridge
import Derived.Test.YtaglfmlgbcmakaaGreatDoorH04
import Derived.Test.YtaglfmlgbcmakaaGreatDoorG38
import Derived.Test.YtaglfmlgbcmakaaGreatDoorG21
set_option linter.all false
set_option maxRecDepth 100000
set_option maxHeartbeats 4000000
namespace Go.Proofs.YtaglfmlgbcmakaaGreatDoor
open Go.RowKit Go.Shelf Go.Maps Go.WideMaps
theorem formsGo_ok {f : Nat → Int × List Snd} : ∀ (l : List Nat) (done : List (List Snd)), (∀ a ∈ l, (f a).1 = 0) → formsGo f done l = (0, done ++ l.map fun a => (f a).2)
 | [], done, _ => by simp [formsGo]
 | a :: l, done, h => by
  unfold formsGo
  rw [if_neg (by rw [h a (List.mem_cons_self ..)]; simp), formsGo_ok l _ fun b hb => h b (List.mem_cons_of_mem _ hb)]
  simp
theorem formsGo_bad {f : Nat → Int × List Snd} : ∀ (l r : List Nat) (done : List (List Snd)) (a : Nat), (∀ b ∈ l, (f b).1 = 0) → (f a).1 ≠ 0 → formsGo f done (l ++ a :: r) = ((f a).1, [])
 | [], r, done, a, _, h => by
  show formsGo f done (a :: r) = _
  unfold formsGo
  rw [if_pos h]
 | b :: l, r, done, a, hl, h => by
  show formsGo f done (b :: (l ++ a :: r)) = _
  unfold formsGo
  rw [if_neg (by rw [hl b (List.mem_cons_self ..)]; simp), formsGo_bad l r _ a (fun x hx => hl x (List.mem_cons_of_mem _ hx)) h]
theorem own_apart' {w : World} {B B' : Nat} {t t' : TypeId} {z z' : Nat} {v v' : Value} {n n' : Nat} {xs xs' : List Value} (h : w.ownsRow B t z v n xs) (h' : w.ownsRow B' t' z' v' n' xs') (hn : t ≠ t') : ∀ k, v.ownBlock = some k → v'.ownBlock ≠ some k := by
 intro k hk hk'
 rcases h.2 with ⟨rfl, _⟩ | ⟨g, cap, cur, rfl, _, hg, _⟩
 ·cases hk
 ·rcases h'.2 with ⟨rfl, _⟩ | ⟨g', cap', cur', rfl, _, hg', _⟩
  ·cases hk'
  ·obtain rfl : g = k := Option.some.inj hk
   obtain rfl : g' = g := Option.some.inj hk'
   rw [hg] at hg'
   injection hg' with e
   injection e with _ e _
   exact hn e
theorem byte_info : (Tryz.prog.info? 5).map (fun i => (i.zero, i.size, i.bytes)) = some (some (.int .u8 0), 1, 1) := by kernel_rfl
theorem append_byte {ops : Array Oper} {rest : List Oper} {o : Oper} {a : Act} {w : World} {Q : Exit → Act → World → Prop} (hgd : o.guard = none) (s x : Operand)
  (ho : o.op = .call { callee := .builtin .append, args := #[s, x], argTypes := #[102, 102] })
  (base : Nat) (v : Value) (n : Nat) (xs : List Value) (hs : a.eval s = v) (hown : w.ownsRow base 5 1 v n xs)
  (ad : Addr) (c : Nat) (y : Value) (hx : a.eval x = .slice (some ad) 1 c) (hr : ∀ j u, [y][j]? = some u → w.cell? (ad.add j) = some u) (hy : y.oneCell' = true) (hl : n + 1 ≤ 4096) (hbase : base ≤ w.heap.size)
  (h : ∀ v' w', w'.ownsRow base 5 1 v' (n + 1) (xs ++ [y]) → w.grownBy w' v.ownBlock →
   wpList Tryz.prog ops Q rest (a.put o.dst v') w') : wpList Tryz.prog ops Q (o :: rest) a w := by
 obtain ⟨i0, hi, hz0, hz1, hz2⟩ := info_parts byte_info
 exact wpList_append_own_at w hgd s x 102 ho base 5 i0 _ 1 1 Tryz.underlying102 hi hz0 hz1 hz2 rfl (by decide) v n xs hs hown ad 1 c [y] hx rfl hr
  (by intro u hu; simp at hu; subst hu; exact hy) (by unfold maxLen; omega) (by omega) hbase fun v' w' h1 h2 _ h4 => h v' w' h1 h2
theorem derive_len {ls : List LawD} {ws : List Snd} (hw : wcheck ws = 0) : (deriveM ls ws).2.length ≤ 32 := by
 unfold deriveM
 split
 ·simp
 ·rename_i h
  split
  ·simp
  ·cases e : (formsM ls ws).2.getLast? with
   | none => simp
   | some x =>
    have h2 := (formsM_ok ls ws (lawsE_all (chk_laws (by simpa using h))).2 hw).2 x (List.mem_of_getLast? e)
    exact (wcheck_iff.1 h2).1
theorem apt_new {w : World} {A : Option Addr} {n c s B bm : Nat} {x : List Snd} {vo : Value} (h : IsWord w A n c x) (hf : ∀ ad, A = some ad → s ≤ ad.block) (hb : bm < s) (ho : ∀ k, vo.ownBlock = some k → k < s) (hB : B ≤ s) : AptW B bm vo w A n := fun hn ad had => by
 have h1 := hf ad had
 obtain ⟨b, off, hA, hlt, _⟩ := h.2.2.2.2 hn
 rw [had] at hA; injection hA with hA; subst hA
 exact ⟨by omega, by show b ≠ bm; have : s ≤ b := h1; omega, fun e => by have h2 := ho b e; have : s ≤ b := h1; omega, hlt⟩
theorem own_base {w : World} {B B' : Nat} {t : TypeId} {z n : Nat} {v : Value} {xs : List Value} (h : w.ownsRow B t z v n xs) (hb : B' ≤ B) : w.ownsRow B' t z v n xs := by
 refine ⟨h.1, h.2.imp (fun h => h) ?_⟩
 rintro ⟨g, cap, cur, h1, h2, h3⟩
 exact ⟨g, cap, cur, h1, by omega, h3⟩
def putR (xs : List LawR) (L : List Int) : List LawR := L.filterMap fun x => xs[x.toNat]?
theorem putR_d (xs : List LawR) : ∀ L : List Int, lawsD (putR xs L) = putL38 (lawsD xs) L
 | [] => rfl
 | x :: L => by
  have h := putR_d xs L
  unfold putR putL38 at h ⊢
  rw [List.filterMap_cons, List.filterMap_cons]
  have e : (lawsD xs)[x.toNat]? = (xs[x.toNat]?).map LawR.l := by rw [lawsD, List.getElem?_map]
  rw [e]
  cases xs[x.toNat]? with
  | none => exact h
  | some y => show lawsD (y :: _) = y.l :: _; rw [← h]; rfl
theorem putR_snoc (xs : List LawR) (L : List Int) (x : Int) (y : LawR) (h : xs[x.toNat]? = some y) : putR xs (L ++ [x]) = putR xs L ++ [y] := by
 unfold putR; rw [List.filterMap_append]; simp [h]
theorem putR_mem {xs : List LawR} {L : List Int} {y : LawR} (h : y ∈ putR xs L) : y ∈ xs := by
 obtain ⟨x, _, hx⟩ := List.mem_filterMap.1 h
 exact List.mem_of_getElem? hx
theorem range_split {n a : Nat} (h : a < n) : List.range n = List.range a ++ a :: (List.range' (a + 1) (n - a - 1)) := by
 rw [List.range_eq_range', List.range_eq_range', show n = a + (1 + (n - a - 1)) by omega, ← List.range'_append_1, ← List.range'_append_1]
 simp [List.range'_one]
theorem forms38_c (b n : Nat) (rs : List RoadN) (Ax : Option Addr) (nx cx : Nat) (xs : List LawR) (A : Option Addr) (m c : Nat) (ys : List WaveR) (Aw : Option Addr) (nw cw : Nat) (ws : List Snd) (now : Int) (w : World) (hm : MapAt w b n rs) (hx : IsLaws w Ax nx cx xs) (hy : IsWaves w A m c ys) (hw : IsWord w Aw nw cw ws) (hT : TabOK w) (h19 : m ≤ 19 ∨ 64 < m) :
  Calls Tryz.prog 18 #[.pointer (some ⟨b, 0, none⟩), .slice Ax nx cx, .slice A m c, .slice Aw nw cw, .int .i64 now] w (RetFs w (formsM38 n rs (lawsD xs) (wavesD ys) ws now)) := by
 obtain ⟨An, cn, mb, Ar, cr, Aq, cq, c0, c1, c2, c3⟩ := hm.cells
 have hbl := hm.lt
 have hn128 := hm.few
 have HM := hI hm; have HX := hI hx; have HY := hI hy; have HT := hI hT; have HC := hI c0; have HW := hI hw
 have hly : (wavesD ys).length = m := by rw [wavesD, List.length_map]; exact hy.len
 have HLY := hI hly
 have H19 := hI h19
 have hnx := hx.len
 clear hm hx hy hT c0 c1 c2 c3 hly h19 hw
 go_enter Tryz.func18, Tryz.ntmps18
 go_wp2_with fail
 refine (wcheck38_c b n rs Ax nx cx xs A m c ys w HM.out HX.out HY.out HT.out).mono ?_
 obtain ⟨er, her⟩ : ∃ er, er = waveE n (lawsD xs) (wavesD ys) := ⟨_, rfl⟩
 rw [← her]
 rintro e w1 ⟨rfl, hb1⟩
 have HB1 := hI hb1; have HER := hI her
 clear hb1 her
 by_cases he0 : er = 0
 case neg =>
  have he1 : (er == 0) = false := by simpa using he0
  have he2 : (er != 0) = true := by simpa using he0
  have HV : Hid (formsM38 n rs (lawsD xs) (wavesD ys) ws now = (er, [])) := by show _ = _; unfold formsM38; rw [if_pos (by rw [← HER.out]; exact he0), HER.out]
  clear he0
  go_wp2
  go_ret2
  exact RetFs.bad HV.out HB1.out
 have he1 : (er == 0) = true := by simp [he0]
 have HW0 : Hid (waveE n (lawsD xs) (wavesD ys) = 0) := by show _ = _; rw [← HER.out, he0]
 have hm19 : m ≤ 19 := by have := (wave_ok HW0.out).2.2.1; rw [HLY.out] at this; have := H19.out; omega
 have HONE : Hid (∀ y ∈ ys, oneE n y.d = 0) := fun y hy => ((wave_ok HW0.out).2.2.2 y.d (List.mem_map.2 ⟨y, hy, rfl⟩)).2.2
 have HLAW : Hid (∀ y ∈ ys, 0 ≤ y.d.law ∧ y.d.law < (xs.length : Int)) := fun y hy => by
  have := (wave_ok HW0.out).2.2.2 y.d (List.mem_map.2 ⟨y, hy, rfl⟩)
  rw [lawsD, List.length_map] at this
  exact ⟨this.1, this.2.1⟩
 clear HER he0
 go_wp2_with fail
 refine (wCheck_c Aw nw cw ws w1 (HW.out.below HB1.out rr)).mono ?_
 obtain ⟨er2, her2⟩ : ∃ er, er = wcheck ws := ⟨_, rfl⟩
 rw [← her2]
 rintro e w2 ⟨rfl, hb2⟩
 have HB2 := hI (HB1.out.trans (hb2.mono HB1.out.size)); have HER2 := hI her2
 clear hb2 her2 HB1
 by_cases he0 : er2 = 0
 case neg =>
  have he2 : (er2 != 0) = true := by simpa using he0
  have HV : Hid (formsM38 n rs (lawsD xs) (wavesD ys) ws now = (er2, [])) := by show _ = _; unfold formsM38; rw [if_neg (by rw [HW0.out]; simp), if_pos (by rw [← HER2.out]; exact he0), HER2.out]
  clear he0
  go_wp2
  go_ret2
  exact RetFs.bad HV.out HB2.out
 have he2 : (er2 != 0) = false := by simpa using he0
 have HWC : Hid (wcheck ws = 0) := by show _ = _; rw [← HER2.out]; exact he0
 have HV : Hid (formsM38 n rs (lawsD xs) (wavesD ys) ws now = formsGo (formAt n rs (lawsD xs) (wavesD ys) ws now) [] (List.range n)) := by
  show _ = _; unfold formsM38; rw [if_neg (by rw [HW0.out]; simp), if_neg (by rw [← HER2.out]; simpa using he0)]
 clear HER2 he0
 have hmm := @run_makeMap Tryz.prog
 go_wp2_with fail
 clear hmm
 have hM0 : (w2.alloc (.map #[] 0)).ownsMap Tryz.prog 9 heldR w2.heap.size 0 (.map []) := World.ownsMap_made w2 _ _ _
 have hB0 : Below w.heap.size w (w2.alloc (.map #[] 0)) := HB2.out.alloc HB2.out.size _
 have hs0 : (w2.alloc (.map #[] 0)).heap.size = w2.heap.size + 1 := by simp
 obtain ⟨bm, hbm⟩ : ∃ bm, bm = w2.heap.size := ⟨_, rfl⟩
 have hwbm : w.heap.size ≤ bm := by have := HB2.out.size; omega
 rw [← hbm] at hM0 hs0 ⊢
 generalize w2.alloc (.map #[] 0) = W0 at *
 clear hbm HB2
 refine (mlen_c b An n cn W0 ((hB0.cell (p := ⟨b, 0, none⟩) hbl).trans HC.out)).mono ?_
 rintro e w3 ⟨rfl, hb3⟩
 have HB3 := hI (hB0.trans (hb3.mono hB0.size))
 have HF3 : Hid (FormW bm bm 0 (lawsD xs) ws (.slice none 0 0) [] (.map []) w3) :=
  ⟨rr, own_map hM0 (hb3.block bm hM0.lt), isMap_empty, (fun L _ hh => by cases hh), World.ownsRow_nil _ _ _ _, (fun p hp => absurd hp (List.not_mem_nil)), (fun p hp => absurd hp (List.not_mem_nil)), (fun p hp => absurd hp (List.not_mem_nil)), by have := hb3.size; omega⟩
 clear hM0 hB0 hs0 hb3
 obtain ⟨F, hF⟩ : ∃ F, F = formAt n rs (lawsD xs) (wavesD ys) ws now := ⟨_, rfl⟩
 rw [← hF] at HV
 have HF := hI hF
 clear hF
 go_wp2_with fail
 go_loopw [14, 36] (fun u14 i wr => ∃ (k : Nat) (ps : List Part) (D : DataW Value), k ≤ n ∧ i = .int .i64 (k : Int) ∧ Hid (FormW bm bm k (lawsD xs) ws u14 ps D wr) ∧ Hid (ps.map Part.word = (List.range k).map fun a => (F a).2) ∧ Hid (∀ a, a < k → (F a).1 = 0) ∧ Hid (Below w.heap.size w wr)) (fun _ i _ => n - (intOf i).toNat)
 case atStart => exact ⟨0, [], .map [], Nat.zero_le _, rfl, HF3.out, rfl, fun a ha => by omega, HB3.out⟩
 case round =>
  obtain ⟨k, ps, D, hk, rfl, HFW, HPS, HF0, HB⟩ := hrel
  clear HF3 HB3
  by_cases hkn : k < n
  ·have hkn' : (k : Int) < (n : Int) := by omega
   go_wp2_with fail
   refine (line_c b n rs A m c ys k now wr (HM.out.below HB.out) (HY.out.below HB.out) HONE.out hkn hm19).mono ?_
   rintro e w4 ⟨A4, c4, rfl, hi4, hb4⟩
   obtain ⟨L, hL⟩ : ∃ L, L = lineL n rs (wavesD ys) k now := ⟨_, rfl⟩
   rw [← hL] at hi4 ⊢
   have hLlen : L.length ≤ 19 := by
    have h1 := rank_len (wave_strict (tAt n rs (wavesD ys) k)) (fun i => byNow now (tAt n rs (wavesD ys) k i)) (wavesD ys).length
    have h2 := List.length_filter_le (fun i => byNow now (tAt n rs (wavesD ys) k i)) (List.range (wavesD ys).length)
    rw [List.length_range, HLY.out] at h2
    rw [hL]; unfold lineL lineN; rw [List.length_map, h1, HLY.out]; omega
   have HLB : Hid (∀ x ∈ L, 0 ≤ x ∧ x < (xs.length : Int)) := fun x hx => by
    rw [hL] at hx
    obtain ⟨j, hj, rfl⟩ := List.mem_map.1 hx
    have hj' := ((byRank_mem (wave_strict _) _ _ _).1 hj).1
    unfold lawAt
    obtain ⟨y, hy⟩ : ∃ y, ys[j]? = some y := ⟨ys[j]'(by rw [wavesD, List.length_map] at hj'; exact hj'), List.getElem?_eq_getElem _⟩
    rw [wavesD, List.getElem?_map, hy]
    exact HLAW.out y (List.mem_of_getElem? hy)
   have HFK : Hid (F k = deriveM (putL38 (lawsD xs) L) ws) := by show _ = _; rw [HF.out, hL]; rfl
   have hx64 : xs.length ≤ 64 := by
    have := (wave_ok HW0.out).2.1
    have h := lawsE_len this
    rwa [lawsD, List.length_map] at h
   have HI4 := hI hi4
   have HFW4 := hI (HFW.out.below hb4)
   have HB4 := hI (HB.out.trans (hb4.mono HB.out.size))
   obtain ⟨q, hq⟩ : ∃ q, q = L.length := ⟨_, rfl⟩
   have HQ := hI hq
   rw [← hq] at hLlen ⊢
   rw [← hq] at HI4
   clear hi4 hb4 hL hq HFW HB
   go_wp2_with fail
   go_loopw [16, 17, 45] (fun s16 s17 i wq => ∃ j : Nat, j ≤ q ∧ i = .int .i64 (j : Int) ∧ Hid (wq.ownsRow w4.heap.size 55 18 s16 j ((putR xs (L.take j)).flatMap LawR.cells)) ∧ Hid (wq.ownsRow w4.heap.size 5 1 s17 j ((L.take j).map (Value.int .u8))) ∧ Hid (Below w4.heap.size w4 wq)) (fun _ _ i _ => q - (intOf i).toNat)
   case atStart => exact ⟨0, Nat.zero_le _, rfl, World.ownsRow_nil _ _ _ _, World.ownsRow_nil _ _ _ _, Below.refl _ _⟩
   case round =>
    obtain ⟨j, hj, rfl, HO, HK, HBQ⟩ := hrel
    by_cases hjq : j < q
    ·have hjq' : (j : Int) < (q : Int) := by omega
     have hLj : L[j]? = some (L[j]'(by have := HQ.out; omega)) := List.getElem?_eq_getElem _
     obtain ⟨x, hxe⟩ : ∃ x, x = L[j]'(by have := HQ.out; omega) := ⟨_, rfl⟩
     rw [← hxe] at hLj
     have hxb := HLB.out x (List.mem_of_getElem? hLj)
     obtain ⟨z, rfl⟩ : ∃ z : Nat, x = z := ⟨x.toNat, by omega⟩
     have hzl : z < xs.length := by omega
     obtain ⟨s, hs⟩ : ∃ s, xs[z]? = some s := ⟨xs[z]'hzl, List.getElem?_eq_getElem _⟩
     have HTS : Hid (L.take (j + 1) = L.take j ++ [(z : Int)]) := by show _ = _; rw [List.take_add_one, hLj]; rfl
     have HPS' : Hid (putR xs (L.take (j + 1)) = putR xs (L.take j) ++ [s]) := by show _ = _; rw [HTS.out]; exact putR_snoc xs _ _ s hs
     obtain ⟨gl, ol, vv, hA4, hgl, hvv, hcl⟩ := (Cells.below HI4.out HBQ.out rr).at1 (k := j) (by omega)
     rw [List.getElem?_map, hLj] at hvv
     obtain rfl : vv = .int .i64 (z : Int) := by simpa using hvv.symm
     subst hA4
     obtain ⟨b0, off0, hAx, hbl0, hrg⟩ := (HX.out.below (HB4.out.trans (HBQ.out.mono HB4.out.size)) rr).at_ hs
     subst hAx
     have hzn : (z : Int) < (nx : Int) := by omega
     have HRG := hI hrg
     obtain ⟨A6, c6, rfl⟩ := own_form HO.out
     obtain ⟨A7, c7, rfl⟩ := own_form HK.out
     have hown2 : (wr.alloc (.cells (s.cells).toArray 55)).ownsRow w4.heap.size 55 18 (.slice A6 j c6) j ((putR xs (L.take j)).flatMap LawR.cells) := HO.out.alloc _
     have hkey2 : (wr.alloc (.cells (s.cells).toArray 55)).ownsRow w4.heap.size 5 1 (.slice A7 j c7) j ((L.take j).map (Value.int .u8)) := HK.out.alloc _
     have hrec : Recs LawR.cells 18 (wr.alloc (.cells (s.cells).toArray 55)) (some ⟨wr.heap.size, 0, none⟩) 1 1 [s] :=
      ⟨⟨by simp [LawR.len], rr, by unfold maxLen; omega, (fun h => by cases h), fun _ => ⟨wr.heap.size, 0, rfl, by simp, fun j v hv => by rw [Nat.zero_add]; exact cell_new_at (by simpa using hv)⟩⟩, rfl⟩
     have hBQ2 : Below w4.heap.size w4 (wr.alloc (.cells (s.cells).toArray 55)) := HBQ.out.alloc HBQ.out.size _
     have hsz2 := hBQ2.size
     have HAP := hI (own_apart' hkey2 hown2 (by decide))
     have HOWN2 := hI hown2; have HKEY2 := hI hkey2; have HREC := hI hrec; have HBQ2 := hI hBQ2
     have hwrap : IntKind.u8.wrap (z : Int) = (z : Int) := by unfold IntKind.wrap; simp [IntKind.signed, IntKind.bits]; omega
     clear hown2 hkey2 hrec hBQ2 hrg hs hLj hvv hxe
     go_wp2_with (first | (refine load_lawM rfl (.tmp 52) rfl b0 (off0 + z * 18) s rfl HRG.out ?_) | (refine build_law1 rfl (.tmp 53) rfl s rfl ?_) | (at_builtin; refine append_laws rfl (.tmp 49) (.tmp 54) rfl w4.heap.size (.slice A6 j c6) j (putR xs (L.take j)) rfl HOWN2.out (some ⟨wr.heap.size, 0, none⟩) 1 1 [s] rfl HREC.out (by omega) hsz2 ?hl))
     case hl =>
      intro v' w9 hown9 hg9 _
      have hBQ9 : Below w4.heap.size w4 w9 := HBQ2.out.grown hg9 hsz2 fun p hp => (HOWN2.out.lt _ hp).1
      have hkey9 : w9.ownsRow w4.heap.size 5 1 (.slice A7 j c7) j ((L.take j).map (Value.int .u8)) := own_heap HKEY2.out fun p e => hg9.block p (HKEY2.out.lt p e).2 fun e' => HAP.out p e e'.symm
      have hbz : Below w9.heap.size w9 (w9.alloc (.cells #[.int .u8 (z : Int)] 5)) := (Below.refl _ w9).alloc rr _
      have hown10 := own_heap hown9 fun p e => hbz.block p (hown9.lt p e).2
      have hkey10 := own_heap hkey9 fun p e => hbz.block p (hkey9.lt p e).2
      have hBQ10 := hBQ9.trans (hbz.mono hBQ9.size)
      have hsz10 := hBQ10.size
      have HAP10 := hI (own_apart' hown10 hkey10 (by decide))
      have HOWN10 := hI hown10; have HKEY10 := hI hkey10; have HBQ10 := hI hBQ10
      clear hown9 hkey9 hg9 hbz hBQ9 hown10 hkey10 hBQ10
      go_wp2_with (at_builtin; refine append_byte rfl (.tmp 56) (.tmp 59) rfl w4.heap.size (.slice A7 j c7) j ((L.take j).map (Value.int .u8)) rfl HKEY10.out ⟨w9.heap.size, 0, none⟩ 1 (.int .u8 (z : Int)) rfl (cell_one_new _ _ _) rfl (by omega) hsz10 ?hc)
      case hc =>
       intro v'' w11 hown11 hg11
       have HBQ11 : Hid (Below w4.heap.size w4 w11) := HBQ10.out.grown hg11 hsz10 fun p hp => (HKEY10.out.lt _ hp).1
       have HO11 : Hid (w11.ownsRow w4.heap.size 55 18 v' (j + 1) ((putR xs (L.take (j + 1))).flatMap LawR.cells)) := by
        show World.ownsRow _ _ _ _ _ _ _
        rw [HPS'.out, List.flatMap_append, List.flatMap_singleton]
        exact own_heap HOWN10.out fun p e => hg11.block p (HOWN10.out.lt p e).2 fun e' => HAP10.out p e e'.symm
       have HK11 : Hid (w11.ownsRow w4.heap.size 5 1 v'' (j + 1) ((L.take (j + 1)).map (Value.int .u8))) := by
        show World.ownsRow _ _ _ _ _ _ _
        rw [HTS.out, List.map_append, List.map_take]
        exact hown11
       clear hown11 hg11
       go_wp2
       go_roundw
       case rel => exact ⟨j + 1, by omega, by go_num, HO11.out, HK11.out, HBQ11.out⟩
       case measure => simp [intOf]; omega
    ·obtain rfl : j = q := by omega
     have hLt : L.take j = L := List.take_of_length_le (by rw [HQ.out]; exact rr)
     rw [hLt] at HO HK
     obtain ⟨A6, c6, rfl⟩ := own_form HO.out
     obtain ⟨A7, c7, rfl⟩ := own_form HK.out
     have HBU : Hid (ByteU L) := fun x hx => by have := HLB.out x hx; omega
     have hown7 := HK.out
     rw [show j = L.length from HQ.out] at hown7
     have hconv := conv_key HBU.out hown7
     rw [← show j = L.length from HQ.out] at hconv
     have HFWq := hI (HFW4.out.below HBQ.out)
     obtain ⟨v, pz, hlook, hat⟩ := HFWq.out.om.look_ok (string_keyed Tryz.underlying9) Tryz.underlying118 (Tryz.zeroValue28 wr) (show heldR (.slice none 0 0) = some (.held (.slice none 0 0), []) from rfl) (key_line L (by have := HQ.out; omega))
     have hat' : D.atKey (keyL L) (.held (.slice none 0 0)) = .held v := by
      unfold heldR at hat
      injection hat with hat
      injection hat with hat _
      exact hat.symm
     have HAT := hI hat'
     have HOL := hI HO.out
     have HBq := hI (HB4.out.trans (HBQ.out.mono HB4.out.size))
     have HK7 := hI HK.out
     clear hown7 hLt hat hat' HO HK HFW4
     cases hh : Go.Maps.has D (keyL L) with
     | true =>
      rw [hh] at hlook
      obtain ⟨Ac, nc, cc, h1, h2, h3, h4⟩ := HFWq.out.wd L HBU.out hh
      obtain rfl : v = .slice Ac nc cc := by
       have := HAT.out.symm.trans h1
       injection this
      have HF1 : Hid ((F k).1 = 0) := by show _ = _; rw [HFK.out]; exact h3
      have HWD := hI h2; have HAP := hI h4
      clear h1 h2 h3 h4 hh
      go_wp2_with fail
      have hnc : nc ≤ 4096 := by have h1 := derive_len (ls := putL38 (lawsD xs) L) HWC.out; have h2 := HWD.out.len; omega
      refine (cloneU_c Ac nc cc (deriveM (putL38 (lawsD xs) L) ws).2 wr HWD.out hnc).mono ?_
      rintro e w5 ⟨A3, n3, c3, rfl, hw3, hb3, hf3, hu3⟩
      have HF5 := hI (HFWq.out.below hb3)
      have HB5 := hI (HBq.out.trans (hb3.mono HBq.out.size))
      have hap5 : AptW bm bm u14 w5 A3 n3 := apt_new hw3 hf3 HFWq.out.om.lt (fun p e => (HFWq.out.oo.lt p e).2) HFWq.out.sz
      have hbz : Below w5.heap.size w5 (w5.alloc (.cells #[.slice A3 n3 c3] 28)) := (Below.refl _ w5).alloc rr _
      have HF6 := hI (HF5.out.below hbz)
      have HW6 := hI (hw3.below hbz rr)
      have HA6 := hI (hap5.up hbz.size)
      have HU6 := hI (hu3.below hbz)
      have HB6 := hI (HB5.out.trans (hbz.mono HB5.out.size))
      have hsz6 := HF6.out.sz
      obtain ⟨A14, c14, rfl⟩ := own_form HF6.out.oo
      have hpl : ps.length ≤ k := by have := congrArg List.length HPS.out; simp at this; omega
      clear hw3 hb3 hf3 hap5 hu3 hbz HF5 HB5
      go_wp2_with (at_builtin; (refine append_wd rfl (.tmp 84) (.tmp 87) rfl bm (.slice A14 ps.length c14) ps.length (ps.map Part.val) rfl HF6.out.oo ⟨w5.heap.size, 0, none⟩ 1 (.slice A3 n3 c3) rfl (cell_one_new _ _ _) rfl (by omega) hsz6 ?hc))
      case hc =>
       intro v' w7 hown hg hat
       have HF7 := hI ((HF6.out.push (p := (A3, n3, c3, (deriveM (putL38 (lawsD xs) L) ws).2)) HW6.out HA6.out HU6.out hown hg (by simpa using hat)).mono (Nat.le_succ k))
       have HB7 : Hid (Below w.heap.size w w7) := HB6.out.grown hg HB6.out.size fun p e => by have := (HF6.out.oo.lt p e).1; omega
       have HPS7 : Hid ((ps ++ [(A3, n3, c3, (deriveM (putL38 (lawsD xs) L) ws).2)]).map Part.word = (List.range (k + 1)).map fun a => (F a).2) := by
        show _ = _
        rw [List.map_append, HPS.out, List.range_succ, List.map_append]
        show _ ++ [(deriveM (putL38 (lawsD xs) L) ws).2] = _ ++ [(F k).2]
        rw [HFK.out]
       have HF07 : Hid (∀ a, a < k + 1 → (F a).1 = 0) := fun a ha => by
        by_cases e : a = k
        ·rw [e]; exact HF1.out
        ·exact HF0.out a (by omega)
       clear hown hg hat
       go_wp2
       go_roundw
       case rel => exact ⟨k + 1, _, D, by omega, by go_num, HF7.out, HPS7.out, HF07.out, HB7.out⟩
       case measure => simp [intOf]; omega
     | false =>
      rw [hh] at hlook
      clear hh
      have hls : IsLaws wr A6 j c6 (putR xs L) := ⟨Recs.of_own HOL.out LawR.len (by decide), fun y hy => (HX.out.below HBq.out rr).2 y (putR_mem hy)⟩
      have HLS := hI hls
      clear hls
      go_wp2_with fail
      refine (derive_c A6 j c6 (putR xs L) Aw nw cw ws wr HLS.out (HW.out.below HBq.out rr) (HT.out.below HBq.out rr)).mono ?_
      rw [putR_d]
      obtain ⟨e3, he3⟩ : ∃ e3, e3 = (deriveM (putL38 (lawsD xs) L) ws).1 := ⟨_, rfl⟩
      rintro e w8 ⟨Ac, nc, cc, rfl, hw8, hb8, hf8⟩
      rw [← he3]
      have HE3 := hI he3
      have HW8 := hI hw8
      have HF8 := hI (HFWq.out.below hb8)
      have HB8 := hI (HBq.out.trans (hb8.mono HBq.out.size))
      have HA8 := hI (apt_new (B := bm) (bm := bm) (vo := u14) hw8 hf8 HFWq.out.om.lt (fun p e => (HFWq.out.oo.lt p e).2) HFWq.out.sz)
      have HK8 := hI (own_heap HK7.out fun p e => hb8.block p (HK7.out.lt p e).2)
      clear he3 hw8 hb8 hf8 hlook hconv
      by_cases h30 : e3 = 0
      ·have h31 : (e3 != 0) = false := by simp [h30]
       have HF1 : Hid ((F k).1 = 0) := by show _ = _; rw [HFK.out, ← HE3.out]; exact h30
       have hcv8 := HK8.out
       rw [show j = L.length from HQ.out] at hcv8
       have hconv := conv_key HBU.out hcv8
       rw [← show j = L.length from HQ.out] at hconv
       obtain ⟨w9, hupd, hm9, hg9⟩ := HF8.out.om.update (string_keyed Tryz.underlying9) Tryz.underlying118 (show k < maxLen by unfold maxLen; omega) (key_line L (by have := HQ.out; omega)) (show heldR (.slice Ac nc cc) = some (.held (.slice Ac nc cc), []) from rfl)
       obtain ⟨hp1, hp2, hp3⟩ := HF8.out.put HBU.out HW8.out (by rw [← HE3.out]; exact h30) HA8.out hm9 hg9
       have HF9 := hI hp1; have HW9 := hI hp2
       have HB9 : Hid (Below w.heap.size w w9) := HB8.out.grown hg9 HB8.out.size fun p e => by injection e with e; omega
       have hnc : nc ≤ 4096 := by have h1 := derive_len (ls := putL38 (lawsD xs) L) HWC.out; have h2 := HW8.out.len; omega
       clear hcv8 hm9 hg9 hp1 hp2 hp3 h30
       go_wp2_with fail
       refine (cloneU_c Ac nc cc (deriveM (putL38 (lawsD xs) L) ws).2 w9 HW9.out hnc).mono ?_
       rintro e w5 ⟨A3, n3, c3, rfl, hw3, hb3, hf3, hu3⟩
       have HF5 := hI (HF9.out.below hb3)
       have HB5 := hI (HB9.out.trans (hb3.mono HB9.out.size))
       have hap5 : AptW bm bm u14 w5 A3 n3 := apt_new hw3 hf3 HF9.out.om.lt (fun p e => (HF9.out.oo.lt p e).2) HF9.out.sz
       have hbz : Below w5.heap.size w5 (w5.alloc (.cells #[.slice A3 n3 c3] 28)) := (Below.refl _ w5).alloc rr _
       have HF6 := hI (HF5.out.below hbz)
       have HW6 := hI (hw3.below hbz rr)
       have HA6 := hI (hap5.up hbz.size)
       have HU6 := hI (hu3.below hbz)
       have HB6 := hI (HB5.out.trans (hbz.mono HB5.out.size))
       have hsz6 := HF6.out.sz
       obtain ⟨A14, c14, rfl⟩ := own_form HF6.out.oo
       have hpl : ps.length ≤ k := by have := congrArg List.length HPS.out; simp at this; omega
       clear hw3 hb3 hf3 hap5 hu3 hbz HF5 HB5
       go_wp2_with (at_builtin; refine append_wd rfl (.tmp 84) (.tmp 87) rfl bm (.slice A14 ps.length c14) ps.length (ps.map Part.val) rfl HF6.out.oo ⟨w5.heap.size, 0, none⟩ 1 (.slice A3 n3 c3) rfl (cell_one_new _ _ _) rfl (by omega) hsz6 ?hc)
       case hc =>
        intro v' w7 hown hg hat
        have HF7 := hI ((HF6.out.push (p := (A3, n3, c3, (deriveM (putL38 (lawsD xs) L) ws).2)) HW6.out HA6.out HU6.out hown hg (by simpa using hat)))
        have HB7 : Hid (Below w.heap.size w w7) := HB6.out.grown hg HB6.out.size fun p e => by have := (HF6.out.oo.lt p e).1; omega
        have HPS7 : Hid ((ps ++ [(A3, n3, c3, (deriveM (putL38 (lawsD xs) L) ws).2)]).map Part.word = (List.range (k + 1)).map fun a => (F a).2) := by
         show _ = _
         rw [List.map_append, HPS.out, List.range_succ, List.map_append]
         show _ ++ [(deriveM (putL38 (lawsD xs) L) ws).2] = _ ++ [(F k).2]
         rw [HFK.out]
        have HF07 : Hid (∀ a, a < k + 1 → (F a).1 = 0) := fun a ha => by
         by_cases e : a = k
         ·rw [e]; exact HF1.out
         ·exact HF0.out a (by omega)
        clear hown hg hat
        go_wp2
        go_roundw
        case rel => exact ⟨k + 1, _, (D.put (keyL L) (.held (.slice Ac nc cc))), by omega, by go_num, HF7.out, HPS7.out, HF07.out, HB7.out⟩
        case measure => simp [intOf]; omega
      ·have h31 : (e3 != 0) = true := by simpa using h30
       have HF1 : Hid (formsM38 n rs (lawsD xs) (wavesD ys) ws now = (e3, [])) := by
        show _ = _
        rw [HV.out, range_split hkn, formsGo_bad _ _ _ _ (fun b hb => HF0.out b (List.mem_range.1 hb)) (by rw [HFK.out, ← HE3.out]; exact h30), HFK.out, ← HE3.out]
       go_wp2
       go_ret2
       exact RetFs.bad HF1.out HB8.out
  ·obtain rfl : k = n := by omega
   have HV1 : Hid (formsM38 k rs (lawsD xs) (wavesD ys) ws now = (0, (List.range k).map fun a => (F a).2)) := by
    show _ = _
    rw [HV.out, formsGo_ok _ _ fun a ha => HF0.out a (List.mem_range.1 ha)]; rfl
   obtain ⟨A14, c14, rfl⟩ := own_form HFW.out.oo
   go_wp2
   go_ret2
   refine ⟨A14, c14, ps, by rw [HV1.out]; rfl, by rw [HV1.out]; exact HPS.out, own_base HFW.out.oo hwbm, HFW.out.pp, fun p hp hn ad had => ?_, HB.out⟩
   obtain ⟨h1, h2, h3, h4⟩ := HFW.out.pd p hp hn ad had
   exact ⟨by omega, h3, HFW.out.pu p hp hn ad had⟩
end Go.Proofs.YtaglfmlgbcmakaaGreatDoor
namespace Go.Proofs.YtaglfmlgbcmakaaGreatDoor
open Go.RowKit Go.Shelf
def partCells (p : Part) : List Value := [p.val]
theorem part_len (p : Part) : (partCells p).length = 1 := rfl
theorem part_flat : ∀ ps : List Part, ps.flatMap partCells = ps.map Part.val
 | [] => rfl
 | p :: r => by rw [List.flatMap_cons, part_flat r]; rfl
theorem Cells.recs {w : World} {A : Option Addr} {n c : Nat} {ps : List Part} (h : Cells w A n c 1 (ps.map Part.val)) : Recs partCells 1 w A n c ps :=
 ⟨by rw [part_flat]; exact h, by have := h.1; simpa using this⟩
theorem idxWd_c (A : Option Addr) (n c : Nat) (xs : List Part) (F : Nat) (lb : Array Value) (p : Part → Bool) (w : World) (hx : Recs partCells 1 w A n c xs) (hE : Enters Tryz.prog F)
  (hcall : ∀ W, Below w.heap.size w W → ∀ s ∈ xs, Calls Tryz.prog F (#[Part.val s] ++ lb) W fun e W' => e = .returned (.bool (p s)) ∧ Below W.heap.size W W') :
  Calls Tryz.prog 68 #[.slice A n c, .func (.func F) #[] lb] w fun e w' => e = .returned (.int .i64 (idxM p xs)) ∧ Below w.heap.size w w' := by
 have hm : n ≤ 9223372036854775807 := by have h1 := hx.1.2.1; have h2 := hx.1.2.2.1; unfold maxLen at h2; omega
 have HX := hI hx; clear hx
 have HC := hI hcall; clear hcall
 unfold Enters at hE
 go_enter Tryz.func68, Tryz.ntmps68
 go_wp2
 go_loopw [5, 8] (fun _ i wr => ∃ k : Nat, k ≤ n ∧ i = .int .i64 k ∧ Hid ((xs.take k).any p = false) ∧ Below w.heap.size w wr) (fun _ i _ => n - (intOf i).toNat)
 case atStart => exact ⟨0, Nat.zero_le _, rfl, by simp [Hid], Below.refl _ _⟩
 case round =>
  obtain ⟨k, hk, rfl, HA, hB⟩ := hrel
  by_cases hlt : k < n
  ·obtain ⟨s, hxk⟩ : ∃ s, xs[k]? = some s := ⟨xs[k]'(by rw [HX.out.2]; exact hlt), List.getElem?_eq_getElem _⟩
   obtain ⟨b, off, rfl, hb, hcs⟩ := (HX.out.below hB rr).at_ part_len (by decide) hxk
   have hc0 := hcs 0 _ rfl
   simp only [Nat.add_zero, ← Nat.add_assoc, Nat.mul_one] at hc0
   clear hcs
   have HCALL := hI (HC.out wr hB s (List.mem_of_getElem? hxk))
   have HK := hI hxk; clear hxk
   by_cases hp : p s = true
   ·have hr := idxM_some p xs k s HK.out HA.out hp
    have HR := hI hr; clear hr
    have HP := hI hp; clear hp
    go_wp2_with fail
    refine HCALL.out.mono ?_
    rintro e w1 ⟨rfl, hb1⟩
    rw [HP.out]
    have hB1 := hB.trans (hb1.mono hB.size)
    clear hb1
    go_wp2
    go_ret
    exact ⟨by rw [HR.out]; rfl, hB1⟩
   ·have hp' : p s = false := by simpa using hp
    have HP := hI hp'; clear hp hp'
    go_wp2_with fail
    refine HCALL.out.mono ?_
    rintro e w1 ⟨rfl, hb1⟩
    rw [HP.out]
    have hB1 := hB.trans (hb1.mono hB.size)
    clear hb1
    go_wp2
    go_roundw
    case rel => exact ⟨k + 1, by omega, by go_num, by rw [take_snoc' xs k _ HK.out, List.any_append, HA.out]; simp [HP.out, Hid], hB1⟩
    case measure => simp [intOf]; omega
  ·obtain rfl : k = n := by omega
   have hr : idxM p xs = -1 := by
    have := HA.out
    rw [List.take_of_length_le (by rw [HX.out.2]; exact rr)] at this
    exact idxM_none p xs this
   have HR := hI hr; clear hr
   go_wp2
   go_ret
   exact ⟨by rw [HR.out]; rfl, hB⟩
theorem eqv_c (Ax : Option Addr) (nx cx : Nat) (x : List Snd) (Ay : Option Addr) (ny cy : Nat) (y : List Snd) (bx : Nat) (w : World) (hb : w.heap[bx]? = some (.cells #[.slice Ax nx cx] 28 (0, 0))) (hx : IsWord w Ax nx cx x) (hy : IsWord w Ay ny cy y) :
  Calls Tryz.prog 69 #[.slice Ay ny cy, .pointer (some ⟨bx, 0, none⟩)] w fun e w' => e = .returned (.bool (decide (x = y))) ∧ Below w.heap.size w w' := by
 have c0 := cell_of_one hb
 have HE := hI (wEqual_c Ax Ay nx ny cx cy x y w hx hy)
 clear hb hx hy
 obtain ⟨r, hr⟩ : ∃ r, r = decide (x = y) := ⟨_, rfl⟩
 rw [← hr] at HE ⊢
 clear hr
 go_enter Tryz.func69, Tryz.ntmps69
 go_wp2_with fail
 refine HE.out.mono ?_
 rintro e w1 ⟨rfl, hb1⟩
 go_wp2
 go_ret
 exact ⟨rfl, hb1⟩
theorem idx_find {α : Type} (p : α → Bool) : ∀ l : List α, idxM p l = match l.findIdx? p with | some k => (k : Int) | none => -1
 | [] => rfl
 | x :: l => by
  have h := idx_find p l
  unfold idxM
  rw [List.findIdx?_cons]
  by_cases hx : p x = true
  ·simp [hx]
  ·rw [if_neg hx, if_neg hx, h]
   cases l.findIdx? p with
   | none => rfl
   | some k => simp only [Option.map_some]; rw [if_neg (by omega)]; rfl
theorem idx_first (ps : List Part) (x : List Snd) : idxM (fun p => decide (x = p.word)) ps = firstEq (ps.map Part.word) x := by
 unfold firstEq
 rw [List.findIdx?_map, idx_find]
 rfl
theorem formsGo_len {f : Nat → Int × List Snd} : ∀ (l : List Nat) (done : List (List Snd)), (formsGo f done l).2.length ≤ done.length + l.length
 | [], done => by simp [formsGo]
 | a :: l, done => by
  unfold formsGo
  split
  ·simp
  ·have := formsGo_len (f := f) l (done ++ [(f a).2])
   simp only [List.length_append, List.length_cons, List.length_nil] at this ⊢
   omega
theorem forms_len (n : Nat) (rs : List RoadN) (ls : List LawD) (ws : List WaveD) (w : List Snd) (now : Int) : (formsM38 n rs ls ws w now).2.length ≤ n := by
 unfold formsM38
 split
 ·simp
 ·split
  ·simp
  ·have := formsGo_len (f := formAt n rs ls ws w now) (List.range n) []
   simpa using this
theorem values38_c (b n : Nat) (rs : List RoadN) (Ax : Option Addr) (nx cx : Nat) (xs : List LawR) (A : Option Addr) (m c : Nat) (ys : List WaveR) (Aw : Option Addr) (nw cw : Nat) (ws : List Snd) (now : Int) (w : World) (hm : MapAt w b n rs) (hx : IsLaws w Ax nx cx xs) (hy : IsWaves w A m c ys) (hw : IsWord w Aw nw cw ws) (hT : TabOK w) (h19 : m ≤ 19 ∨ 64 < m) :
  Calls Tryz.prog 24 #[.pointer (some ⟨b, 0, none⟩), .slice Ax nx cx, .slice A m c, .slice Aw nw cw, .int .i64 now] w (RetI w (valuesM n rs (lawsD xs) (wavesD ys) ws now)) := by
 have hn128 := hm.few
 have HF := hI (forms38_c b n rs Ax nx cx xs A m c ys Aw nw cw ws now w hm hx hy hw hT h19)
 have HN : Hid ((formsM38 n rs (lawsD xs) (wavesD ys) ws now).2.length ≤ n) := forms_len _ _ _ _ _ _
 have HV : Hid (valuesM n rs (lawsD xs) (wavesD ys) ws now = if (formsM38 n rs (lawsD xs) (wavesD ys) ws now).1 ≠ 0 then ((formsM38 n rs (lawsD xs) (wavesD ys) ws now).1, []) else (0, (formsM38 n rs (lawsD xs) (wavesD ys) ws now).2.map (firstEq (formsM38 n rs (lawsD xs) (wavesD ys) ws now).2))) := rfl
 obtain ⟨R, hR⟩ : ∃ R, R = formsM38 n rs (lawsD xs) (wavesD ys) ws now := ⟨_, rfl⟩
 obtain ⟨V, hV⟩ : ∃ V, V = valuesM n rs (lawsD xs) (wavesD ys) ws now := ⟨_, rfl⟩
 rw [← hR] at HF HN HV
 rw [← hV] at HV ⊢
 obtain ⟨er, fs⟩ := R
 clear hm hx hy hw hT h19 hR hV
 simp only at HF HN HV
 go_enter Tryz.func24, Tryz.ntmps24
 go_wp2_with fail
 refine HF.out.mono ?_
 rintro e w1 ⟨A1, c1, ps, rfl, hps, hown, hpp, hpd, hb1⟩
 have HPS := hI hps; have HPP := hI hpp; have HB1 := hI hb1
 have HRC := hI (Cells.recs (Cells.of_own hown (by decide)))
 have hpl : ps.length ≤ 128 := by
  have h1 := congrArg List.length hps
  have h2 := HN.out
  simp only [List.length_map] at h1
  have h3 : fs.length ≤ n := h2
  have h4 : ps.length = fs.length := h1
  omega
 obtain ⟨k, hk⟩ : ∃ k, k = ps.length := ⟨_, rfl⟩
 have HK := hI hk
 rw [← hk] at HRC hpl ⊢
 clear hps hown hpp hpd hb1 hk HF
 by_cases h0 : er = 0
 ·subst h0
  have HV1 : Hid (V = (0, ps.map fun p => firstEq (ps.map Part.word) p.word)) := by
   show _ = _; rw [HV.out, if_neg (by simp)]
   have : fs = ps.map Part.word := HPS.out.symm
   show (_, _) = _
   rw [this, List.map_map]; rfl
  have hmk := fun w => run_make_row' (P := Tryz.prog) 36 3 (.int .i64 0) 8 Tryz.underlying36 int_info rfl .i64 .i64 k (by omega) (by omega) w
  have hnm : k ≤ maxLen := by unfold maxLen; omega
  go_wp2_with fail
  clear hmk
  rw [made_rowI]
  have HG0 : Hid ((w1.alloc (.cells (rowI k fun _ => 0) 3)).heap[w1.heap.size]? = some (.cells (rowI k fun _ => 0) 3 (0, 0))) := heap_new_at rfl
  have HBB : Hid (Below w1.heap.size w1 (w1.alloc (.cells (rowI k fun _ => 0) 3))) := (Below.refl _ w1).alloc rr _
  obtain ⟨g, hg⟩ : ∃ g, g = w1.heap.size := ⟨_, rfl⟩
  have hgw : w1.heap.size ≤ g := by omega
  rw [← hg] at HG0 ⊢
  generalize w1.alloc (.cells (rowI k fun _ => 0) 3) = w4 at *
  clear hg
  obtain ⟨fe, hfe⟩ : ∃ fe : Nat → Int, fe = fun v => ((ps[v]?).map fun p => firstEq (ps.map Part.word) p.word).getD 0 := ⟨_, rfl⟩
  have HFE := hI hfe
  clear hfe
  go_loopw [34] (fun i wr => ∃ j : Nat, j ≤ k ∧ i = .int .i64 (j : Int) ∧ Hid (wr.heap[g]? = some (.cells (rowI k fun v => if v < j then fe v else 0) 3 (0, 0))) ∧ Hid (Below w1.heap.size w1 wr)) (fun i _ => k - (intOf i).toNat)
  case atStart => exact ⟨0, Nat.zero_le _, rfl, by show _ = _; simpa using HG0.out, HBB.out⟩
  case round =>
   obtain ⟨j, hj, rfl, HG, HB⟩ := hrel
   clear HG0 HBB
   by_cases hlt : j < k
   ·have hjk : (j : Int) < (k : Int) := by omega
    obtain ⟨⟨Ap, np, cp, wp⟩, hp⟩ : ∃ p, ps[j]? = some p := ⟨ps[j]'(by rw [← HK.out]; exact hlt), List.getElem?_eq_getElem _⟩
    obtain ⟨ga, oa, hA, hga, hcs⟩ := (HRC.out.below HB.out rr).at_ part_len (by decide) hp
    subst hA
    have hc0 := hcs 0 _ rfl
    simp only [Nat.add_zero, ← Nat.add_assoc, Nat.mul_one, Part.val] at hc0
    have hmem := List.mem_of_getElem? hp
    have HWP := hI ((HPP.out _ hmem).below HB.out rr)
    have HFJ : Hid (fe j = firstEq (ps.map Part.word) wp) := by show _ = _; rw [HFE.out]; show ((ps[j]?).map _).getD 0 = _; rw [hp]; rfl
    clear hcs hp hmem
    have hz : Below wr.heap.size wr (wr.alloc (.cells #[.slice Ap np cp] 28)) := (Below.refl _ wr).alloc rr _
    have hbx : (wr.alloc (.cells #[.slice Ap np cp] 28)).heap[wr.heap.size]? = some (.cells #[.slice Ap np cp] 28 (0, 0)) := heap_new_at rfl
    have HBX := hI hbx; have HZ := hI hz
    clear hbx hz
    go_wp2_with fail
    refine (idxWd_c (some ⟨ga, oa, none⟩) k c1 ps 69 #[.pointer (some ⟨wr.heap.size, 0, none⟩)] (fun p => decide (wp = p.word)) _ (HRC.out.below (HB.out.trans (HZ.out.mono HB.out.size)) rr) (enters_of Tryz.func69 (by kernel_rfl) rfl) ?hcall).mono ?_
    case hcall =>
     intro W hW s hs
     have hW1 : Below w1.heap.size w1 W := HB.out.trans ((HZ.out.trans (hW.mono HZ.out.size)).mono HB.out.size)
     exact eqv_c Ap np cp wp s.1 s.2.1 s.2.2.1 s.2.2.2 wr.heap.size W ((hW.block _ (lt_of_block HBX.out)).trans HBX.out) (HWP.out.below (HZ.out.trans (hW.mono HZ.out.size)) rr) ((HPP.out s hs).below hW1 rr)
    rw [idx_first]
    obtain ⟨t, ht⟩ : ∃ t, t = firstEq (ps.map Part.word) wp := ⟨_, rfl⟩
    rw [← ht] at HFJ ⊢
    rintro e w5 ⟨rfl, hb5⟩
    have hz5 := HZ.out.trans (hb5.mono HZ.out.size)
    have HG5 := hI ((hz5.block g (lt_of_block HG.out)).trans HG.out)
    have HB5 := hI (HB.out.trans (hz5.mono HB.out.size))
    clear ht hb5 hz5 HG HB HBX HZ HWP
    have cg := rowI_cell HG5.out hlt
    have fg : w5.frozen? ⟨g, j, none⟩ = false := by simp [World.frozen?, HG5.out]
    have HGs : Hid ((w5.setCell ⟨g, j, none⟩ (.int .i64 t)).heap[g]? = some (.cells (rowI k fun v => if v < j + 1 then fe v else 0) 3 (0, 0))) := by
     show _ = _
     rw [heap_setCell_same HG5.out, rowI_set (g := fun v => if v < j + 1 then fe v else 0) (by simp [HFJ.out]) fun v _ hv => by
      by_cases e : v < j
      ·simp [e, Nat.lt_succ_of_lt e]
      ·have : ¬ v < j + 1 := by omega
       simp [e, this]]
    have HBs := hI (HB5.out.setCell (p := ⟨g, j, none⟩) (by show w1.heap.size ≤ g; omega) (.int .i64 t))
    go_wp2_with fail
    go_roundw
    case rel => exact ⟨j + 1, by omega, by simp, HGs.out, HBs.out⟩
    case measure => simp [intOf]; omega
   ·obtain rfl : j = k := by omega
    go_wp2
    go_ret2
    have hr := rowI_ints HG.out (by omega)
    refine ⟨_, _, _, by rw [HV1.out]; rfl, ?_, HB1.out.trans (HB.out.mono HB1.out.size)⟩
    rw [HV1.out]
    show IsInts _ _ _ _ (ps.map fun p => firstEq (ps.map Part.word) p.word)
    rw [show (ps.map fun p => firstEq (ps.map Part.word) p.word) = (List.range j).map fun v => if v < j then fe v else 0 from by
     apply List.ext_getElem?
     intro v
     rw [List.getElem?_map, List.getElem?_map]
     by_cases hv : v < j
     ·rw [List.getElem?_range hv, Option.map_some, if_pos hv, HFE.out]
      have : ps[v]? = some (ps[v]'(by rw [← HK.out]; exact hv)) := List.getElem?_eq_getElem _
      simp only [this]; rfl
     ·rw [List.getElem?_eq_none (by rw [← HK.out]; omega), List.getElem?_eq_none (by simpa using hv)]; rfl]
    exact hr
 ·have h1 : (er != 0) = true := by simpa using h0
  have HV1 : Hid (V = (er, [])) := by show _ = _; rw [HV.out, if_pos h0]
  go_wp2
  go_ret2
  exact RetI.bad HV1.out HB1.out
section
variable (Ax : Option Addr) (nx cx : Nat) (A : Option Addr) (m c : Nat) (w : World)
theorem wcheck0_c : Calls Tryz.prog 37 #[.pointer none, .slice Ax nx cx, .slice A m c] w fun e w' => e = .returned (.int .i64 1) ∧ Below w.heap.size w w' := by
 go_enter Tryz.func37, Tryz.ntmps37
 go_wp2_with fail
 refine (mlen0_c w).mono ?_
 rintro e w1 ⟨rfl, hb1⟩
 go_wp2
 go_ret
 exact ⟨rfl, hb1⟩
theorem arrive0_c (x : WaveR) : Calls Tryz.prog 20 #[.pointer none, waveV x] w (RetI w (1, [])) := by
 obtain ⟨⟨law, ps, T, S, fin⟩, Aw, nw, cw⟩ := x
 go_enter Tryz.func20, Tryz.ntmps20
 have kB : Below w.heap.size w (w.alloc (.cells #[.int .i64 law, .slice Aw nw cw, .int .i64 T, .int .i64 S, .int .i64 fin] 38)) := bel
 go_wp2_with fail
 refine (mlen0_c _).mono ?_
 rintro e w1 ⟨rfl, hb1⟩
 have HB := hI (kB.trans (hb1.mono kB.size))
 clear kB hb1
 go_wp2
 go_ret2
 exact RetI.bad rfl HB.out
theorem relics0_c (k : Int) : Calls Tryz.prog 41 #[.pointer none, .slice Ax nx cx, .slice A m c, .int .i64 k] w (RetI w (1, [])) := by
 go_enter Tryz.func41, Tryz.ntmps41
 go_wp2_with fail
 refine (wcheck0_c Ax nx cx A m c w).mono ?_
 rintro e w1 ⟨rfl, hb1⟩
 go_wp2
 go_ret2
 exact RetI.bad rfl hb1
theorem lineA0_c (k now : Int) : Calls Tryz.prog 29 #[.pointer none, .slice Ax nx cx, .slice A m c, .int .i64 k, .int .i64 now] w (RetI w (1, [])) := by
 go_enter Tryz.func29, Tryz.ntmps29
 go_wp2_with fail
 refine (wcheck0_c Ax nx cx A m c w).mono ?_
 rintro e w1 ⟨rfl, hb1⟩
 go_wp2
 go_ret2
 exact RetI.bad rfl hb1
theorem crossed0_c (i j : Int) : Calls Tryz.prog 33 #[.pointer none, .slice Ax nx cx, .slice A m c, .int .i64 i, .int .i64 j] w (RetI w (1, [])) := by
 go_enter Tryz.func33, Tryz.ntmps33
 go_wp2_with fail
 refine (wcheck0_c Ax nx cx A m c w).mono ?_
 rintro e w1 ⟨rfl, hb1⟩
 go_wp2
 go_ret2
 exact RetI.bad rfl hb1
theorem forms0_c (Aw : Option Addr) (nw cw : Nat) (now : Int) : Calls Tryz.prog 18 #[.pointer none, .slice Ax nx cx, .slice A m c, .slice Aw nw cw, .int .i64 now] w (RetFs w (1, [])) := by
 go_enter Tryz.func18, Tryz.ntmps18
 go_wp2_with fail
 refine (wcheck0_c Ax nx cx A m c w).mono ?_
 rintro e w1 ⟨rfl, hb1⟩
 go_wp2
 go_ret2
 exact RetFs.bad rfl hb1
theorem values0_c (Aw : Option Addr) (nw cw : Nat) (now : Int) : Calls Tryz.prog 24 #[.pointer none, .slice Ax nx cx, .slice A m c, .slice Aw nw cw, .int .i64 now] w (RetI w (1, [])) := by
 have HF := hI (forms0_c Ax nx cx A m c w Aw nw cw now)
 go_enter Tryz.func24, Tryz.ntmps24
 go_wp2_with fail
 refine HF.out.mono ?_
 rintro e w1 ⟨A1, c1, ps, rfl, -, -, -, -, hb1⟩
 go_wp2
 go_ret2
 exact RetI.bad rfl hb1
end
def MapP (w : World) (v : Value) (n : Nat) (rs : List RoadN) : Prop := (v = .pointer none ∧ n = 0) ∨ ∃ b, v = .pointer (some ⟨b, 0, none⟩) ∧ MapAt w b n rs
theorem MapP.below {w w' : World} {v : Value} {n : Nat} {rs : List RoadN} (h : MapP w v n rs) (hb : Below w.heap.size w w') : MapP w' v n rs := by
 rcases h with h | ⟨b, hv, h⟩
 ·exact .inl h
 ·exact .inr ⟨b, hv, h.below hb⟩
theorem wave_none (ls : List LawD) (ws : List WaveD) : waveE 0 ls ws = 1 := by unfold waveE; rw [if_pos rfl]
section
variable {v : Value} {n : Nat} {rs : List RoadN} {Ax : Option Addr} {nx cx : Nat} {xs : List LawR} {A : Option Addr} {m c : Nat} {ys : List WaveR} {w : World}
theorem wcheckP_c (hm : MapP w v n rs) (hx : IsLaws w Ax nx cx xs) (hy : IsWaves w A m c ys) (hT : TabOK w) :
  Calls Tryz.prog 37 #[v, .slice Ax nx cx, .slice A m c] w fun e w' => e = .returned (.int .i64 (waveE n (lawsD xs) (wavesD ys))) ∧ Below w.heap.size w w' := by
 rcases hm with ⟨rfl, rfl⟩ | ⟨b, rfl, hm⟩
 ·rw [wave_none]; exact wcheck0_c Ax nx cx A m c w
 ·exact wcheck38_c b n rs Ax nx cx xs A m c ys w hm hx hy hT
theorem arriveP_c (x : WaveR) (hm : MapP w v n rs) (hx : WaveAt w x) : Calls Tryz.prog 20 #[v, waveV x] w (RetI w (arriveM n rs x.d)) := by
 rcases hm with ⟨rfl, rfl⟩ | ⟨b, rfl, hm⟩
 ·rw [show arriveM 0 rs x.d = (1, []) from by unfold arriveM; rw [if_pos rfl]]; exact arrive0_c w x
 ·exact arrive_c b n rs x w hm hx
theorem relicsP_c (k : Int) (hm : MapP w v n rs) (hx : IsLaws w Ax nx cx xs) (hy : IsWaves w A m c ys) (hT : TabOK w) :
  Calls Tryz.prog 41 #[v, .slice Ax nx cx, .slice A m c, .int .i64 k] w (RetI w (relicsM n rs (lawsD xs) (wavesD ys) k)) := by
 rcases hm with ⟨rfl, rfl⟩ | ⟨b, rfl, hm⟩
 ·rw [show relicsM 0 rs (lawsD xs) (wavesD ys) k = (1, []) from by unfold relicsM; rw [wave_none]; rfl]; exact relics0_c Ax nx cx A m c w k
 ·exact relics_c b n rs Ax nx cx xs A m c ys k w hm hx hy hT
theorem lineP_c (k now : Int) (hm : MapP w v n rs) (hx : IsLaws w Ax nx cx xs) (hy : IsWaves w A m c ys) (hT : TabOK w) (h19 : m ≤ 19 ∨ 64 < m) :
  Calls Tryz.prog 29 #[v, .slice Ax nx cx, .slice A m c, .int .i64 k, .int .i64 now] w (RetI w (lineM n rs (lawsD xs) (wavesD ys) k now)) := by
 rcases hm with ⟨rfl, rfl⟩ | ⟨b, rfl, hm⟩
 ·rw [show lineM 0 rs (lawsD xs) (wavesD ys) k now = (1, []) from by unfold lineM; rw [wave_none]; rfl]; exact lineA0_c Ax nx cx A m c w k now
 ·exact lineA_c b n rs Ax nx cx xs A m c ys k now w hm hx hy hT h19
theorem crossedP_c (i j : Int) (hm : MapP w v n rs) (hx : IsLaws w Ax nx cx xs) (hy : IsWaves w A m c ys) (hT : TabOK w) :
  Calls Tryz.prog 33 #[v, .slice Ax nx cx, .slice A m c, .int .i64 i, .int .i64 j] w (RetI w (crossedM n rs (lawsD xs) (wavesD ys) i j)) := by
 rcases hm with ⟨rfl, rfl⟩ | ⟨b, rfl, hm⟩
 ·rw [show crossedM 0 rs (lawsD xs) (wavesD ys) i j = (1, []) from by unfold crossedM; rw [wave_none]; rfl]; exact crossed0_c Ax nx cx A m c w i j
 ·exact crossed_c b n rs Ax nx cx xs A m c ys i j w hm hx hy hT
theorem formsP_c {Aw : Option Addr} {nw cw : Nat} {ws : List Snd} (now : Int) (hm : MapP w v n rs) (hx : IsLaws w Ax nx cx xs) (hy : IsWaves w A m c ys) (hw : IsWord w Aw nw cw ws) (hT : TabOK w) (h19 : m ≤ 19 ∨ 64 < m) :
  Calls Tryz.prog 18 #[v, .slice Ax nx cx, .slice A m c, .slice Aw nw cw, .int .i64 now] w (RetFs w (formsM38 n rs (lawsD xs) (wavesD ys) ws now)) := by
 rcases hm with ⟨rfl, rfl⟩ | ⟨b, rfl, hm⟩
 ·rw [show formsM38 0 rs (lawsD xs) (wavesD ys) ws now = (1, []) from by unfold formsM38; rw [wave_none]; rfl]; exact forms0_c Ax nx cx A m c w Aw nw cw now
 ·exact forms38_c b n rs Ax nx cx xs A m c ys Aw nw cw ws now w hm hx hy hw hT h19
theorem valuesP_c {Aw : Option Addr} {nw cw : Nat} {ws : List Snd} (now : Int) (hm : MapP w v n rs) (hx : IsLaws w Ax nx cx xs) (hy : IsWaves w A m c ys) (hw : IsWord w Aw nw cw ws) (hT : TabOK w) (h19 : m ≤ 19 ∨ 64 < m) :
  Calls Tryz.prog 24 #[v, .slice Ax nx cx, .slice A m c, .slice Aw nw cw, .int .i64 now] w (RetI w (valuesM n rs (lawsD xs) (wavesD ys) ws now)) := by
 rcases hm with ⟨rfl, rfl⟩ | ⟨b, rfl, hm⟩
 ·rw [show valuesM 0 rs (lawsD xs) (wavesD ys) ws now = (1, []) from by unfold valuesM formsM38; rw [wave_none]; rfl]; exact values0_c Ax nx cx A m c w Aw nw cw now
 ·exact values38_c b n rs Ax nx cx xs A m c ys Aw nw cw ws now w hm hx hy hw hT h19
end
end Go.Proofs.YtaglfmlgbcmakaaGreatDoor
namespace Go.Proofs.YtaglfmlgbcmakaaGreatDoor
open Go.RowKit
def keyB (s : ByteArray) : Lit := .string s.data.toList
theorem keyB_inj {s t : ByteArray} (h : keyB s = keyB t) : s = t := by
 injection h with h
 cases s; cases t
 congr 1
 exact Array.toList_inj.1 h
def SeenOK (D : DataW Unit) (done : List ByteArray) : Prop := Go.Maps.IsMap D ∧ ∀ s, Go.Maps.has D (keyB s) = done.any fun x => decide (x = s)
theorem seen_none : SeenOK (.map []) [] := ⟨Go.Maps.isMap_empty, fun _ => rfl⟩
theorem seen_put {D : DataW Unit} {done : List ByteArray} {s : ByteArray} {v : DataW Unit} (h : SeenOK D done) : SeenOK (D.put (keyB s) v) (done ++ [s]) := by
 obtain ⟨h1, h2⟩ := h
 refine ⟨h1.put _ _, fun t => ?_⟩
 rw [List.any_append]
 by_cases e : t = s
 ·subst e; rw [Go.Maps.has_put_same h1 (show WideAt.IsKeyLit (keyB t) from trivial)]; simp
 ·rw [Go.Maps.has_put_other (fun e' => e (keyB_inj e')), h2 t]
  have e2 : ¬ s = t := fun e' => e e'.symm
  simp [e2]
end Go.Proofs.YtaglfmlgbcmakaaGreatDoor
namespace Go.Proofs.YtaglfmlgbcmakaaGreatDoor
open Go.RowKit Go.Shelf
theorem nil_eqlS (A : Option Addr) (n c : Nat) (w : World) : (binOp .eql 22 (.slice A n c) (.slice none 0 0)).run Tryz.prog w = .ok (.bool A.isNone) w :=
 Lib.run_eql_slice_nil w _ _ A n c 0 0 Tryz.underlying22
theorem nil_eqlR (A : Option Addr) (n c : Nat) (w : World) : (binOp .eql 23 (.slice A n c) (.slice none 0 0)).run Tryz.prog w = .ok (.bool A.isNone) w :=
 Lib.run_eql_slice_nil w _ _ A n c 0 0 Tryz.underlying23
attribute [local go_sem] nil_eqlS nil_eqlR
theorem str_info : (Tryz.prog.info? 9).map (fun i => (i.zero, i.size, i.bytes)) = some (some (.string ⟨#[]⟩), 1, 16) := by kernel_rfl
theorem road_info : (Tryz.prog.info? 64).map (fun i => (i.zero, i.size, i.bytes)) = some (some (.agg #[.int .i64 0, .int .i64 0, .int .i64 0]), 3, 24) := by kernel_rfl
theorem append_strs {ops : Array Oper} {rest : List Oper} {o : Oper} {a : Act} {w : World} {Q : Exit → Act → World → Prop} (hgd : o.guard = none) (s x : Operand)
  (ho : o.op = .call { callee := .builtin .append, args := #[s, x], argTypes := #[22, 22] })
  (base : Nat) (v : Value) (n : Nat) (xs : List Value) (hs : a.eval s = v) (hown : w.ownsRow base 9 1 v n xs)
  (A : Option Addr) (m c : Nat) (ss : List ByteArray) (hx : a.eval x = .slice A m c) (hr : IsStrs w A m c ss) (hl : n + m ≤ 4096) (hbase : base ≤ w.heap.size)
  (h : ∀ v' w', w'.ownsRow base 9 1 v' (n + m) (xs ++ ss.map Value.string) → w.grownBy w' v.ownBlock → wpList Tryz.prog ops Q rest (a.put o.dst v') w') : wpList Tryz.prog ops Q (o :: rest) a w := by
 obtain ⟨i0, hi, hz0, hz1, hz2⟩ := info_parts str_info
 exact wpList_append_cells w hgd s x 22 ho base 9 i0 _ 1 16 Tryz.underlying22 hi hz0 hz1 hz2 rfl (by decide) v n _ hs hown A m c _ hx hr
  (by intro u hu; obtain ⟨s, _, rfl⟩ := List.mem_map.1 hu; rfl) (by unfold maxLen; omega) (by omega) hbase fun v' w' h1 h2 _ => h v' w' h1 h2
theorem append_roads {ops : Array Oper} {rest : List Oper} {o : Oper} {a : Act} {w : World} {Q : Exit → Act → World → Prop} (hgd : o.guard = none) (s x : Operand)
  (ho : o.op = .call { callee := .builtin .append, args := #[s, x], argTypes := #[23, 23] })
  (base : Nat) (v : Value) (n : Nat) (xs : List Value) (hs : a.eval s = v) (hown : w.ownsRow base 64 3 v n xs)
  (A : Option Addr) (m c : Nat) (ss : List RoadI) (hx : a.eval x = .slice A m c) (hr : IsRoads w A m c ss) (hl : n + m ≤ 4096) (hbase : base ≤ w.heap.size)
  (h : ∀ v' w', w'.ownsRow base 64 3 v' (n + m) (xs ++ ss.flatMap roadC) → w.grownBy w' v.ownBlock → wpList Tryz.prog ops Q rest (a.put o.dst v') w') : wpList Tryz.prog ops Q (o :: rest) a w := by
 obtain ⟨i0, hi, hz0, hz1, hz2⟩ := info_parts road_info
 exact wpList_append_cells w hgd s x 23 ho base 64 i0 _ 3 24 Tryz.underlying23 hi hz0 hz1 hz2 rfl (by decide) v n _ hs hown A m c _ hx hr.1
  (by intro u hu; obtain ⟨s, _, hs⟩ := List.mem_flatMap.1 hu; simp only [roadC, List.mem_cons, List.not_mem_nil, or_false] at hs; rcases hs with rfl | rfl | rfl <;> rfl) (by unfold maxLen; omega) (by omega) hbase fun v' w' h1 h2 _ => h v' w' h1 h2
theorem cloneStr_c (A : Option Addr) (n c : Nat) (ss : List ByteArray) (w : World) (hx : IsStrs w A n c ss) (hb : n ≤ 4096) :
  Calls Tryz.prog 50 #[.slice A n c] w fun e w' => ∃ v, e = .returned v ∧ w'.ownsRow w.heap.size 9 1 v n (ss.map Value.string) ∧ Below w.heap.size w w' := by
 have HX := hI hx; clear hx
 cases A with
 | none =>
  have hc0 : c = 0 := HX.out.2.2.2.1 rfl
  have hn0 : n = 0 := by have := HX.out.2.1; omega
  subst hc0 hn0
  go_enter Tryz.func50, Tryz.ntmps50
  go_wp2
  go_ret
  obtain rfl : ss = [] := List.eq_nil_of_length_eq_zero HX.out.len
  exact ⟨_, rfl, World.ownsRow_nil _ _ _ _, Below.refl _ _⟩
 | some ad =>
  go_enter Tryz.func50, Tryz.ntmps50
  go_wp2_with (at_builtin; refine append_strs rfl (.tmp 5) (.tmp 6) rfl w.heap.size _ 0 [] rfl (World.ownsRow_made w #[] 0 rr (by simp [maxLen]) rfl) (some ad) n c ss rfl (HX.out.below (B := w.heap.size) bel rr) (by omega) (by simp) ?_; intro v1 w1 hown1 hg1)
  go_ret
  exact ⟨v1, rfl, (by simpa using hown1), own_below (B := w.heap.size) bel (World.ownsRow_made (e := 9) (size := 1) w #[] 0 rr (by simp [maxLen]) rfl) hg1 rr (by simp)⟩
theorem cloneRoad_c (A : Option Addr) (n c : Nat) (ss : List RoadI) (w : World) (hx : IsRoads w A n c ss) (hb : n ≤ 4000) :
  Calls Tryz.prog 51 #[.slice A n c] w fun e w' => ∃ v, e = .returned v ∧ w'.ownsRow w.heap.size 64 3 v n (ss.flatMap roadC) ∧ Below w.heap.size w w' := by
 have HX := hI hx; clear hx
 cases A with
 | none =>
  have hc0 : c = 0 := HX.out.1.2.2.2.1 rfl
  have hn0 : n = 0 := by have := HX.out.1.2.1; omega
  subst hc0 hn0
  go_enter Tryz.func51, Tryz.ntmps51
  go_wp2
  go_ret
  obtain rfl : ss = [] := List.eq_nil_of_length_eq_zero HX.out.2
  exact ⟨_, rfl, World.ownsRow_nil _ _ _ _, Below.refl _ _⟩
 | some ad =>
  go_enter Tryz.func51, Tryz.ntmps51
  go_wp2_with (at_builtin; refine append_roads rfl (.tmp 5) (.tmp 6) rfl w.heap.size _ 0 [] rfl (World.ownsRow_made w #[] 0 rr (by simp [maxLen]) rfl) (some ad) n c ss rfl (HX.out.below (B := w.heap.size) bel rr) (by omega) (by simp) ?_; intro v1 w1 hown1 hg1)
  go_ret
  exact ⟨v1, rfl, (by simpa using hown1), own_below (B := w.heap.size) bel (World.ownsRow_made (e := 64) (size := 3) w #[] 0 rr (by simp [maxLen]) rfl) hg1 rr (by simp)⟩
end Go.Proofs.YtaglfmlgbcmakaaGreatDoor
namespace Go.Proofs.YtaglfmlgbcmakaaGreatDoor
open Go.RowKit Go.Shelf
def sndC (s : Snd) : List Value := [.int .u32 s.1, .int .u32 s.2]
theorem sndC_len (s : Snd) : (sndC s).length = 2 := rfl
theorem wcells_sndC : ∀ xs : List Snd, xs.flatMap sndC = wcells xs
 | [] => rfl
 | x :: xs => by rw [List.flatMap_cons, wcells_sndC xs]; rfl
theorem made_wcells (n : Nat) : madeCells #[Value.int .u32 0, .int .u32 0] (n * 2) = (wcells (List.replicate n (0, 0))).toArray := by
 rw [← wcells_sndC]
 apply Array.ext
 ·simp [size_madeCells, flat_len sndC 2 sndC_len]
 ·intro i h1 h2
  have hi : i < n * 2 := by simpa [size_madeCells] using h1
  have hz : (List.replicate n ((0, 0) : Snd))[i / 2]? = some (0, 0) := by rw [List.getElem?_replicate, if_pos (by omega)]
  rcases Nat.mod_two_eq_zero_or_one i with h | h
  ·have h3 := flat_at sndC 2 sndC_len _ (i / 2) (0, 0) hz 0 (.int .u32 0) rfl
   rw [show i / 2 * 2 + 0 = i by omega] at h3
   exact Eq.trans (by simp [madeCells, h]) ((List.getElem?_eq_some_iff.1 h3).2.symm.trans rfl)
  ·have h3 := flat_at sndC 2 sndC_len _ (i / 2) (0, 0) hz 1 (.int .u32 0) rfl
   rw [show i / 2 * 2 + 1 = i by omega] at h3
   exact Eq.trans (by simp [madeCells, h]) ((List.getElem?_eq_some_iff.1 h3).2.symm.trans rfl)
theorem run_make_word (n : Nat) (hn : n ≤ 4096) (w : World) : (Instr.makeSlice 28 (.int .i64 (n : Int)) (.int .i64 (n : Int))).run Tryz.prog w = .ok (.slice (some ⟨w.heap.size, 0, none⟩) n n) (w.alloc (.cells (wcells (List.replicate n (0, 0))).toArray 49)) := by
 obtain ⟨i, hi, hzz⟩ := Option.map_eq_some_iff.1 snd_info
 simp only [Prod.mk.injEq] at hzz
 obtain ⟨hz, hs, hb⟩ := hzz
 have hr := run_make (P := Tryz.prog) w 28 49 i _ Tryz.underlying28 hi hz .i64 .i64 n n (by omega) (Int.le_refl _) (by rw [hb]; omega) (by omega)
 rw [Int.toNat_natCast, hs] at hr
 rw [← made_wcells]
 exact hr
theorem exA_c (w : World) : Calls Tryz.prog 48 #[] w fun e w' => e = .returned (sndV sA.1 sA.2) ∧ Below w.heap.size w w' := by
 go_enter Tryz.func48, Tryz.ntmps48
 go_wp2
 refine bodyPost_ret (results_cell_snd Tryz.results48 _ _ w.heap.size 5 2 rfl ?_) rfl ⟨rfl, ?_⟩
 ·exact heap_new_at rfl
 ·exact bel
theorem exP_c (w : World) : Calls Tryz.prog 49 #[] w fun e w' => e = .returned (sndV sP.1 sP.2) ∧ Below w.heap.size w w' := by
 go_enter Tryz.func49, Tryz.ntmps49
 go_wp2
 refine bodyPost_ret (results_cell_snd Tryz.results49 _ _ w.heap.size 2 5 rfl ?_) rfl ⟨rfl, ?_⟩
 ·exact heap_new_at rfl
 ·exact bel
theorem exB_c (w : World) : Calls Tryz.prog 73 #[] w fun e w' => e = .returned (sndV sB.1 sB.2) ∧ Below w.heap.size w w' := by
 go_enter Tryz.func73, Tryz.ntmps73
 go_wp2
 refine bodyPost_ret (results_cell_snd Tryz.results73 _ _ w.heap.size 3 4 rfl ?_) rfl ⟨rfl, ?_⟩
 ·exact heap_new_at rfl
 ·exact bel
theorem exF_c (w : World) : Calls Tryz.prog 90 #[] w (RetLaw w fD) := by
 obtain ⟨a, ha⟩ : ∃ a : LawA, a = { Al := none, cl := 0, Ar := none, cr := 0, Ai := some ⟨w.heap.size + 1, 0, none⟩, ci := 1, Ao := none, co := 0 } := ⟨_, rfl⟩
 go_enter Tryz.func90, Tryz.ntmps90
 go_wp2_with (refine store_law rfl (.tmp 0) (.tmp 4) rfl w.heap.size fD a rfl (by rw [ha]; rfl) (t := 55) ((heap_old_at (by simp)).trans (heap_new_at rfl)) rfl ?_; intro W1 g1 g2 g3)
 have h1 := (g2.block (w.heap.size + 1) (by simp) (by omega)).trans (heap_new_at (by simp))
 refine bodyPost_ret (results_cell_law Tryz.results90 _ _ w.heap.size fD a rfl g1) rfl ⟨a, rfl, ?_, ?_⟩
 ·subst ha
  exact ⟨FSl_nil _, FSl_nil _, one_word (s := (4, 0)) h1, ⟨Cells.nil _ _, rfl⟩, by decide⟩
 ·exact Below.trans bel (g2.to_below (B := w.heap.size) (fun k hk => by omega) (by simp; omega))
theorem exV_c (w : World) : Calls Tryz.prog 89 #[] w (RetLaw w vD) := by
 obtain ⟨a, ha⟩ : ∃ a : LawA, a = { Al := none, cl := 0, Ar := none, cr := 0, Ai := some ⟨w.heap.size + 1 + 1, 0, none⟩, ci := 1, Ao := some ⟨w.heap.size + 1 + 1 + 1, 0, none⟩, co := 1 } := ⟨_, rfl⟩
 go_enter Tryz.func89, Tryz.ntmps89
 go_wp2_with (refine store_law rfl (.tmp 0) (.tmp 11) rfl w.heap.size vD a rfl (by rw [ha]; rfl) (t := 55) (by repeat (first | exact heap_new_at sd | rw [heap_old_at sd])) rfl ?_; intro W1 g1 g2 g3)
 have h1 := (g2.block (w.heap.size + 1 + 1) (by simp) (by omega)).trans (show _ = some (.cells #[.int .u32 2, .int .u32 0] 49 (0, 0)) by repeat (first | exact heap_new_at sd | rw [heap_old_at sd]))
 have h2 := (g2.block (w.heap.size + 1 + 1 + 1) (by simp) (by omega)).trans (show _ = some (.cells #[.int .i64 0, .int .u32 0, .int .u32 1, .int .u32 0, .int .u32 0, .int .i64 0] 104 (0, 0)) by repeat (first | exact heap_new_at sd | rw [heap_old_at sd]))
 refine bodyPost_ret (results_cell_law Tryz.results89 _ _ w.heap.size vD a rfl g1) rfl ⟨a, rfl, ?_, ?_⟩
 ·subst ha
  refine ⟨FSl_nil _, FSl_nil _, one_word (s := (2, 0)) h1, ⟨⟨rfl, rr, (by decide : 1 ≤ maxLen), (fun h => by cases h), fun _ => ⟨w.heap.size + 1 + 1 + 1, 0, rfl, lt_of_block h2, fun j v hv => ?_⟩⟩, rfl⟩, by decide⟩
  rw [Nat.zero_add]
  refine cell_at_heap h2 ?_
  have hv' : [Value.int .i64 0, .int .u32 0, .int .u32 1, .int .u32 0, .int .u32 0, .int .i64 0][j]? = some v := hv
  simpa using hv'
 ·exact Below.trans bel (g2.to_below (B := w.heap.size) (fun k hk => by omega) (by simp; omega))
theorem idxEnd_c (A : Option Addr) (n c : Nat) (xs : List (Nat × Nat)) (F : Nat) (lb : Array Value) (p : (Nat × Nat) → Bool) (w : World) (hx : Recs endC 2 w A n c xs) (hE : Enters Tryz.prog F)
  (hcall : ∀ W, Below w.heap.size w W → ∀ s ∈ xs, Calls Tryz.prog F (#[.agg #[.int .i64 (s.1 : Int), .int .i64 (s.2 : Int)]] ++ lb) W fun e W' => e = .returned (.bool (p s)) ∧ Below W.heap.size W W') :
  Calls Tryz.prog 98 #[.slice A n c, .func (.func F) #[] lb] w fun e w' => e = .returned (.int .i64 (idxM p xs)) ∧ Below w.heap.size w w' := by
 have hm : n ≤ 9223372036854775807 := by have h1 := hx.1.2.1; have h2 := hx.1.2.2.1; unfold maxLen at h2; omega
 have HX := hI hx; clear hx
 have HC := hI hcall; clear hcall
 unfold Enters at hE
 go_enter Tryz.func98, Tryz.ntmps98
 go_wp2
 go_loopw [5, 8] (fun _ i wr => ∃ k : Nat, k ≤ n ∧ i = .int .i64 k ∧ Hid ((xs.take k).any p = false) ∧ Below w.heap.size w wr) (fun _ i _ => n - (intOf i).toNat)
 case atStart => exact ⟨0, Nat.zero_le _, rfl, by simp [Hid], Below.refl _ _⟩
 case round =>
  obtain ⟨k, hk, rfl, HA, hB⟩ := hrel
  by_cases hlt : k < n
  ·obtain ⟨s, hxk⟩ : ∃ s, xs[k]? = some s := ⟨xs[k]'(by rw [HX.out.2]; exact hlt), List.getElem?_eq_getElem _⟩
   obtain ⟨b, off, rfl, hb, hcs⟩ := (HX.out.below hB rr).at_ endC_len (by decide) hxk
   have hc0 := hcs 0 _ rfl
   have hc1 := hcs 1 _ rfl
   simp only [Nat.add_zero, ← Nat.add_assoc] at hc0 hc1
   clear hcs
   have HCALL := hI (HC.out wr hB s (List.mem_of_getElem? hxk))
   have HK := hI hxk; clear hxk
   by_cases hp : p s = true
   ·have hr := idxM_some p xs k s HK.out HA.out hp
    have HR := hI hr; clear hr
    have HP := hI hp; clear hp
    go_wp2_with fail
    refine HCALL.out.mono ?_
    rintro e w1 ⟨rfl, hb1⟩
    rw [HP.out]
    have hB1 := hB.trans (hb1.mono hB.size)
    clear hb1
    go_wp2
    go_ret
    exact ⟨by rw [HR.out]; rfl, hB1⟩
   ·have hp' : p s = false := by simpa using hp
    have HP := hI hp'; clear hp hp'
    go_wp2_with fail
    refine HCALL.out.mono ?_
    rintro e w1 ⟨rfl, hb1⟩
    rw [HP.out]
    have hB1 := hB.trans (hb1.mono hB.size)
    clear hb1
    go_wp2
    go_roundw
    case rel => exact ⟨k + 1, by omega, by go_num, by rw [take_snoc' xs k _ HK.out, List.any_append, HA.out]; simp [HP.out, Hid], hB1⟩
    case measure => simp [intOf]; omega
  ·obtain rfl : k = n := by omega
   have hr : idxM p xs = -1 := by
    have := HA.out
    rw [List.take_of_length_le (by rw [HX.out.2]; exact rr)] at this
    exact idxM_none p xs this
   have HR := hI hr; clear hr
   go_wp2
   go_ret
   exact ⟨by rw [HR.out]; rfl, hB⟩
theorem anyEnd_c (A : Option Addr) (n c : Nat) (xs : List (Nat × Nat)) (F : Nat) (lb : Array Value) (p : (Nat × Nat) → Bool) (w : World) (hx : Recs endC 2 w A n c xs) (hE : Enters Tryz.prog F)
  (hcall : ∀ W, Below w.heap.size w W → ∀ s ∈ xs, Calls Tryz.prog F (#[.agg #[.int .i64 (s.1 : Int), .int .i64 (s.2 : Int)]] ++ lb) W fun e W' => e = .returned (.bool (p s)) ∧ Below W.heap.size W W') :
  Calls Tryz.prog 53 #[.slice A n c, .func (.func F) #[] lb] w fun e w' => e = .returned (.bool (xs.any p)) ∧ Below w.heap.size w w' := by
 have hcon := idxEnd_c A n c xs F lb p w hx hE hcall
 have H := hI (idxM_any p xs)
 clear hx hcall hE
 go_enter Tryz.func53, Tryz.ntmps53
 go_wp2_with (go_at_call 98; refine hcon.mono ?_; rintro e w1 ⟨rfl, hb1⟩)
 go_ret
 refine ⟨?_, hb1⟩
 show Ending.returned (.bool (decide (0 ≤ idxM p xs))) = _
 rw [H.out]
end Go.Proofs.YtaglfmlgbcmakaaGreatDoor
namespace Go.Proofs.YtaglfmlgbcmakaaGreatDoor
open Go.RowKit Go.Shelf Go.Sort
-- a row of records, as the sort sees it
theorem flatK_eq {α : Type} [Inhabited α] (enc : α → List Value) (k : Nat) (hk : ∀ x, (enc x).length = k) (h0 : 0 < k) (l : List α) : flatK enc k l.toArray = (l.flatMap enc).toArray := by
 apply ext_get!
 ·simp [flat_len enc k hk]
 ·intro t ht
  have ht' : t < l.length * k := by simpa using ht
  rw [get_flatK _ _ _ _ (by simpa using ht')]
  have hq : t / k < l.length := Nat.div_lt_of_lt_mul (by rw [Nat.mul_comm]; exact ht')
  have hm : t % k < k := Nat.mod_lt _ h0
  have hx : l[t / k]? = some l[t / k] := List.getElem?_eq_getElem hq
  have hl : t % k < (enc l[t / k]).length := by rw [hk]; exact hm
  have h3 := flat_at enc k hk l (t / k) _ hx (t % k) _ (List.getElem?_eq_getElem hl)
  rw [show t / k * k + t % k = t by rw [Nat.mul_comm]; exact Nat.div_add_mod t k] at h3
  have e1 : (l.toArray)[t / k]! = l[t / k] := by simp [getElem!_pos, hq]
  rw [e1]
  have e2 : ((l.flatMap enc).toArray)[t]! = (enc l[t / k])[t % k] := by
   have hlt := (List.getElem?_eq_some_iff.1 h3).1
   rw [getElem!_pos ((l.flatMap enc).toArray) t (by simpa using hlt)]
   simpa using (List.getElem?_eq_some_iff.1 h3).2
  rw [e2, getElem!_pos (enc l[t / k]) (t % k) hl]
theorem holds_own {α : Type} [Inhabited α] {enc : α → List Value} {k : Nat} (hk : ∀ x, (enc x).length = k) (h0 : 0 < k) {w : World} {base g n c : Nat} {e : TypeId} {l : List α} (h : w.ownsRow base e k (.slice (some ⟨g, 0, none⟩) n c) n (l.flatMap enc)) :
  HoldsK enc k w g 0 l.toArray := by
 unfold HoldsK Holds
 rw [flatK_eq enc k hk h0]
 intro j hj
 obtain ⟨h1, ⟨e0, _⟩ | ⟨g', cap', cur, e0, hb, hg, hn, hm, hs, ht⟩⟩ := h
 ·cases e0
 injection e0 with e1 _ e3
 injection e1 with e1
 injection e1 with e1
 subst e1
 have hj' : j < (l.flatMap enc).length := by simpa using hj
 have hjc : j < cur.size := by rw [hs]; rw [h1] at hj'; exact Nat.lt_of_lt_of_le hj' (Nat.mul_le_mul_right k hn)
 have e5 : cur[j]? = some (l.flatMap enc)[j] := by
  have h5 := congrArg (fun x : List Value => x[j]?) ht
  simp only [List.getElem?_take] at h5
  rw [if_pos (by rw [← h1]; exact hj'), Array.getElem?_toList, List.getElem?_eq_getElem hj'] at h5
  exact h5
 refine ⟨?_, ?_⟩
 ·rw [getElem!_pos ((l.flatMap enc).toArray) j hj]
  simp [World.cell?, hg, e5]
 ·simp [World.frozen?, hg]
theorem cells_holds {α : Type} [Inhabited α] {enc : α → List Value} {k : Nat} (hk : ∀ x, (enc x).length = k) (h0 : 0 < k) {w : World} {g c : Nat} {l : List α} (h : HoldsK enc k w g 0 l.toArray) (hg : g < w.heap.size) (hc : l.length ≤ c) (hm : c ≤ maxLen) :
  Cells w (some ⟨g, 0, none⟩) l.length c k (l.flatMap enc) := by
 refine ⟨flat_len enc k hk l, hc, hm, (fun h => by cases h), fun _ => ⟨g, 0, rfl, hg, fun j v hv => ?_⟩⟩
 unfold HoldsK Holds at h
 rw [flatK_eq enc k hk h0] at h
 have hj := (List.getElem?_eq_some_iff.1 hv).1
 have h1 := (h j (by simpa using hj)).1
 rw [getElem!_pos ((l.flatMap enc).toArray) j (by simpa using hj)] at h1
 rw [h1]
 simpa using (List.getElem?_eq_some_iff.1 hv).2
end Go.Proofs.YtaglfmlgbcmakaaGreatDoor
namespace Go.Proofs.YtaglfmlgbcmakaaGreatDoor
open Go.RowKit Go.Shelf Go.Sort Go.Lib
theorem isTo_c (s : Nat × Nat) (r : RoadI) (bx : Nat) (w : World) (h : w.heap[bx]? = some (.cells #[.int .i64 r.1, .int .i64 r.2.1, .int .i64 r.2.2] 64 (0, 0))) :
  Calls Tryz.prog 54 #[.agg #[.int .i64 (s.1 : Int), .int .i64 (s.2 : Int)], .pointer (some ⟨bx, 0, none⟩)] w fun e w' => e = .returned (.bool (decide ((s.1 : Int) = r.2.1))) ∧ Below w.heap.size w w' := by
 obtain ⟨x, l⟩ := s
 obtain ⟨p, q, z⟩ := r
 have c1 := cell_at_heap (j := 1) h rfl
 have hb := lt_of_block h
 clear h
 simp only at c1 ⊢
 go_enter Tryz.func54, Tryz.ntmps54
 go_wp2
 go_ret
 refine ⟨?_, bel⟩
 congr 2
theorem cmpEnd_c (s t : Nat × Nat) (w : World) :
  Calls Tryz.prog 56 #[.agg #[.int .i64 (s.1 : Int), .int .i64 (s.2 : Int)], .agg #[.int .i64 (t.1 : Int), .int .i64 (t.2 : Int)]] w fun e w' => e = .returned (.int .i64 (cmpQ (s.1 : Int) (t.1 : Int))) ∧ ∃ q os, w' = grow (w.drewN q) os := by
 obtain ⟨x, l⟩ := s
 obtain ⟨y, z⟩ := t
 simp only
 go_enter Tryz.func56, Tryz.ntmps56
 go_wp2_with fail
 refine (cmpP_c (x : Int) (y : Int) _).mono ?_
 rintro e w1 ⟨rfl, rfl⟩
 go_wp2
 go_ret
 refine ⟨rfl, 0, #[.cells #[.int .i64 (x : Int), .int .i64 (l : Int)] 112, .cells #[.int .i64 (y : Int), .int .i64 (z : Int)] 112], ?_⟩
 rw [alloc_eq_grow, alloc_eq_grow, grow_grow]; rfl
def cmpE (s t : Nat × Nat) : Int := cmpQ (s.1 : Int) (t.1 : Int)
theorem ltOf_cmpE (s t : Nat × Nat) : ltOf cmpE s t = decide (s.1 < t.1) := by
 unfold ltOf cmpE cmpQ
 by_cases h1 : s.1 < t.1 <;> by_cases h2 : t.1 < s.1 <;> simp [h1, h2]
theorem cmpE_swo : SWO (ltOf cmpE) where
 irrefl x := by rw [ltOf_cmpE]; simp
 trans x y z h1 h2 := by rw [ltOf_cmpE] at *; simp at *; omega
 ntrans x y z h1 h2 := by rw [ltOf_cmpE] at *; simp at *; omega
theorem keep_sortK {α : Type} [Inhabited α] {enc : α → List Value} {k : Nat} (w : World) (g m : Nat) (d : Array α) (os : Array Obj) : Keep (fun i => i = g) w (sortWorldK enc k w g 0 m d os) := by
 unfold sortWorldK putRowK putRow mapBlock Sort.grow Sort.ahead
 refine ⟨rfl, rfl, rfl, by simp, fun i hi hs => ?_⟩
 simp only
 rw [Array.getElem?_append_left (by simpa using hi), Array.getElem?_modify, if_neg (fun e => hs e.symm)]
theorem sortEnd_c (v : Value) (base : Nat) (es : List (Nat × Nat)) (w : World) (h : w.ownsRow base 112 2 v es.length (es.flatMap endC)) (hn : es.length ≤ 4000) :
  Calls Tryz.prog 55 #[v, .func (.func 56) #[] #[]] w fun e w' =>
   e = .returned (.tuple #[]) ∧ (∃ A c es', v = .slice A es.length c ∧ IsEnds w' A es.length c es' ∧ es'.Perm es) ∧ Keep (fun k => v.ownBlock = some k) w w' := by
 rcases Nat.eq_zero_or_pos es.length with h0 | h0
 ·have hs : es = [] := List.eq_nil_of_length_eq_zero h0
  subst hs
  rcases h.2 with ⟨rfl, _⟩ | ⟨g, cap, cur, rfl, hb, hg, hnc, hcm, hcs, ht⟩
  ·exact (AnyF.slices_SortFunc_none Tryz.sortEnd none 0 _ w).mono fun e w' ⟨h1, h2⟩ => by
    subst h2
    exact ⟨h1, ⟨none, 0, [], rfl, ⟨Cells.nil _ _, rfl⟩, List.Perm.refl _⟩, Keep.refl _ _⟩
  ·exact (AnyF.slices_SortFunc_none Tryz.sortEnd (some ⟨g, 0, none⟩) cap _ w).mono fun e w' ⟨h1, h2⟩ => by
    subst h2
    exact ⟨h1, ⟨some ⟨g, 0, none⟩, cap, [], rfl, ⟨Cells.of_own h (by decide), rfl⟩, List.Perm.refl _⟩, Keep.refl _ _⟩
 ·obtain ⟨g, cap, rfl, hb, hg⟩ := own_block h h0
  have hm : es.length ≤ cap ∧ cap ≤ maxLen := by
   have h3 := Cells.of_own h (by decide)
   exact ⟨h3.2.1, h3.2.2.1⟩
  have hH : HoldsK endC 2 w g 0 es.toArray := holds_own endC_len (by decide) h
  have hcon := AnyQ.slices_SortFunc Tryz.sortEnd 2 Tryz.isAgg112 Tryz.sizeOf112 endC endC_len (fun x v hv => by simp [endC] at hv; rcases hv with rfl | rfl <;> rfl) cmpE cmpE_swo 56 #[] g 0 cap es.toArray w
   (enters_of Tryz.func56 (by kernel_rfl) rfl) (fun m os dk _ x y => (cmpEnd_c x y _).mono fun e w' ⟨h1, h2⟩ => ⟨h1, h2⟩) hH hg (by simp; omega)
  refine Calls.mono hcon ?_
  rintro e w' ⟨rfl, d', m, os, hp, hs, rfl⟩
  have hds : d'.size = es.length := by have := hp.1; simpa using this
  have hperm : d'.toList.Perm es := by
   have h3 := hp.2.2
   rw [show es.toArray.size = es.length from by simp] at h3
   have e1 : (d'.extract 0 es.length).toList = d'.toList := by rw [← hds]; simp
   have e2 : (es.toArray.extract 0 es.length).toList = es := by simp
   rwa [e1, e2] at h3
  refine ⟨rfl, ⟨some ⟨g, 0, none⟩, cap, d'.toList, rfl, ?_, hperm⟩, (keep_sortK w g m d' os).mono fun k e => by show some g = some k; rw [e]⟩
  have h5 : HoldsK endC 2 (sortWorldK endC 2 w g 0 m d' os) g 0 d'.toList.toArray := by
   unfold sortWorldK
   refine holdsK_grow endC 2 _ os g 0 _ (by simpa [putRowK, putRow, mapBlock, Sort.ahead] using hg) ?_
   exact holdsK_putRowK endC 2 (Sort.ahead w m) g 0 es.toArray _ hH (by simpa using hds)
  have hl : d'.toList.length = es.length := by simpa using hds
  have h6 := cells_holds endC_len (by decide) h5 (Nat.lt_of_lt_of_le hg (by unfold sortWorldK Sort.grow; simp [putRowK, putRow, mapBlock, Sort.ahead])) (by rw [hl]; exact hm.1) hm.2
  rw [hl] at h6
  exact ⟨h6, hl⟩
end Go.Proofs.YtaglfmlgbcmakaaGreatDoor
