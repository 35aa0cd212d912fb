/-
  ablautlaw29: a, b, p, form, row.
  ablautlaw25.Example.
-/
import Derived.Test.YtlgliddhideflaaGreatDoorG68
import Derived.Test.YtlgliddhideflaaGreatDoorG63
set_option linter.all false
set_option maxRecDepth 100000
set_option maxHeartbeats 4000000
namespace Go.Proofs.YtlgliddhideflaaGreatDoor
open Go.RowKit Go.Shelf
def s29B : Snd := (3, 4)
theorem exA29_c (w : World) : Calls Tryz.prog 105 #[] w fun e w' => e = .returned (sndV sA.1 sA.2) ∧ Below w.heap.size w w' := by
 go_enter Tryz.func105, Tryz.ntmps105
 go_wp2
 refine bodyPost_ret (results_cell_snd Tryz.results105 _ _ w.heap.size 5 2 rfl ?_) rfl ⟨rfl, ?_⟩
 ·exact heap_new_at rfl
 ·exact bel
theorem exP29_c (w : World) : Calls Tryz.prog 30 #[] w fun e w' => e = .returned (sndV sP.1 sP.2) ∧ Below w.heap.size w w' := by
 go_enter Tryz.func30, Tryz.ntmps30
 go_wp2
 refine bodyPost_ret (results_cell_snd Tryz.results30 _ _ w.heap.size 2 5 rfl ?_) rfl ⟨rfl, ?_⟩
 ·exact heap_new_at rfl
 ·exact bel
theorem exB29_c (w : World) : Calls Tryz.prog 106 #[] w fun e w' => e = .returned (sndV s29B.1 s29B.2) ∧ Below w.heap.size w w' := by
 go_enter Tryz.func106, Tryz.ntmps106
 go_wp2
 refine bodyPost_ret (results_cell_snd Tryz.results106 _ _ w.heap.size 3 4 rfl ?_) rfl ⟨rfl, ?_⟩
 ·exact heap_new_at rfl
 ·exact bel
theorem results_cell_form {fn : Func} {p : Tmp} (h : fn.results = #[.cell p 57]) (tmps : Array Value) (w : World) (b : Nat) (hs : Bool) (A : Option Addr) (n c : Nat) (hp : tmps.getD p undef = .pointer (some ⟨b, 0, none⟩)) (hb : w.heap[b]? = some (.cells #[.bool hs, .slice A n c] 57 (0, 0))) :
  (results fn tmps).run Tryz.prog w = .ok (.agg #[.bool hs, .slice A n c]) w := by
 have hp' : tmps[p]?.getD undef = .pointer (some ⟨b, 0, none⟩) := by simpa using hp
 have h0 : w.cell? ⟨b, 0, none⟩ = some (.bool hs) := cell_at_heap hb rfl
 have h1 : w.cell? ⟨b, 1, none⟩ = some (.slice A n c) := cell_at_heap hb rfl
 simp [results, h, hp', asAddr, go_sem, h0, h1]
theorem form29_c (A : Option Addr) (n c : Nat) (w : World) : Calls Tryz.prog 29 #[.slice A n c] w fun e w' => e = .returned (.agg #[.bool true, .slice A n c]) ∧ Below w.heap.size w w' := by
 go_enter Tryz.func29, Tryz.ntmps29
 go_wp2
 refine bodyPost_ret (results_cell_form Tryz.results29 _ _ w.heap.size true A n c rfl ?_) rfl ⟨rfl, ?_⟩
 ·exact heap_new_at rfl
 ·exact bel
theorem built_forms (w : World) (fs : List FormR) (t : TypeId) (hn : fs.length ≤ 4096) (hp : ∀ f ∈ fs, IsWord w f.p.1 f.p.2.1 f.p.2.2.1 f.p.2.2.2) : IsForms (w.alloc (.cells (fs.flatMap FormR.cells).toArray t)) (some ⟨w.heap.size, 0, none⟩) fs.length fs.length (fs.map FormR.data) :=
 ⟨fs, rfl, ⟨⟨flat_len FormR.cells 2 FormR.len fs, rr, by unfold maxLen; omega, (fun h => by cases h), fun _ => ⟨w.heap.size, 0, rfl, by simp, fun j v hv => by rw [Nat.zero_add]; exact cell_new_at (by simpa using hv)⟩⟩, rfl⟩,
  fun f hf => (hp f hf).below ((Below.refl w.heap.size w).alloc rr _) rr⟩
theorem built_par (w : World) (rs : List RowR) (t : TypeId) (hn : rs.length ≤ 4096) (hp : ∀ r ∈ rs, IsForms w r.A r.n r.c r.l) : IsPar (w.alloc (.cells (rs.map RowR.val).toArray t)) (some ⟨w.heap.size, 0, none⟩) rs.length rs.length (rs.map RowR.l) :=
 ⟨rs, rfl, ⟨by simp, rr, by unfold maxLen; omega, (fun h => by cases h), fun _ => ⟨w.heap.size, 0, rfl, by simp, fun j v hv => by rw [Nat.zero_add]; exact cell_new_at (by simpa using hv)⟩⟩,
  fun r hr => (hp r hr).below ((Below.refl w.heap.size w).alloc rr _) rr⟩
theorem store_frm {ops : Array Oper} {rest : List Oper} {op : Oper} {ac : Act} {w : World} {Q : Exit → Act → World → Prop} (hgd : op.guard = none) (x y : Operand) (ho : op.op = .store 57 x y)
  (b : Nat) (hs : Bool) (A : Option Addr) (n c : Nat) (hx : ac.eval x = .pointer (some ⟨b, 0, none⟩)) (hy : ac.eval y = .agg #[.bool hs, .slice A n c]) {old : Array Value} {t : TypeId} (hr : w.heap[b]? = some (.cells old t (0, 0))) (hz : old.size = 2)
  (h : ∀ W, W.heap[b]? = some (.cells #[.bool hs, .slice A n c] t (0, 0)) → Keep (fun k => k = b) w W → W.heap.size = w.heap.size → wpList Tryz.prog ops Q rest (ac.put op.dst undef) W) : wpList Tryz.prog ops Q (op :: rest) ac w := by
 have h' := h (w.setRow b #[.bool hs, .slice A n c]) (setRow_heap w b old _ t _ hr) ⟨rfl, rfl, rfl, by simp [World.setRow], fun k _ hk => setRow_other w b k _ hk⟩ (by simp [World.setRow])
 exact wpList_store_row hgd 57 x y ho b #[.bool hs, .slice A n c] hx hy t old hr (form_size _ _ _ _) (by rw [hz]; rfl) (by simp [Value.oneCell']) h'
def RetForm (w : World) (ws : List Snd) (e : Ending) (w' : World) : Prop := ∃ A n c, e = .returned (.agg #[.bool true, .slice A n c]) ∧ IsWord w' A n c ws ∧ Below w.heap.size w w'
theorem row29At_c (A A' : Option Addr) (n n' c c' : Nat) (xs ys : List Snd) (bs : Nat) (w : World) (hx : IsWord w A n c xs) (hy : IsWord w A' n' c' ys) (hb : w.heap[bs]? = some (.cells #[.slice A' n' c'] 32 (0, 0))) (hn : n ≤ 100) (hn' : n' ≤ 100) :
  Calls Tryz.prog 104 #[.slice A n c, .pointer (some ⟨bs, 0, none⟩)] w (RetForm w (ys ++ xs)) := by
 have HX := hI hx; clear hx
 have HY := hI hy; clear hy
 have c0 := cell_of_one hb
 have hl := lt_of_block hb
 have HB := hI hb; clear hb
 go_enter Tryz.func104, Tryz.ntmps104
 have k0 : (w.alloc (.cells #[.bool false, .slice none 0 0] 57)).heap[w.heap.size]? = some (.cells #[.bool false, .slice none 0 0] 57 (0, 0)) := hpt
 have hown0 : ((w.alloc (.cells #[.bool false, .slice none 0 0] 57)).alloc (.cells #[] 24)).ownsRow (w.heap.size + 1) 24 2 (.slice (some ⟨w.heap.size + 1, 0, none⟩) 0 0) 0 (wcells []) := by
  have h := World.ownsRow_made (base := w.heap.size + 1) (e := 24) (size := 2) (w.alloc (.cells #[.bool false, .slice none 0 0] 57)) #[] 0 (by simp) (by simp [maxLen]) rfl
  show World.ownsRow _ _ _ _ _ _ []
  simpa using h
 have hbA : Below w.heap.size w ((w.alloc (.cells #[.bool false, .slice none 0 0] 57)).alloc (.cells #[] 24)) := bel
 have k1 : ((w.alloc (.cells #[.bool false, .slice none 0 0] 57)).alloc (.cells #[] 24)).heap[w.heap.size]? = some (.cells #[.bool false, .slice none 0 0] 57 (0, 0)) := (heap_old_at (by simp)).trans k0
 go_wp2_with (at_builtin; refine append_snd rfl (.tmp 4) (.tmp 5) rfl (w.heap.size + 1) _ 0 [] rfl hown0 A' n' c' ys rfl (HY.out.below hbA rr) (by omega) (by simp) ?hc)
 case hc =>
  intro v1 w1 hown1 hg1 _
  have hb1 : Below w.heap.size w w1 := own_below (B := w.heap.size) hbA hown0 hg1 (by omega) (by simp; omega)
  have k2 := (hg1.block w.heap.size (lt_of_block k1) (by simp [Value.ownBlock])).trans k1
  have hown1' : w1.ownsRow (w.heap.size + 1) 24 2 v1 n' (wcells ys) := by simpa using hown1
  have hs1 : w.heap.size + 1 ≤ w1.heap.size := lt_of_block k2
  have HO1 := hI hown1'
  have HK2 := hI k2
  have HBA := hI hb1
  clear hown0 hbA k0 k1 hown1 hg1 hown1' hb1 k2
  go_wp2_with (at_builtin; refine append_snd rfl (.tmp 6) (.tmp 7) rfl (w.heap.size + 1) v1 n' ys rfl HO1.out A n c xs rfl (HX.out.below HBA.out rr) (by omega) hs1 ?hd)
  case hd =>
   intro v2 w2 hown2 hg2 _
   have hb2 : Below w.heap.size w w2 := own_below (B := w.heap.size) HBA.out HO1.out hg2 (by omega) (by omega)
   have hne : some w.heap.size ≠ v1.ownBlock := fun e => by have := (HO1.out.lt _ e.symm).1; omega
   have k3 := (hg2.block w.heap.size (lt_of_block HK2.out) hne).trans HK2.out
   obtain ⟨A2, c2, rfl⟩ := own_form hown2
   have hw2 : IsWord w2 A2 (n' + n) c2 (ys ++ xs) := Cells.of_own hown2 (by decide)
   have hf2 := own_addr hown2
   have HW2 := hI hw2
   have HF2 := hI hf2
   have HK3 := hI k3
   have HB2 := hI hb2
   clear hown2 hg2 hw2 hf2 k3 hb2 hne
   go_wp2_with fail
   refine (form29_c A2 (n' + n) c2 w2).mono ?_
   rintro e w3 ⟨rfl, hb3⟩
   have k4 := (hb3.block w.heap.size (lt_of_block HK3.out)).trans HK3.out
   go_wp2_with (refine store_frm rfl (.tmp 3) (.tmp 9) rfl w.heap.size true A2 (n' + n) c2 rfl rfl k4 rfl ?he)
   case he =>
    intro W g1 g2 g3
    go_wp2
    have hB3 := HB2.out.trans (hb3.mono HB2.out.size)
    refine bodyPost_ret (results_cell_form Tryz.results104 _ _ w.heap.size true A2 (n' + n) c2 rfl g1) rfl ⟨A2, n' + n, c2, rfl, ?_, hB3.trans (g2.to_below (B := w.heap.size) (fun k hk => by omega) hB3.size)⟩
    exact (HW2.out.below hb3 rr).keep g2 fun _ ad had e => by have := HF2.out ad had; omega
def row29D (s : List Snd) : List Frm := [(true, s ++ [sA, sP, sA]), (true, s ++ [sA, s29B, sA]), (false, []), (true, s ++ [sA, sP, sA])]
def RetRow (w : World) (l : List Frm) (e : Ending) (w' : World) : Prop := ∃ A n c, e = .returned (.slice A n c) ∧ IsForms w' A n c l ∧ Below w.heap.size w w'
theorem row29_c (A : Option Addr) (n c : Nat) (s : List Snd) (w : World) (hs : IsWord w A n c s) (hn : n ≤ 100) :
  Calls Tryz.prog 39 #[.slice A n c] w (RetRow w (row29D s)) := by
 have HS := hI hs; clear hs
 have hE := enters_of Tryz.func104 (by kernel_rfl) rfl
 unfold Enters at hE
 have hb0 : Below w.heap.size w (w.alloc (.cells #[.slice A n c] 32)) := bel
 have hk0 : (w.alloc (.cells #[.slice A n c] 32)).heap[w.heap.size]? = some (.cells #[.slice A n c] 32 (0, 0)) := hpt
 go_enter Tryz.func39, Tryz.ntmps39
 go_wp2_with fail
 generalize (w.alloc (.cells #[.slice A n c] 32)) = V0 at *
 obtain ⟨bs, hbs⟩ : ∃ bs, bs = w.heap.size := ⟨_, rfl⟩
 rw [← hbs] at hk0 ⊢
 clear hbs
 have HB := hI hb0; clear hb0
 have HBS := hI hk0; clear hk0
 refine (exA29_c _).mono ?_
 rintro e w1 ⟨rfl, hb⟩
 replace HB := hI (HB.out.trans (hb.mono HB.out.size))
 replace HBS := hI ((hb.block _ (lt_of_block HBS.out)).trans HBS.out)
 clear hb
 go_wp2_with fail
 refine (exP29_c _).mono ?_
 rintro e w2 ⟨rfl, hb⟩
 replace HB := hI (HB.out.trans (hb.mono HB.out.size))
 replace HBS := hI ((hb.block _ (lt_of_block HBS.out)).trans HBS.out)
 try replace HF1 := hI (HF1.out.below hb rr)
 try replace HF2 := hI (HF2.out.below hb rr)
 clear hb
 go_wp2_with fail
 refine (exA29_c _).mono ?_
 rintro e w3 ⟨rfl, hb⟩
 replace HB := hI (HB.out.trans (hb.mono HB.out.size))
 replace HBS := hI ((hb.block _ (lt_of_block HBS.out)).trans HBS.out)
 try replace HF1 := hI (HF1.out.below hb rr)
 try replace HF2 := hI (HF2.out.below hb rr)
 clear hb
 go_wp2_with fail
 have hw_ := built_word w3 [sA, sP, sA] 24 (by simp)
 have hb_ : Below w3.heap.size w3 (w3.alloc (.cells (wcells [sA, sP, sA]).toArray 24)) := bel
 rw [show w3.alloc (.cells #[.int .u32 sA.1, .int .u32 sA.2, .int .u32 sP.1, .int .u32 sP.2, .int .u32 sA.1, .int .u32 sA.2] 24) = w3.alloc (.cells (wcells [sA, sP, sA]).toArray 24) from rfl]
 generalize w3.alloc (.cells (wcells [sA, sP, sA]).toArray 24) = V_ at *
 replace HB := hI (HB.out.trans (hb_.mono HB.out.size))
 replace HBS := hI ((hb_.block _ (lt_of_block HBS.out)).trans HBS.out)
 try replace HF1 := hI (HF1.out.below hb_ rr)
 try replace HF2 := hI (HF2.out.below hb_ rr)
 refine (row29At_c _ A 3 n 3 c [sA, sP, sA] s bs V_ hw_ (HS.out.below HB.out rr) HBS.out (by omega) hn).mono ?_
 rintro e w4 ⟨A1, n1, c1, rfl, hw, hb⟩
 have HF1 := hI hw
 replace HB := hI (HB.out.trans (hb.mono HB.out.size))
 replace HBS := hI ((hb.block _ (lt_of_block HBS.out)).trans HBS.out)
 try replace HF1 := hI (HF1.out.below hb rr)
 try replace HF2 := hI (HF2.out.below hb rr)
 clear hw_ hb_ hw hb
 go_wp2_with fail
 refine (exA29_c _).mono ?_
 rintro e w5 ⟨rfl, hb⟩
 replace HB := hI (HB.out.trans (hb.mono HB.out.size))
 replace HBS := hI ((hb.block _ (lt_of_block HBS.out)).trans HBS.out)
 try replace HF1 := hI (HF1.out.below hb rr)
 try replace HF2 := hI (HF2.out.below hb rr)
 clear hb
 go_wp2_with fail
 refine (exB29_c _).mono ?_
 rintro e w6 ⟨rfl, hb⟩
 replace HB := hI (HB.out.trans (hb.mono HB.out.size))
 replace HBS := hI ((hb.block _ (lt_of_block HBS.out)).trans HBS.out)
 try replace HF1 := hI (HF1.out.below hb rr)
 try replace HF2 := hI (HF2.out.below hb rr)
 clear hb
 go_wp2_with fail
 refine (exA29_c _).mono ?_
 rintro e w7 ⟨rfl, hb⟩
 replace HB := hI (HB.out.trans (hb.mono HB.out.size))
 replace HBS := hI ((hb.block _ (lt_of_block HBS.out)).trans HBS.out)
 try replace HF1 := hI (HF1.out.below hb rr)
 try replace HF2 := hI (HF2.out.below hb rr)
 clear hb
 go_wp2_with fail
 have hw_ := built_word w7 [sA, s29B, sA] 24 (by simp)
 have hb_ : Below w7.heap.size w7 (w7.alloc (.cells (wcells [sA, s29B, sA]).toArray 24)) := bel
 rw [show w7.alloc (.cells #[.int .u32 sA.1, .int .u32 sA.2, .int .u32 s29B.1, .int .u32 s29B.2, .int .u32 sA.1, .int .u32 sA.2] 24) = w7.alloc (.cells (wcells [sA, s29B, sA]).toArray 24) from rfl]
 generalize w7.alloc (.cells (wcells [sA, s29B, sA]).toArray 24) = V_ at *
 replace HB := hI (HB.out.trans (hb_.mono HB.out.size))
 replace HBS := hI ((hb_.block _ (lt_of_block HBS.out)).trans HBS.out)
 try replace HF1 := hI (HF1.out.below hb_ rr)
 try replace HF2 := hI (HF2.out.below hb_ rr)
 refine (row29At_c _ A 3 n 3 c [sA, s29B, sA] s bs V_ hw_ (HS.out.below HB.out rr) HBS.out (by omega) hn).mono ?_
 rintro e w8 ⟨A2, n2, c2, rfl, hw, hb⟩
 have HF2 := hI hw
 replace HB := hI (HB.out.trans (hb.mono HB.out.size))
 replace HBS := hI ((hb.block _ (lt_of_block HBS.out)).trans HBS.out)
 try replace HF1 := hI (HF1.out.below hb rr)
 try replace HF2 := hI (HF2.out.below hb rr)
 clear hw_ hb_ hw hb
 go_wp2_with fail
 refine (exA29_c _).mono ?_
 rintro e w9 ⟨rfl, hb⟩
 replace HB := hI (HB.out.trans (hb.mono HB.out.size))
 replace HBS := hI ((hb.block _ (lt_of_block HBS.out)).trans HBS.out)
 try replace HF1 := hI (HF1.out.below hb rr)
 try replace HF2 := hI (HF2.out.below hb rr)
 clear hb
 go_wp2_with fail
 refine (exP29_c _).mono ?_
 rintro e w10 ⟨rfl, hb⟩
 replace HB := hI (HB.out.trans (hb.mono HB.out.size))
 replace HBS := hI ((hb.block _ (lt_of_block HBS.out)).trans HBS.out)
 try replace HF1 := hI (HF1.out.below hb rr)
 try replace HF2 := hI (HF2.out.below hb rr)
 clear hb
 go_wp2_with fail
 refine (exA29_c _).mono ?_
 rintro e w11 ⟨rfl, hb⟩
 replace HB := hI (HB.out.trans (hb.mono HB.out.size))
 replace HBS := hI ((hb.block _ (lt_of_block HBS.out)).trans HBS.out)
 try replace HF1 := hI (HF1.out.below hb rr)
 try replace HF2 := hI (HF2.out.below hb rr)
 clear hb
 go_wp2_with fail
 have hw_ := built_word w11 [sA, sP, sA] 24 (by simp)
 have hb_ : Below w11.heap.size w11 (w11.alloc (.cells (wcells [sA, sP, sA]).toArray 24)) := bel
 rw [show w11.alloc (.cells #[.int .u32 sA.1, .int .u32 sA.2, .int .u32 sP.1, .int .u32 sP.2, .int .u32 sA.1, .int .u32 sA.2] 24) = w11.alloc (.cells (wcells [sA, sP, sA]).toArray 24) from rfl]
 generalize w11.alloc (.cells (wcells [sA, sP, sA]).toArray 24) = V_ at *
 replace HB := hI (HB.out.trans (hb_.mono HB.out.size))
 replace HBS := hI ((hb_.block _ (lt_of_block HBS.out)).trans HBS.out)
 try replace HF1 := hI (HF1.out.below hb_ rr)
 try replace HF2 := hI (HF2.out.below hb_ rr)
 refine (row29At_c _ A 3 n 3 c [sA, sP, sA] s bs V_ hw_ (HS.out.below HB.out rr) HBS.out (by omega) hn).mono ?_
 rintro e w12 ⟨A3, n3, c3, rfl, hw, hb⟩
 have HF3 := hI hw
 replace HB := hI (HB.out.trans (hb.mono HB.out.size))
 replace HBS := hI ((hb.block _ (lt_of_block HBS.out)).trans HBS.out)
 try replace HF1 := hI (HF1.out.below hb rr)
 try replace HF2 := hI (HF2.out.below hb rr)
 clear hw_ hb_ hw hb
 have hbf := built_forms w12 [⟨true, (A1, n1, c1, s ++ [sA, sP, sA])⟩, ⟨true, (A2, n2, c2, s ++ [sA, s29B, sA])⟩, ⟨false, (none, 0, 0, [])⟩, ⟨true, (A3, n3, c3, s ++ [sA, sP, sA])⟩] 57 (by simp) (fun f hf => by
  simp only [List.mem_cons, List.not_mem_nil, or_false] at hf
  rcases hf with rfl | rfl | rfl | rfl
  ·exact HF1.out
  ·exact HF2.out
  ·exact Cells.nil _ _
  ·exact HF3.out)
 have hb9 : Below w12.heap.size w12 (w12.alloc (.cells (([⟨true, (A1, n1, c1, s ++ [sA, sP, sA])⟩, ⟨true, (A2, n2, c2, s ++ [sA, s29B, sA])⟩, ⟨false, (none, 0, 0, [])⟩, ⟨true, (A3, n3, c3, s ++ [sA, sP, sA])⟩] : List FormR).flatMap FormR.cells).toArray 57)) := bel
 go_wp2
 go_ret
 exact ⟨some ⟨w12.heap.size, 0, none⟩, 4, 4, rfl, hbf, HB.out.trans (hb9.mono HB.out.size)⟩
def v25 : LawD := { name := ⟨#[118, 111, 105, 99, 105, 110, 103]⟩, left := vowD, right := vowD, ifs := [(2, 0)], outs := [⟨0, 0, 1, 0, 0, 0⟩], mode := 1 }
def f25 : LawD := { name := ⟨#[97, 112, 111, 99, 111, 112, 101]⟩, left := (⟨0, 0, 0, false, 0, 0⟩, .nil), right := (⟨6, 0, 0, false, 0, 0⟩, .nil), ifs := [(4, 0)], outs := [], mode := 1 }
def RetEx (w : World) (e : Ending) (w' : World) : Prop :=
 ∃ (A B C : Option Addr) (n c n' c' : Nat) (a1 a2 : LawA), e = .returned (.agg #[.slice A n c, .slice B 2 2, .slice C n' c']) ∧ IsLaws w' B 2 2 [⟨v25, a1⟩, ⟨f25, a2⟩] ∧ Below w.heap.size w w'
theorem results_cell_hist {fn : Func} {p : Tmp} (h : fn.results = #[.cell p 143]) (tmps : Array Value) (w : World) (b : Nat) (u v x : Value) (hp : tmps.getD p undef = .pointer (some ⟨b, 0, none⟩)) (hb : w.heap[b]? = some (.cells #[u, v, x] 143 (0, 0))) :
  (results fn tmps).run Tryz.prog w = .ok (.agg #[u, v, x]) w := by
 have hp' : tmps[p]?.getD undef = .pointer (some ⟨b, 0, none⟩) := by simpa using hp
 have h0 : w.cell? ⟨b, 0, none⟩ = some u := cell_at_heap hb rfl
 have h1 : w.cell? ⟨b, 1, none⟩ = some v := cell_at_heap hb rfl
 have h2 : w.cell? ⟨b, 2, none⟩ = some x := cell_at_heap hb rfl
 simp [results, h, hp', asAddr, go_sem, h0, h1, h2]
theorem one_out29 {w : World} {b : Nat} {o : OutD} {t : TypeId} (h : w.heap[b]? = some (.cells o.cells.toArray t (0, 0))) : Recs OutD.cells 6 w (some ⟨b, 0, none⟩) 1 1 [o] :=
 ⟨⟨rfl, rr, (by decide : 1 ≤ maxLen), (fun h => by cases h), fun _ => ⟨b, 0, rfl, lt_of_block h, fun j v hv => by rw [Nat.zero_add]; exact cell_at_heap h (by simpa using hv)⟩⟩, rfl⟩
theorem laws_block {w : World} {g : Nat} {xs : List LawR} {t : TypeId} (h : w.heap[g]? = some (.cells (xs.flatMap LawR.cells).toArray t (0, 0))) (hn : xs.length ≤ 4096) (hl : ∀ x ∈ xs, LawAt w x.l x.a) : IsLaws w (some ⟨g, 0, none⟩) xs.length xs.length xs :=
 ⟨⟨⟨flat_len LawR.cells 18 LawR.len xs, rr, by unfold maxLen; omega, (fun h => by cases h), fun _ => ⟨g, 0, rfl, lt_of_block h, fun j v hv => by rw [Nat.zero_add]; exact cell_at_heap h (by simpa using hv)⟩⟩, rfl⟩, hl⟩
theorem ex25_c (w : World) : Calls Tryz.prog 107 #[] w (RetEx w) := by
 obtain ⟨aV, haV⟩ : ∃ a : LawA, a = { Al := none, cl := 0, Ar := none, cr := 0, Ai := some ⟨w.heap.size + 1 + 1 + 1, 0, none⟩, ci := 1, Ao := some ⟨w.heap.size + 1 + 1 + 1 + 1, 0, none⟩, co := 1 } := ⟨_, rfl⟩
 obtain ⟨aF, haF⟩ : ∃ a : LawA, a = { Al := none, cl := 0, Ar := none, cr := 0, Ai := some ⟨w.heap.size + 1 + 1 + 1 + 1 + 1, 0, none⟩, ci := 1, Ao := none, co := 0 } := ⟨_, rfl⟩
 go_enter Tryz.func107, Tryz.ntmps107
 go_wp2_with (refine build_law2 rfl (.tmp 17) (.tmp 21) rfl ⟨v25, aV⟩ ⟨f25, aF⟩ (by rw [haV]; rfl) (by rw [haF]; rfl) ?_)
 have key : ∀ W : World, W.heap[w.heap.size + 1 + 1 + 1]? = some (.cells #[.int .u32 2, .int .u32 0] 24 (0, 0)) → W.heap[w.heap.size + 1 + 1 + 1 + 1]? = some (.cells #[.int .i64 0, .int .u32 0, .int .u32 1, .int .u32 0, .int .u32 0, .int .i64 0] 30 (0, 0)) →
   W.heap[w.heap.size + 1 + 1 + 1 + 1 + 1]? = some (.cells #[.int .u32 4, .int .u32 0] 24 (0, 0)) → W.heap[w.heap.size + 1 + 1 + 1 + 1 + 1 + 1]? = some (.cells ((LawR.mk v25 aV).cells ++ (LawR.mk f25 aF).cells).toArray 34 (0, 0)) →
   IsLaws W (some ⟨w.heap.size + 1 + 1 + 1 + 1 + 1 + 1, 0, none⟩) 2 2 [⟨v25, aV⟩, ⟨f25, aF⟩] := by
  intro W h1 h2 h3 h4
  refine laws_block (xs := [⟨v25, aV⟩, ⟨f25, aF⟩]) (t := 34) (by simpa [List.flatMap_cons] using h4) (by simp) (fun x hx => ?_)
  simp only [List.mem_cons, List.not_mem_nil, or_false] at hx
  rcases hx with rfl | rfl
  ·subst haV
   exact ⟨FSl_nil _, FSl_nil _, one_word (s := (2, 0)) h1, one_out29 (o := ⟨0, 0, 1, 0, 0, 0⟩) h2, (by show v25.name.size ≤ _; decide)⟩
  ·subst haF
   exact ⟨FSl_nil _, FSl_nil _, one_word (s := (4, 0)) h3, ⟨Cells.nil _ _, rfl⟩, (by show f25.name.size ≤ _; decide)⟩
 subst haV haF
 refine bodyPost_ret (results_cell_hist Tryz.results107 _ _ w.heap.size (.slice (some ⟨w.heap.size + 1 + 1, 0, none⟩) 5 5) (.slice (some ⟨w.heap.size + 1 + 1 + 1 + 1 + 1 + 1, 0, none⟩) 2 2) (.slice (some ⟨w.heap.size + 1 + 1 + 1 + 1 + 1 + 1 + 1 + 1 + 1 + 1, 0, none⟩) 5 5) rfl ?hr) rfl ⟨some ⟨w.heap.size + 1 + 1, 0, none⟩, some ⟨w.heap.size + 1 + 1 + 1 + 1 + 1 + 1, 0, none⟩, some ⟨w.heap.size + 1 + 1 + 1 + 1 + 1 + 1 + 1 + 1 + 1 + 1, 0, none⟩, 5, 5, 5, 5, _, _, rfl, key _ ?h1 ?h2 ?h3 ?h4, bel⟩
 case hr => repeat (first | exact heap_new_at sd | rw [heap_old_at sd])
 case h1 => repeat (first | exact heap_new_at sd | rw [heap_old_at sd])
 case h2 => repeat (first | exact heap_new_at sd | rw [heap_old_at sd])
 case h3 => repeat (first | exact heap_new_at sd | rw [heap_old_at sd])
 case h4 => repeat (first | exact heap_new_at sd | rw [heap_old_at sd])
end Go.Proofs.YtlgliddhideflaaGreatDoor
