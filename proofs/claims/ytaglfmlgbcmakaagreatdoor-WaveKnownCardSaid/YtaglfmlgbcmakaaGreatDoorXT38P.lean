/-
  The last third of WaveKnown's walk: the long road, and a law that makes words longer.
-/
import Derived.Test.YtaglfmlgbcmakaaGreatDoorXWk38
set_option linter.all false
set_option maxRecDepth 100000
set_option maxHeartbeats 4000000
namespace Go.Proofs.YtaglfmlgbcmakaaGreatDoor
open Go.RowKit Go.Shelf
attribute [local go_sem] run_mk_w65 run_mk_l65 run_mk_l64 run_mk_s32
theorem kn_tail (C32 C33 : Code) (K : Act → World → Prop) {u0 u4 u5 u6 u7 u8 u9 u10 u11 u12 u13 u14 u15 u16 u17 u18 u19 u20 u21 u22 u23 u24 u25 u26 u27 u28 u31 u32 u33 u34 u35 u36 u37 u38 u39 u40 u41 u42 u43 u44 u45 u46 u47 u48 u49 u50 u51 u52 u53 u54 u55 u56 u57 u58 u59 u60 u61 u62 u63 u64 u65 u66 u67 u68 u69 u70 u71 u72 u73 u74 u75 u76 u77 u78 u79 u80 u81 u82 u83 u84 u85 u86 u87 u88 u89 u90 u91 u92 u93 u94 u95 u96 u97 u98 u99 u100 u101 u102 u103 u104 u105 u106 u107 u108 u109 u110 u111 u112 u113 u114 u115 u116 u117 u118 u119 u120 u121 u122 u123 u124 u125 u126 u127 u128 u129 u130 u131 u132 u133 u134 u135 u136 u137 u138 u139 u140 u141 u142 u143 u144 u145 u146 u147 u148 u149 u150 u151 u152 u153 u154 u155 u156 u157 u158 u159 u160 u161 u162 u163 u164 u165 u166 u167 u168 u169 u170 u171 u172 u173 u174 u175 u176 u177 u178 u179 u180 u181 u182 u183 u184 u185 u186 u187 u188 u189 u190 u191 u192 u193 u194 u195 u196 u197 u198 u199 u200 u201 u202 u203 u204 u205 u206 u207 u208 u209 u210 u211 u212 u213 u214 u215 u216 u217 u218 u219 u220 u221 u222 u223 u224 u225 u226 u227 u228 u229 u230 u231 u232 u233 u234 u235 u236 u237 u238 u239 u240 u241 u242 u243 u244 u245 u246 u247 u248 u249 u250 u251 u252 u253 u254 u255 u256 u257 u258 u259 u260 u261 u262 u263 u264 u265 u266 u267 u268 u269 u270 u271 u272 u273 u274 u275 u276 u277 u278 u279 u280 u281 u282 u283 u284 u285 u286 u287 u288 u289 u290 u291 u292 u293 u294 u295 u296 u297 u298 u299 u300 u301 u302 u303 u304 u305 u306 u307 u308 u309 u310 u311 u312 u313 u314 u315 u316 u317 u318 u319 u320 u321 u322 u323 u324 u325 u326 u327 u328 u329 u330 u331 u332 u333 u334 u335 u336 u337 u338 u339 u340 u341 u342 u343 u344 u345 u346 u347 u348 u349 u350 u351 u352 u353 u354 u355 u356 u357 u358 u359 u360 u361 u362 u363 u364 u365 u366 u367 u368 u369 u370 u371 u372 u373 u374 u375 u376 u377 u378 u379 u380 u381 u382 u383 u384 u385 u386 u387 u388 u389 u390 u391 u392 u393 u394 u395 u396 u397 u398 u399 u400 u401 u402 u403 u404 u405 u406 u407 u408 u409 u410 u411 u412 u413 u414 u415 u416 u417 u418 u419 u420 u421 u422 u423 u424 u425 u426 u427 u428 u429 u430 u431 u432 u433 u434 u435 u436 u437 u438 u439 u440 u441 u442 u443 u444 u445 u446 u447 u448 u449 u450 u451 u452 u453 u454 u455 u456 u457 u458 u459 u460 u461 u462 u463 u464 u465 u466 u467 u468 u469 u470 u471 u472 u473 u474 u475 u476 u477 u478 u479 u480 u481 u482 u483 u484 u485 u486 u487 u488 u489 u490 u491 u492 u493 u494 u495 u496 u497 u498 u499 u500 u501 u502 u503 u504 u505 u506 u507 u508 u509 u510 u511 u512 u513 u514 u515 : Value} {w wr : World} {b : Nat} {Al : Option Addr} {xs : List LawR} {Aw : Option Addr} {ys : List WaveR} {An : Option Addr} {cn : Nat} {Ar : Option Addr} {cr : Nat}
  (HLD : Hid (lawsD xs = [vD, fD])) (HYD : Hid (wavesD ys = [wv0, wv1])) (HS : Hid (KnS w b Al xs Aw ys wr)) (HSN : Hid (IsStrs wr An 128 cn (nmL 128))) (HSR : Hid (IsRoads wr Ar 127 cr (rdL 127)))
  (h33 : C33 = codeAt [1, 1, 1, 1, 1, 1, 1, 1, 1, 1, 1, 1, 1, 1, 1, 1, 1, 1] (bodyOf Tryz.f14)) (hK : ∀ a w', Code.wp Tryz.prog C33 (bodyPost Tryz.prog Tryz.f14 (RetTrue w)) a w' → K a w') (h32 : C32 = codeAt [1, 1, 1, 1, 1, 1, 1, 1, 1, 1, 1, 1, 1, 1, 1, 1, 1, 0] (bodyOf Tryz.f14)) :
  Code.wp Tryz.prog C32 (Exit.then K (bodyPost Tryz.prog Tryz.f14 (RetTrue w))) { tmps := #[u0, .pointer (some ⟨b, 0, none⟩), .slice Al 2 2, .slice Aw 2 2, u4, u5, u6, u7, u8, u9, u10, u11, u12, u13, u14, u15, u16, u17, u18, u19, u20, u21, u22, u23, u24, u25, u26, u27, u28, .slice An 128 cn, .slice Ar 127 cr, u31, u32, u33, u34, u35, u36, u37, u38, u39, u40, u41, u42, u43, u44, u45, u46, u47, u48, u49, u50, u51, u52, u53, u54, u55, u56, u57, u58, u59, u60, u61, u62, u63, u64, u65, u66, u67, u68, u69, u70, u71, u72, u73, u74, u75, u76, u77, u78, u79, u80, u81, u82, u83, u84, u85, u86, u87, u88, u89, u90, u91, u92, u93, u94, u95, u96, u97, u98, u99, u100, u101, u102, u103, u104, u105, u106, u107, u108, u109, u110, u111, u112, u113, u114, u115, u116, u117, u118, u119, u120, u121, u122, u123, u124, u125, u126, u127, u128, u129, u130, u131, u132, u133, u134, u135, u136, u137, u138, u139, u140, u141, u142, u143, u144, u145, u146, u147, u148, u149, u150, u151, u152, u153, u154, u155, u156, u157, u158, u159, u160, u161, u162, u163, u164, u165, u166, u167, u168, u169, u170, u171, u172, u173, u174, u175, u176, u177, u178, u179, u180, u181, u182, u183, u184, u185, u186, u187, u188, u189, u190, u191, u192, u193, u194, u195, u196, u197, u198, u199, u200, u201, u202, u203, u204, u205, u206, u207, u208, u209, u210, u211, u212, u213, u214, u215, u216, u217, u218, u219, u220, u221, u222, u223, u224, u225, u226, u227, u228, u229, u230, u231, u232, u233, u234, u235, u236, u237, u238, u239, u240, u241, u242, u243, u244, u245, u246, u247, u248, u249, u250, u251, u252, u253, u254, u255, u256, u257, u258, u259, u260, u261, u262, u263, u264, u265, u266, u267, u268, u269, u270, u271, u272, u273, u274, u275, u276, u277, u278, u279, u280, u281, u282, u283, u284, u285, u286, u287, u288, u289, u290, u291, u292, u293, u294, u295, u296, u297, u298, u299, u300, u301, u302, u303, u304, u305, u306, u307, u308, u309, u310, u311, u312, u313, u314, u315, u316, u317, u318, u319, u320, u321, u322, u323, u324, u325, u326, u327, u328, u329, u330, u331, u332, u333, u334, u335, u336, u337, u338, u339, u340, u341, u342, u343, u344, u345, u346, u347, u348, u349, u350, u351, u352, u353, u354, u355, u356, u357, u358, u359, u360, u361, u362, u363, u364, u365, u366, u367, u368, u369, u370, u371, u372, u373, u374, u375, u376, u377, u378, u379, u380, u381, u382, u383, u384, u385, u386, u387, u388, u389, u390, u391, u392, u393, u394, u395, u396, u397, u398, u399, u400, u401, u402, u403, u404, u405, u406, u407, u408, u409, u410, u411, u412, u413, u414, u415, u416, u417, u418, u419, u420, u421, u422, u423, u424, u425, u426, u427, u428, u429, u430, u431, u432, u433, u434, u435, u436, u437, u438, u439, u440, u441, u442, u443, u444, u445, u446, u447, u448, u449, u450, u451, u452, u453, u454, u455, u456, u457, u458, u459, u460, u461, u462, u463, u464, u465, u466, u467, u468, u469, u470, u471, u472, u473, u474, u475, u476, u477, u478, u479, u480, u481, u482, u483, u484, u485, u486, u487, u488, u489, u490, u491, u492, u493, u494, u495, u496, u497, u498, u499, u500, u501, u502, u503, u504, u505, u506, u507, u508, u509, u510, u511, u512, u513, u514, u515], defers := [] } wr := by
 conv at h32 => rhs; whnf
 conv at h33 => rhs; whnf
 subst h32 h33
 go_wp2_with fail
 refine (new_c An 128 cn (nmL 128) Ar 127 cr (rdL 127) wr HSN.out HSR.out).mono ?_
 rintro e Y1 ⟨⟨h0, -⟩ | ⟨-, be2, rfl, hmp⟩, hb⟩
 ·exact absurd long_new h0
 rw [nm_len, rd_long] at hmp
 have HML := hI hmp
 replace HS := hI (HS.out.step hb)
 clear hmp hb HSN HSR
 go_wp2_with fail
 have hi1 : IsInts (Y1.alloc (.cells #[.int .i64 0] 3)) (some ⟨Y1.heap.size, 0, none⟩) 1 1 [0] := builtC Y1 [.int .i64 0] _ 1 1 rfl (by decide)
 have hb : Below Y1.heap.size Y1 (Y1.alloc (.cells #[.int .i64 0] 3)) := (Below.refl _ Y1).alloc rr _
 have HR := hI (arriveP_c ⟨longW, some ⟨Y1.heap.size, 0, none⟩, 1, 1⟩ (mp_of (HML.out.below hb)) ⟨hi1, longW_u⟩)
 obtain ⟨L1, hL1, hl1, hm0, hm7, hm8, hm127⟩ := kn_long
 rw [show (⟨longW, some ⟨Y1.heap.size, 0, none⟩, 1, 1⟩ : WaveR).d = longW from rfl, hL1] at HR
 refine HR.out.mono ?_
 rintro e Y2 ⟨A1', n1', c1', rfl, hi, hb2⟩
 obtain rfl : 128 = n1' := by rw [← hi.len, hl1]
 have HI1 := hI hi
 have HC1 := hI (And.intro hm0 (And.intro hm7 (And.intro hm8 hm127)))
 replace hb := hb.trans (hb2.mono hb.size)
 replace HS := hI (HS.out.step hb)
 clear HR hL1 hl1 hm0 hm7 hm8 hm127 hi hi1 hb hb2 HML
 go_wp2_with fail
 have hi1 : IsInts (Y2.alloc (.cells #[.int .i64 0, .int .i64 2] 3)) (some ⟨Y2.heap.size, 0, none⟩) 2 2 [0, 2] := builtC Y2 [.int .i64 0, .int .i64 2] _ 2 1 rfl (by decide)
 have hb : Below Y2.heap.size Y2 (Y2.alloc (.cells #[.int .i64 0, .int .i64 2] 3)) := (Below.refl _ Y2).alloc rr _
 have HR := hI (arriveP_c ⟨⟨0, [0, 2], 7, 2, 13⟩, some ⟨Y2.heap.size, 0, none⟩, 2, 2⟩ (mp_of (HS.out.m.below hb)) ⟨hi1, (show WaveU ⟨0, [0, 2], 7, 2, 13⟩ from ⟨by decide, by decide, by decide, by decide, by decide⟩)⟩)
 rw [show (⟨⟨0, [0, 2], 7, 2, 13⟩, some ⟨Y2.heap.size, 0, none⟩, 2, 2⟩ : WaveR).d = ⟨0, [0, 2], 7, 2, 13⟩ from rfl, kn_arr2] at HR
 refine HR.out.mono ?_
 rintro e Y3 ⟨A2', n2', c2', rfl, hi, hb2⟩
 have HI2 := hI hi
 replace hb := hb.trans (hb2.mono hb.size)
 replace HS := hI (HS.out.step hb)
 clear HR hi hi1 hb2
 replace HI1 := hI (HI1.out.below hb rr)
 clear hb
 go_wp2_with fail
 have hi1 : IsInts (Y3.alloc (.cells #[.int .i64 0, .int .i64 2] 3)) (some ⟨Y3.heap.size, 0, none⟩) 2 2 [0, 2] := builtC Y3 [.int .i64 0, .int .i64 2] _ 2 1 rfl (by decide)
 have hb : Below Y3.heap.size Y3 (Y3.alloc (.cells #[.int .i64 0, .int .i64 2] 3)) := (Below.refl _ Y3).alloc rr _
 have HR := hI (arriveP_c ⟨⟨0, [0, 2], 7, 0, 7⟩, some ⟨Y3.heap.size, 0, none⟩, 2, 2⟩ (mp_of (HS.out.m.below hb)) ⟨hi1, (show WaveU ⟨0, [0, 2], 7, 0, 7⟩ from ⟨by decide, by decide, by decide, by decide, by decide⟩)⟩)
 rw [show (⟨⟨0, [0, 2], 7, 0, 7⟩, some ⟨Y3.heap.size, 0, none⟩, 2, 2⟩ : WaveR).d = ⟨0, [0, 2], 7, 0, 7⟩ from rfl, kn_arr3] at HR
 refine HR.out.mono ?_
 rintro e Y4 ⟨A3', n3', c3', rfl, hi, hb2⟩
 have HI3 := hI hi
 replace hb := hb.trans (hb2.mono hb.size)
 replace HS := hI (HS.out.step hb)
 clear HR hi hi1 hb2
 replace HI1 := hI (HI1.out.below hb rr)
 replace HI2 := hI (HI2.out.below hb rr)
 clear hb
 go_wp2_with fail
 have HR := hI (arriveP_c ⟨⟨0, [], 7, 0, 99⟩, none, 0, 0⟩ (mp_of HS.out.m) ⟨Cells.nil _ _, (show WaveU ⟨0, [], 7, 0, 99⟩ from ⟨by decide, by decide, by decide, by decide, by decide⟩)⟩)
 rw [show (⟨⟨0, [], 7, 0, 99⟩, none, 0, 0⟩ : WaveR).d = ⟨0, [], 7, 0, 99⟩ from rfl, kn_arr4] at HR
 refine HR.out.mono ?_
 rintro e Y5 ⟨A4', n4', c4', rfl, hi, hb⟩
 have HI4 := hI hi
 replace HS := hI (HS.out.step hb)
 replace HI1 := hI (HI1.out.below hb rr)
 replace HI2 := hI (HI2.out.below hb rr)
 replace HI3 := hI (HI3.out.below hb rr)
 clear HR hi hb
 obtain ⟨lb, lo, rfl, hlb, hlc⟩ := HI1.out.2.2.2.2 (by decide)
 have k0 := hlc 0 (.int .i64 5) (by rw [List.getElem?_map, HC1.out.1]; rfl)
 have k7 := hlc 7 (.int .i64 8070450532247928837) (by rw [List.getElem?_map, HC1.out.2.1]; rfl)
 have k8 := hlc 8 (.int .i64 (-1)) (by rw [List.getElem?_map, HC1.out.2.2.1]; rfl)
 have k127 := hlc 127 (.int .i64 (-1)) (by rw [List.getElem?_map, HC1.out.2.2.2]; rfl)
 rw [Nat.add_zero] at k0
 clear hlc HI1 HC1
 go_wp2_with fail
 have hj : IsInts (Y5.alloc (.cells #[.int .i64 7, .int .i64 (-1), .int .i64 7, .int .i64 9, .int .i64 (-1)] 2)) (some ⟨Y5.heap.size, 0, none⟩) 5 5 [7, -1, 7, 9, -1] := builtC Y5 [.int .i64 7, .int .i64 (-1), .int .i64 7, .int .i64 9, .int .i64 (-1)] _ 5 1 rfl (by decide)
 have hb : Below Y5.heap.size Y5 (Y5.alloc (.cells #[.int .i64 7, .int .i64 (-1), .int .i64 7, .int .i64 9, .int .i64 (-1)] 2)) := (Below.refl _ Y5).alloc rr _
 refine (times38_c A2' _ n2' _ c2' _ [7, -1, 7, 9, -1] [7, -1, 7, 9, -1] _ (HI2.out.below hb rr) hj).mono ?_
 rw [show decide (([7, -1, 7, 9, -1] : List Int) = [7, -1, 7, 9, -1]) = true from decide_eq_true rfl]
 rintro e Z1 ⟨rfl, hb2⟩
 replace hb := hb.trans (hb2.mono hb.size)
 replace HS := hI (HS.out.step hb)
 clear hj hb2
 replace HI3 := hI (HI3.out.below hb rr)
 replace HI4 := hI (HI4.out.below hb rr)
 clear hb HI2
 go_wp2_with fail
 have hj : IsInts (Z1.alloc (.cells #[.int .i64 (-1), .int .i64 (-1), .int .i64 (-1), .int .i64 (-1), .int .i64 (-1)] 2)) (some ⟨Z1.heap.size, 0, none⟩) 5 5 [-1, -1, -1, -1, -1] := builtC Z1 [.int .i64 (-1), .int .i64 (-1), .int .i64 (-1), .int .i64 (-1), .int .i64 (-1)] _ 5 1 rfl (by decide)
 have hb : Below Z1.heap.size Z1 (Z1.alloc (.cells #[.int .i64 (-1), .int .i64 (-1), .int .i64 (-1), .int .i64 (-1), .int .i64 (-1)] 2)) := (Below.refl _ Z1).alloc rr _
 refine (times38_c A3' _ n3' _ c3' _ [-1, -1, -1, -1, -1] [-1, -1, -1, -1, -1] _ (HI3.out.below hb rr) hj).mono ?_
 rw [show decide (([-1, -1, -1, -1, -1] : List Int) = [-1, -1, -1, -1, -1]) = true from decide_eq_true rfl]
 rintro e Z2 ⟨rfl, hb2⟩
 replace hb := hb.trans (hb2.mono hb.size)
 replace HS := hI (HS.out.step hb)
 clear hj hb2
 replace HI4 := hI (HI4.out.below hb rr)
 clear hb HI3
 go_wp2_with fail
 have hj : IsInts (Z2.alloc (.cells #[.int .i64 (-1), .int .i64 (-1), .int .i64 (-1), .int .i64 (-1), .int .i64 (-1)] 2)) (some ⟨Z2.heap.size, 0, none⟩) 5 5 [-1, -1, -1, -1, -1] := builtC Z2 [.int .i64 (-1), .int .i64 (-1), .int .i64 (-1), .int .i64 (-1), .int .i64 (-1)] _ 5 1 rfl (by decide)
 have hb : Below Z2.heap.size Z2 (Z2.alloc (.cells #[.int .i64 (-1), .int .i64 (-1), .int .i64 (-1), .int .i64 (-1), .int .i64 (-1)] 2)) := (Below.refl _ Z2).alloc rr _
 refine (times38_c A4' _ n4' _ c4' _ [-1, -1, -1, -1, -1] [-1, -1, -1, -1, -1] _ (HI4.out.below hb rr) hj).mono ?_
 rw [show decide (([-1, -1, -1, -1, -1] : List Int) = [-1, -1, -1, -1, -1]) = true from decide_eq_true rfl]
 rintro e Z3 ⟨rfl, hb2⟩
 replace hb := hb.trans (hb2.mono hb.size)
 replace HS := hI (HS.out.step hb)
 clear hj hb2
 clear hb HI4
 go_wp2_with fail
 have HR := hI (crossedP_c 0 2 (mp_of HS.out.m) HS.out.l HS.out.v HS.out.t)
 rw [HLD.out, HYD.out, kn_e1] at HR
 refine HR.out.mono ?_
 clear HR
 rintro e Z4 ⟨A5', n5', c5', rfl, hi, hb⟩
 replace HS := hI (HS.out.step hb)
 clear hi hb
 go_wp2_with fail
 have HR := hI (crossedP_c (-1) 0 (mp_of HS.out.m) HS.out.l HS.out.v HS.out.t)
 rw [HLD.out, HYD.out, kn_e2] at HR
 refine HR.out.mono ?_
 clear HR
 rintro e Z5 ⟨A5', n5', c5', rfl, hi, hb⟩
 replace HS := hI (HS.out.step hb)
 clear hi hb
 go_wp2_with fail
 have HR := hI (lineP_c 5 0 (mp_of HS.out.m) HS.out.l HS.out.v HS.out.t (.inl (by omega)))
 rw [HLD.out, HYD.out, kn_e3] at HR
 refine HR.out.mono ?_
 clear HR
 rintro e Z6 ⟨A5', n5', c5', rfl, hi, hb⟩
 replace HS := hI (HS.out.step hb)
 clear hi hb
 go_wp2_with fail
 refine (exA_c Z6).mono ?_
 rintro e Z7 ⟨rfl, hb⟩
 replace HS := hI (HS.out.step hb)
 clear hb
 go_wp2_with (refine store_law rfl (.tmp 48) (.tmp 467) rfl (Z7.heap.size + 1) growD { Al := none, cl := 0, Ar := none, cr := 0, Ai := none, ci := 0, Ao := some ⟨Z7.heap.size, 0, none⟩, co := 1 } rfl rfl (t := 55) (by repeat (first | exact heap_new_at sd | rw [heap_old_at sd])) rfl ?hst)
 case hst =>
  intro Z8 g1 g2 g3
  have h2 := (g2.block Z7.heap.size (by simp; omega) (by omega)).trans (show _ = some (.cells #[.int .i64 (-1), .int .u32 0, .int .u32 5, .int .u32 2, .int .u32 0, .int .i64 0] 104 (0, 0)) by repeat (first | exact heap_new_at sd | rw [heap_old_at sd]))
  have hg : ∃ ag : LawA, Z8.heap[Z7.heap.size + 1]? = some (.cells (lawCs growD ag) 55 (0, 0)) ∧ LawAt Z8 growD ag := by
   refine ⟨_, g1, FSl_nil _, FSl_nil _, Cells.nil _ _, ⟨⟨rfl, rr, (by decide : 1 ≤ maxLen), (fun h => by cases h), fun _ => ⟨Z7.heap.size, 0, rfl, lt_of_block h2, fun j v hv => ?_⟩⟩, rfl⟩, by decide⟩
   rw [Nat.zero_add]
   refine cell_at_heap h2 ?_
   have hv' : [Value.int .i64 (-1), .int .u32 0, .int .u32 5, .int .u32 2, .int .u32 0, .int .i64 0][j]? = some v := hv
   simpa using hv'
  obtain ⟨ag, hg⟩ := hg
  have HG := hI hg
  clear hg
  have hb : Below Z7.heap.size Z7 Z8 := Below.trans bel (g2.to_below (B := Z7.heap.size) (fun k hk => by omega) (by simp; omega))
  replace HS := hI (HS.out.step hb)
  obtain ⟨gb, hgb⟩ : ∃ x, x = Z7.heap.size + 1 := ⟨_, rfl⟩
  rw [← hgb] at HG ⊢
  clear g1 g2 g3 h2 hb hgb
  go_wp2_with fail
  refine region_inv (by kernel_rfl) (by kernel_rfl) (phiG b ag 0 11 0) _ Z8 (fun j v w w' h hb => phiG_below h hb) ?hstep473 ?hrest473
  case hstep473 =>
   intro i o ho a w' hs hb
   have hi13 : i < 13 := (Array.getElem?_eq_some_iff.1 ho).1
   have hi : i = 0 ∨ i = 1 ∨ i = 2 ∨ i = 3 ∨ i = 4 ∨ i = 5 ∨ i = 6 ∨ i = 7 ∨ i = 8 ∨ i = 9 ∨ i = 10 ∨ i = 11 ∨ i = 12 := by omega
   clear hi13
   have hq1 := hs.2.1 1 (noDst_spec (by kernel_rfl))
   have hq48 := hs.2.1 48 (noDst_spec (by kernel_rfl))
   simp only [List.getElem?_toArray, List.getElem?_cons_zero, List.getElem?_cons_succ] at hq1 hq48
   have hbb := hb
   clear hb
   rcases hi with rfl | rfl | rfl | rfl | rfl | rfl | rfl | rfl | rfl | rfl | rfl | rfl | rfl
   ·simp only [List.getElem?_toArray, List.getElem?_cons_zero, List.getElem?_cons_succ, Option.some.injEq] at ho
    have e1 := ev_of hq1
    clear hs
    subst ho
    unfold Oper.wp
    go_simp
    exact ⟨_, rfl, rfl, Below.refl _ _⟩
   ·simp only [List.getElem?_toArray, List.getElem?_cons_zero, List.getElem?_cons_succ, Option.some.injEq] at ho
    have e1 := ev_of hq48
    clear hs
    subst ho
    have hr := run_load_law ((hbb.block gb (lt_of_block HG.out.1)).trans HG.out.1)
    unfold Oper.wp execOp
    simp only [e1, Instr.loadAt, Instr.sureAddr, Sem.run_bind, Sem.run_pure, Result.andThen_ok, hr]
    exact ⟨_, rfl, ⟨rfl, HG.out.2.below hbb rr⟩, Below.refl _ _⟩
   ·simp only [List.getElem?_toArray, List.getElem?_cons_zero, List.getElem?_cons_succ, Option.some.injEq] at ho
    obtain ⟨v1, hv1, hat1⟩ := hs.1 1 (by rw [← ho]; exact ⟨_, Array.mem_of_getElem? (i := 0) rfl, rfl, rfl⟩)
    have hs1 := hat1 _ (by rfl) (of_decide_eq_true (by kernel_rfl))
    obtain ⟨rfl, hla⟩ := hv1
    have e1 := ev_of hs1
    clear hs
    subst ho
    have hr := run_build1 ⟨growD, ag⟩ w'
    unfold Oper.wp execOp
    simp only [List.map_toArray, List.map_cons, List.map_nil, e1, hr, Sem.run_bind, Sem.run_pure, Result.andThen_ok]
    exact ⟨_, rfl, ⟨w'.heap.size, rfl, built_laws1 w' ⟨growD, ag⟩ _ hla⟩, (Below.refl _ w').alloc rr _⟩
   ·simp only [List.getElem?_toArray, List.getElem?_cons_zero, List.getElem?_cons_succ, Option.some.injEq] at ho
    clear hs
    subst ho
    unfold Oper.wp
    go_simp
    exact ⟨_, rfl, ⟨w'.heap.size, rfl, builtC w' [.int .i64 4] _ 1 1 rfl (by decide)⟩, (Below.refl _ w').alloc rr _⟩
   ·simp only [List.getElem?_toArray, List.getElem?_cons_zero, List.getElem?_cons_succ, Option.some.injEq] at ho
    obtain ⟨v3, hv3, hat3⟩ := hs.1 3 (by rw [← ho]; exact ⟨_, Array.mem_of_getElem? (i := 0) rfl, rfl, rfl⟩)
    have hs3 := hat3 _ (by rfl) (of_decide_eq_true (by kernel_rfl))
    obtain ⟨x3, rfl, hx3⟩ := hv3
    have e1 := ev_of hs3
    clear hs
    subst ho
    unfold Oper.wp
    go_simp
    exact ⟨_, rfl, ⟨x3, rfl, hx3, (show WaveU (growW 0) from ⟨by decide, by decide, by decide, by decide, by decide⟩)⟩, Below.refl _ _⟩
   ·simp only [List.getElem?_toArray, List.getElem?_cons_zero, List.getElem?_cons_succ, Option.some.injEq] at ho
    obtain ⟨v4, hv4, hat4⟩ := hs.1 4 (by rw [← ho]; exact ⟨_, Array.mem_of_getElem? (i := 0) rfl, rfl, rfl⟩)
    have hs4 := hat4 _ (by rfl) (of_decide_eq_true (by kernel_rfl))
    obtain ⟨x4, rfl, hx4⟩ := hv4
    have e1 : a.eval (.tmp 473) = .agg #[.int .i64 0, .slice (some ⟨x4, 0, none⟩) 1 1, .int .i64 0, .int .i64 0, .int .i64 9] := ev_of hs4
    clear hs
    subst ho
    unfold Oper.wp
    go_simp
    exact ⟨_, rfl, ⟨x4, w'.heap.size, rfl, wave1 w' ⟨growW 0, some ⟨x4, 0, none⟩, 1, 1⟩ _ hx4⟩, (Below.refl _ w').alloc rr _⟩
   ·simp only [List.getElem?_toArray, List.getElem?_cons_zero, List.getElem?_cons_succ, Option.some.injEq] at ho
    clear hs
    subst ho
    unfold Oper.wp
    go_simp
    exact ⟨_, rfl, ⟨w'.heap.size, rfl, builtC w' (wcells z32) _ 32 2 rfl (by decide)⟩, (Below.refl _ w').alloc rr _⟩
   ·simp only [List.getElem?_toArray, List.getElem?_cons_zero, List.getElem?_cons_succ, Option.some.injEq] at ho
    obtain ⟨v0, hv0, hat0⟩ := hs.1 0 (by rw [← ho]; exact ⟨_, Array.mem_of_getElem? (i := 0) rfl, rfl, rfl⟩)
    have hs0 := hat0 _ (by rfl) (of_decide_eq_true (by kernel_rfl))
    obtain ⟨v2, hv2, hat2⟩ := hs.1 2 (by rw [← ho]; exact ⟨_, Array.mem_of_getElem? (i := 1) rfl, rfl, rfl⟩)
    have hs2 := hat2 _ (by rfl) (of_decide_eq_true (by kernel_rfl))
    obtain ⟨v5, hv5, hat5⟩ := hs.1 5 (by rw [← ho]; exact ⟨_, Array.mem_of_getElem? (i := 2) rfl, rfl, rfl⟩)
    have hs5 := hat5 _ (by rfl) (of_decide_eq_true (by kernel_rfl))
    obtain ⟨v6, hv6, hat6⟩ := hs.1 6 (by rw [← ho]; exact ⟨_, Array.mem_of_getElem? (i := 3) rfl, rfl, rfl⟩)
    have hs6 := hat6 _ (by rfl) (of_decide_eq_true (by kernel_rfl))
    obtain rfl : v0 = .pointer (some ⟨b, 0, none⟩) := hv0
    obtain ⟨x2, rfl, hx2⟩ := hv2
    obtain ⟨x5, y5, rfl, hx5⟩ := hv5
    obtain ⟨x6, rfl, hx6⟩ := hv6
    have e0 := ev_of hs0
    have e2 := ev_of hs2
    have e5 := ev_of hs5
    have e6 := ev_of hs6
    clear hs
    subst ho
    have HR := hI (formsP_c 0 (mp_of (HS.out.step hbb).m) hx2 hx5 hx6 (HS.out.step hbb).t (.inl (by omega)))
    unfold Oper.wp
    go_simp
    refine HR.out.mono ?_
    intro e w3 h3
    obtain ⟨L, hL, hn⟩ := kn_f1'
    rw [show lawsD [⟨growD, ag⟩] = [growD] from rfl, show wavesD [⟨growW 0, some ⟨x5, 0, none⟩, 1, 1⟩] = [⟨0, [4], 0, 0, 9⟩] from rfl, hL] at h3
    obtain ⟨A, c, rfl, hb3⟩ := formsD_len hn h3
    exact ⟨_, rfl, ⟨A, c, rfl⟩, hb3⟩
   ·simp only [List.getElem?_toArray, List.getElem?_cons_zero, List.getElem?_cons_succ, Option.some.injEq] at ho
    obtain ⟨v7, hv7, hat7⟩ := hs.1 7 (by rw [← ho]; exact ⟨_, Array.mem_of_getElem? (i := 0) rfl, rfl, rfl⟩)
    have hs7 := hat7 _ (by rfl) (of_decide_eq_true (by kernel_rfl))
    obtain ⟨A7, c7, rfl⟩ := hv7
    have e1 := ev_of hs7
    clear hs
    subst ho
    unfold Oper.wp
    go_simp
    exact ⟨_, rfl, ⟨A7, c7, rfl⟩, Below.refl _ _⟩
   ·simp only [List.getElem?_toArray, List.getElem?_cons_zero, List.getElem?_cons_succ, Option.some.injEq] at ho
    obtain ⟨v8, hv8, hat8⟩ := hs.1 8 (by rw [← ho]; exact ⟨_, Array.mem_of_getElem? (i := 0) rfl, rfl, rfl⟩)
    have hs8 := hat8 _ (by rfl) (of_decide_eq_true (by kernel_rfl))
    obtain ⟨A7, c7, rfl⟩ := hv8
    have e1 := ev_of hs8
    clear hs
    subst ho
    unfold Oper.wp
    go_simp
    exact ⟨_, rfl, ⟨A7, c7, rfl⟩, Below.refl _ _⟩
   ·simp only [List.getElem?_toArray, List.getElem?_cons_zero, List.getElem?_cons_succ, Option.some.injEq] at ho
    obtain ⟨v8, hv8, hat8⟩ := hs.1 8 (by rw [← ho]; exact ⟨_, Array.mem_of_getElem? (i := 0) rfl, rfl, rfl⟩)
    have hs8 := hat8 _ (by rfl) (of_decide_eq_true (by kernel_rfl))
    obtain ⟨A7, c7, rfl⟩ := hv8
    have e1 := ev_of hs8
    clear hs
    subst ho
    unfold Oper.wp
    go_simp
    exact ⟨_, rfl, rfl, Below.refl _ _⟩
   ·simp only [List.getElem?_toArray, List.getElem?_cons_zero, List.getElem?_cons_succ, Option.some.injEq] at ho
    obtain ⟨v9, hv9, hat9⟩ := hs.1 9 (by rw [← ho]; exact ⟨_, Array.mem_of_getElem? (i := 0) rfl, rfl, rfl⟩)
    have hs9 := hat9 _ (by rfl) (of_decide_eq_true (by kernel_rfl))
    obtain ⟨A7, c7, rfl⟩ := hv9
    have e1 := ev_of hs9
    clear hs
    subst ho
    unfold Oper.wp
    go_simp
    exact ⟨_, rfl, ⟨A7, c7, rfl⟩, Below.refl _ _⟩
   ·simp only [List.getElem?_toArray, List.getElem?_cons_zero, List.getElem?_cons_succ, Option.some.injEq] at ho
    obtain ⟨v10, hv10, hat10⟩ := hs.1 10 (by rw [← ho]; exact ⟨_, Array.mem_of_getElem? (i := 0) rfl, rfl, rfl⟩)
    have hs10 := hat10 _ (by rfl) (of_decide_eq_true (by kernel_rfl))
    obtain rfl : v10 = .int .i64 11 := hv10
    have e1 := ev_of hs10
    clear hs
    subst ho
    unfold Oper.wp
    go_simp
    exact ⟨_, rfl, rfl, Below.refl _ _⟩
  intro vs Z9 hall hb
  obtain ⟨A9, c9, e11⟩ := hall 11 (by decide)
  have e12 : vs 12 = .int .i64 11 := hall 12 (by decide)
  replace HS := hI (HS.out.step hb)
  replace HG := hI (And.intro ((hb.block gb (lt_of_block HG.out.1)).trans HG.out.1) (HG.out.2.below hb rr))
  simp only [List.size_toArray, List.length_cons, List.length_nil, putAll, dstOf, List.getElem?_toArray, List.getElem?_cons_zero, List.getElem?_cons_succ, Option.bind_some, Option.map_some, e11, e12]
  simp only [nA, nB, nC, nD, nE, nF]
  clear hb hall e11 e12
  generalize vs 0 = z0, vs 1 = z1, vs 2 = z2, vs 3 = z3, vs 4 = z4, vs 5 = z5, vs 6 = z6, vs 7 = z7, vs 8 = z8, vs 9 = z9, vs 10 = z10
  go_wp2_with fail
  refine region_inv (by kernel_rfl) (by kernel_rfl) (phiG b ag 1 0 5) _ Z9 (fun j v w w' h hb => phiG_below h hb) ?hstep484 ?hrest484
  case hstep484 =>
   intro i o ho a w' hs hb
   have hi13 : i < 13 := (Array.getElem?_eq_some_iff.1 ho).1
   have hi : i = 0 ∨ i = 1 ∨ i = 2 ∨ i = 3 ∨ i = 4 ∨ i = 5 ∨ i = 6 ∨ i = 7 ∨ i = 8 ∨ i = 9 ∨ i = 10 ∨ i = 11 ∨ i = 12 := by omega
   clear hi13
   have hq1 := hs.2.1 1 (noDst_spec (by kernel_rfl))
   have hq48 := hs.2.1 48 (noDst_spec (by kernel_rfl))
   simp only [List.getElem?_toArray, List.getElem?_cons_zero, List.getElem?_cons_succ] at hq1 hq48
   have hbb := hb
   clear hb
   rcases hi with rfl | rfl | rfl | rfl | rfl | rfl | rfl | rfl | rfl | rfl | rfl | rfl | rfl
   ·simp only [List.getElem?_toArray, List.getElem?_cons_zero, List.getElem?_cons_succ, Option.some.injEq] at ho
    have e1 := ev_of hq1
    clear hs
    subst ho
    unfold Oper.wp
    go_simp
    exact ⟨_, rfl, rfl, Below.refl _ _⟩
   ·simp only [List.getElem?_toArray, List.getElem?_cons_zero, List.getElem?_cons_succ, Option.some.injEq] at ho
    have e1 := ev_of hq48
    clear hs
    subst ho
    have hr := run_load_law ((hbb.block gb (lt_of_block HG.out.1)).trans HG.out.1)
    unfold Oper.wp execOp
    simp only [e1, Instr.loadAt, Instr.sureAddr, Sem.run_bind, Sem.run_pure, Result.andThen_ok, hr]
    exact ⟨_, rfl, ⟨rfl, HG.out.2.below hbb rr⟩, Below.refl _ _⟩
   ·simp only [List.getElem?_toArray, List.getElem?_cons_zero, List.getElem?_cons_succ, Option.some.injEq] at ho
    obtain ⟨v1, hv1, hat1⟩ := hs.1 1 (by rw [← ho]; exact ⟨_, Array.mem_of_getElem? (i := 0) rfl, rfl, rfl⟩)
    have hs1 := hat1 _ (by rfl) (of_decide_eq_true (by kernel_rfl))
    obtain ⟨rfl, hla⟩ := hv1
    have e1 := ev_of hs1
    clear hs
    subst ho
    have hr := run_build1 ⟨growD, ag⟩ w'
    unfold Oper.wp execOp
    simp only [List.map_toArray, List.map_cons, List.map_nil, e1, hr, Sem.run_bind, Sem.run_pure, Result.andThen_ok]
    exact ⟨_, rfl, ⟨w'.heap.size, rfl, built_laws1 w' ⟨growD, ag⟩ _ hla⟩, (Below.refl _ w').alloc rr _⟩
   ·simp only [List.getElem?_toArray, List.getElem?_cons_zero, List.getElem?_cons_succ, Option.some.injEq] at ho
    clear hs
    subst ho
    unfold Oper.wp
    go_simp
    exact ⟨_, rfl, ⟨w'.heap.size, rfl, builtC w' [.int .i64 4] _ 1 1 rfl (by decide)⟩, (Below.refl _ w').alloc rr _⟩
   ·simp only [List.getElem?_toArray, List.getElem?_cons_zero, List.getElem?_cons_succ, Option.some.injEq] at ho
    obtain ⟨v3, hv3, hat3⟩ := hs.1 3 (by rw [← ho]; exact ⟨_, Array.mem_of_getElem? (i := 0) rfl, rfl, rfl⟩)
    have hs3 := hat3 _ (by rfl) (of_decide_eq_true (by kernel_rfl))
    obtain ⟨x3, rfl, hx3⟩ := hv3
    have e1 := ev_of hs3
    clear hs
    subst ho
    unfold Oper.wp
    go_simp
    exact ⟨_, rfl, ⟨x3, rfl, hx3, (show WaveU (growW 1) from ⟨by decide, by decide, by decide, by decide, by decide⟩)⟩, Below.refl _ _⟩
   ·simp only [List.getElem?_toArray, List.getElem?_cons_zero, List.getElem?_cons_succ, Option.some.injEq] at ho
    obtain ⟨v4, hv4, hat4⟩ := hs.1 4 (by rw [← ho]; exact ⟨_, Array.mem_of_getElem? (i := 0) rfl, rfl, rfl⟩)
    have hs4 := hat4 _ (by rfl) (of_decide_eq_true (by kernel_rfl))
    obtain ⟨x4, rfl, hx4⟩ := hv4
    have e1 : a.eval (.tmp 484) = .agg #[.int .i64 0, .slice (some ⟨x4, 0, none⟩) 1 1, .int .i64 1, .int .i64 0, .int .i64 9] := ev_of hs4
    clear hs
    subst ho
    unfold Oper.wp
    go_simp
    exact ⟨_, rfl, ⟨x4, w'.heap.size, rfl, wave1 w' ⟨growW 1, some ⟨x4, 0, none⟩, 1, 1⟩ _ hx4⟩, (Below.refl _ w').alloc rr _⟩
   ·simp only [List.getElem?_toArray, List.getElem?_cons_zero, List.getElem?_cons_succ, Option.some.injEq] at ho
    clear hs
    subst ho
    unfold Oper.wp
    go_simp
    exact ⟨_, rfl, ⟨w'.heap.size, rfl, builtC w' (wcells z32) _ 32 2 rfl (by decide)⟩, (Below.refl _ w').alloc rr _⟩
   ·simp only [List.getElem?_toArray, List.getElem?_cons_zero, List.getElem?_cons_succ, Option.some.injEq] at ho
    obtain ⟨v0, hv0, hat0⟩ := hs.1 0 (by rw [← ho]; exact ⟨_, Array.mem_of_getElem? (i := 0) rfl, rfl, rfl⟩)
    have hs0 := hat0 _ (by rfl) (of_decide_eq_true (by kernel_rfl))
    obtain ⟨v2, hv2, hat2⟩ := hs.1 2 (by rw [← ho]; exact ⟨_, Array.mem_of_getElem? (i := 1) rfl, rfl, rfl⟩)
    have hs2 := hat2 _ (by rfl) (of_decide_eq_true (by kernel_rfl))
    obtain ⟨v5, hv5, hat5⟩ := hs.1 5 (by rw [← ho]; exact ⟨_, Array.mem_of_getElem? (i := 2) rfl, rfl, rfl⟩)
    have hs5 := hat5 _ (by rfl) (of_decide_eq_true (by kernel_rfl))
    obtain ⟨v6, hv6, hat6⟩ := hs.1 6 (by rw [← ho]; exact ⟨_, Array.mem_of_getElem? (i := 3) rfl, rfl, rfl⟩)
    have hs6 := hat6 _ (by rfl) (of_decide_eq_true (by kernel_rfl))
    obtain rfl : v0 = .pointer (some ⟨b, 0, none⟩) := hv0
    obtain ⟨x2, rfl, hx2⟩ := hv2
    obtain ⟨x5, y5, rfl, hx5⟩ := hv5
    obtain ⟨x6, rfl, hx6⟩ := hv6
    have e0 := ev_of hs0
    have e2 := ev_of hs2
    have e5 := ev_of hs5
    have e6 := ev_of hs6
    clear hs
    subst ho
    have HR := hI (formsP_c 0 (mp_of (HS.out.step hbb).m) hx2 hx5 hx6 (HS.out.step hbb).t (.inl (by omega)))
    unfold Oper.wp
    go_simp
    refine HR.out.mono ?_
    intro e w3 h3
    obtain ⟨L, hL, hn⟩ := kn_f2
    rw [show lawsD [⟨growD, ag⟩] = [growD] from rfl, show wavesD [⟨growW 1, some ⟨x5, 0, none⟩, 1, 1⟩] = [⟨0, [4], 1, 0, 9⟩] from rfl, hL] at h3
    obtain ⟨A, c, rfl, hb3⟩ := formsD_len hn h3
    exact ⟨_, rfl, ⟨A, c, rfl⟩, hb3⟩
   ·simp only [List.getElem?_toArray, List.getElem?_cons_zero, List.getElem?_cons_succ, Option.some.injEq] at ho
    obtain ⟨v7, hv7, hat7⟩ := hs.1 7 (by rw [← ho]; exact ⟨_, Array.mem_of_getElem? (i := 0) rfl, rfl, rfl⟩)
    have hs7 := hat7 _ (by rfl) (of_decide_eq_true (by kernel_rfl))
    obtain ⟨A7, c7, rfl⟩ := hv7
    have e1 := ev_of hs7
    clear hs
    subst ho
    unfold Oper.wp
    go_simp
    exact ⟨_, rfl, ⟨A7, c7, rfl⟩, Below.refl _ _⟩
   ·simp only [List.getElem?_toArray, List.getElem?_cons_zero, List.getElem?_cons_succ, Option.some.injEq] at ho
    obtain ⟨v8, hv8, hat8⟩ := hs.1 8 (by rw [← ho]; exact ⟨_, Array.mem_of_getElem? (i := 0) rfl, rfl, rfl⟩)
    have hs8 := hat8 _ (by rfl) (of_decide_eq_true (by kernel_rfl))
    obtain ⟨A7, c7, rfl⟩ := hv8
    have e1 := ev_of hs8
    clear hs
    subst ho
    unfold Oper.wp
    go_simp
    exact ⟨_, rfl, ⟨A7, c7, rfl⟩, Below.refl _ _⟩
   ·simp only [List.getElem?_toArray, List.getElem?_cons_zero, List.getElem?_cons_succ, Option.some.injEq] at ho
    obtain ⟨v8, hv8, hat8⟩ := hs.1 8 (by rw [← ho]; exact ⟨_, Array.mem_of_getElem? (i := 0) rfl, rfl, rfl⟩)
    have hs8 := hat8 _ (by rfl) (of_decide_eq_true (by kernel_rfl))
    obtain ⟨A7, c7, rfl⟩ := hv8
    have e1 := ev_of hs8
    clear hs
    subst ho
    unfold Oper.wp
    go_simp
    exact ⟨_, rfl, rfl, Below.refl _ _⟩
   ·simp only [List.getElem?_toArray, List.getElem?_cons_zero, List.getElem?_cons_succ, Option.some.injEq] at ho
    obtain ⟨v9, hv9, hat9⟩ := hs.1 9 (by rw [← ho]; exact ⟨_, Array.mem_of_getElem? (i := 0) rfl, rfl, rfl⟩)
    have hs9 := hat9 _ (by rfl) (of_decide_eq_true (by kernel_rfl))
    obtain ⟨A7, c7, rfl⟩ := hv9
    have e1 := ev_of hs9
    clear hs
    subst ho
    unfold Oper.wp
    go_simp
    exact ⟨_, rfl, ⟨A7, c7, rfl⟩, Below.refl _ _⟩
   ·simp only [List.getElem?_toArray, List.getElem?_cons_zero, List.getElem?_cons_succ, Option.some.injEq] at ho
    obtain ⟨v10, hv10, hat10⟩ := hs.1 10 (by rw [← ho]; exact ⟨_, Array.mem_of_getElem? (i := 0) rfl, rfl, rfl⟩)
    have hs10 := hat10 _ (by rfl) (of_decide_eq_true (by kernel_rfl))
    obtain rfl : v10 = .int .i64 0 := hv10
    have e1 := ev_of hs10
    clear hs
    subst ho
    unfold Oper.wp
    go_simp
    exact ⟨_, rfl, rfl, Below.refl _ _⟩
  intro vs ZA hall hb
  obtain ⟨A9, c9, e11⟩ := hall 11 (by decide)
  have e12 : vs 12 = .int .i64 0 := hall 12 (by decide)
  replace HS := hI (HS.out.step hb)
  replace HG := hI (And.intro ((hb.block gb (lt_of_block HG.out.1)).trans HG.out.1) (HG.out.2.below hb rr))
  simp only [List.size_toArray, List.length_cons, List.length_nil, putAll, dstOf, List.getElem?_toArray, List.getElem?_cons_zero, List.getElem?_cons_succ, Option.bind_some, Option.map_some, e11, e12]
  simp only [nA, nB, nC, nD, nE, nF]
  clear hb hall e11 e12
  generalize vs 0 = z0, vs 1 = z1, vs 2 = z2, vs 3 = z3, vs 4 = z4, vs 5 = z5, vs 6 = z6, vs 7 = z7, vs 8 = z8, vs 9 = z9, vs 10 = z10
  go_wp2_with fail
  refine (works38_c ZA HS.out.t).mono ?_
  rintro e ZB ⟨rfl, hb⟩
  replace HS := hI (HS.out.step hb)
  clear hb
  go_wp2_with fail
  go_ret
  exact ⟨rfl, HS.out.b⟩
end Go.Proofs.YtaglfmlgbcmakaaGreatDoor
