/-
  A round of WaveKnown's loop: a wave that is valid.
-/
import Derived.Test.YtaglfmlgbcmakaaGreatDoorH07
set_option linter.all false
set_option maxRecDepth 100000
set_option maxHeartbeats 4000000
namespace Go.Proofs.YtaglfmlgbcmakaaGreatDoor
open Go.RowKit Go.Shelf
attribute [local go_sem] run_mk_w65 run_mk_l65 run_mk_l64 run_mk_s32
theorem kn_body0 (C : Code) {Q : Exit → Act → World → Prop} {u0 u4 u6 u7 u8 u9 u10 u11 u12 u13 u14 u15 u16 u17 u18 u19 u20 u21 u22 u23 u24 u25 u26 u27 u28 u29 u30 u31 u32 u33 u34 u35 u36 u37 u38 u39 u40 u41 u42 u43 u44 u45 u46 u47 u48 u49 u50 u51 u52 u53 u54 u55 u56 u57 u58 u59 u60 u61 u62 u63 u64 u65 u66 u67 u68 u69 u70 u71 u72 u73 u74 u75 u76 u77 u78 u79 u80 u81 u82 u83 u84 u85 u86 u87 u88 u89 u90 u91 u92 u93 u94 u95 u96 u97 u98 u99 u100 u101 u102 u103 u104 u105 u106 u107 u108 u109 u110 u111 u112 u113 u114 u115 u116 u117 u118 u119 u120 u121 u122 u123 u124 u125 u126 u127 u128 u129 u130 u131 u132 u133 u134 u135 u136 u137 u138 u139 u140 u141 u142 u143 u144 u145 u146 u147 u148 u149 u150 u151 u152 u153 u154 u155 u156 u157 u158 u159 u160 u161 u162 u163 u164 u165 u166 u167 u168 u169 u170 u171 u172 u173 u174 u175 u176 u177 u178 u179 u180 u181 u182 u183 u184 u185 u186 u187 u188 u189 u190 u191 u192 u193 u194 u195 u196 u197 u198 u199 u200 u201 u202 u203 u204 u205 u206 u207 u208 u209 u210 u211 u212 u213 u214 u215 u216 u217 u218 u219 u220 u221 u222 u223 u224 u225 u226 u227 u228 u229 u230 u231 u232 u233 u234 u235 u237 u239 u240 u241 u242 u243 u244 u245 u246 u247 u248 u249 u250 u251 u252 u253 u254 u255 u256 u257 u258 u259 u260 u261 u262 u263 u264 u265 u266 u267 u268 u269 u270 u271 u272 u273 u274 u275 u276 u277 u278 u279 u280 u281 u282 u283 u284 u285 u286 u287 u288 u289 u290 u291 u292 u293 u294 u295 u296 u297 u298 u299 u300 u301 u302 u303 u304 u305 u306 u307 u308 u309 u310 u311 u312 u313 u314 u315 u316 u317 u318 u319 u320 u321 u322 u323 u324 u325 u326 u327 u328 u329 u330 u331 u332 u333 u334 u335 u336 u337 u338 u339 u340 u341 u342 u343 u344 u345 u346 u347 u348 u349 u350 u351 u352 u353 u354 u355 u356 u357 u358 u359 u360 u361 u362 u363 u364 u365 u366 u367 u368 u369 u370 u371 u372 u373 u374 u375 u376 u377 u378 u379 u380 u381 u382 u383 u384 u385 u386 u387 u388 u389 u390 u391 u392 u393 u394 u395 u396 u397 u398 u399 u400 u401 u402 u403 u404 u405 u406 u407 u408 u409 u410 u411 u412 u413 u414 u415 u416 u417 u418 u419 u420 u421 u422 u423 u424 u425 u426 u427 u428 u429 u430 u431 u432 u433 u434 u435 u436 u437 u438 u439 u440 u441 u442 u443 u444 u445 u446 u447 u448 u449 u450 u451 u452 u453 u454 u455 u456 u457 u458 u459 u460 u461 u462 u463 u464 u465 u466 u467 u468 u469 u470 u471 u472 u473 u474 u475 u476 u477 u478 u479 u480 u481 u482 u483 u484 u485 u486 u487 u488 u489 u490 u491 u492 u493 u494 u495 u496 u497 u498 u499 u500 u501 u502 u503 u504 u505 u506 u507 u508 u509 u510 u511 u512 u513 u514 u515 : Value} {ds : List Deferred} {w wr : World} {b bb pc yb yo k : Nat} {Al : Option Addr} {xs : List LawR} {Aw0 : Option Addr} {n0 c0 : Nat} {y1 : WaveR} {cs : List CaseR} {law T S fin : Int} {ps : List Int} {Aq : Option Addr} {nq cq : Nat} {fr : Int}
  (HLD : Hid (lawsD xs = [vD, fD])) (HS : Hid (KnS w b Al xs (some ⟨yb, yo, none⟩) [⟨wv0, Aw0, n0, c0⟩, y1] wr)) (HWB : Hid (IsWord wr (some ⟨bb, 0, none⟩) 1 1 [sBad])) (HKC : Hid (KnC wr (some ⟨pc, 0, none⟩) cs)) (HAT : Hid (WaveAt wr ⟨⟨law, ps, T, S, fin⟩, Aq, nq, cq⟩))
  (HE : Hid (waveE 5 [vD, fD] [⟨law, ps, T, S, fin⟩] = 0)) (HF : Hid ((arriveM 5 exRoadN ⟨law, ps, T, S, fin⟩).1 = fr)) (HLE : Hid ((lineM 5 exRoadN [vD, fD] [⟨law, ps, T, S, fin⟩] 9 0).1 = 3)) (HFE : Hid ((formsM38 5 exRoadN [vD, fD] [wv0, ⟨law, ps, T, S, fin⟩] [sBad] 0).1 = 14))
  (hlt : k < 8) (hlt' : (k : Int) < 8) (k0 : wr.cell? ⟨pc, k * 7, none⟩ = some (.int .i64 law)) (k1 : wr.cell? ⟨pc, k * 7 + 1, none⟩ = some (.slice Aq nq cq)) (k2 : wr.cell? ⟨pc, k * 7 + 2, none⟩ = some (.int .i64 T)) (k3 : wr.cell? ⟨pc, k * 7 + 3, none⟩ = some (.int .i64 S))
  (k4 : wr.cell? ⟨pc, k * 7 + 4, none⟩ = some (.int .i64 fin)) (k5 : wr.cell? ⟨pc, k * 7 + 5, none⟩ = some (.int .i64 0)) (k6 : wr.cell? ⟨pc, k * 7 + 6, none⟩ = some (.int .i64 fr))
  (hQ : ∀ W', Hid (KnS w b Al xs (some ⟨yb, yo, none⟩) [⟨wv0, Aw0, n0, c0⟩, y1] W') → Hid (IsWord W' (some ⟨bb, 0, none⟩) 1 1 [sBad]) → Hid (KnC W' (some ⟨pc, 0, none⟩) cs) → ∀ (v22 v23 v24 v25 v26 v27 v28 v240 v241 v242 v243 v244 v245 v246 v247 v248 v249 v250 v251 v252 v253 v254 v255 v256 v257 v258 v259 v260 v261 v262 v263 v264 v265 v266 v267 v268 v269 v270 v271 v272 v273 v274 v275 v276 v277 v278 v279 v280 v281 v282 v283 v284 v285 v286 v287 v288 v289 v290 v291 v292 v293 v294 v295 v296 v297 v298 v299 v300 v301 v302 v303 v304 v305 v306 v307 v308 v309 v310 v311 v312 v313 v314 v315 : Value), Q .normal { tmps := #[u0, .pointer (some ⟨b, 0, none⟩), .slice Al 2 2, .slice (some ⟨yb, yo, none⟩) 2 2, u4, .slice (some ⟨bb, 0, none⟩) 1 1, u6, u7, u8, u9, u10, u11, u12, u13, u14, u15, u16, u17, u18, u19, u20, u21, v22, v23, v24, v25, v26, v27, v28, u29, u30, u31, u32, u33, u34, u35, u36, u37, u38, u39, u40, u41, u42, u43, u44, u45, u46, u47, u48, u49, u50, u51, u52, u53, u54, u55, u56, u57, u58, u59, u60, u61, u62, u63, u64, u65, u66, u67, u68, u69, u70, u71, u72, u73, u74, u75, u76, u77, u78, u79, u80, u81, u82, u83, u84, u85, u86, u87, u88, u89, u90, u91, u92, u93, u94, u95, u96, u97, u98, u99, u100, u101, u102, u103, u104, u105, u106, u107, u108, u109, u110, u111, u112, u113, u114, u115, u116, u117, u118, u119, u120, u121, u122, u123, u124, u125, u126, u127, u128, u129, u130, u131, u132, u133, u134, u135, u136, u137, u138, u139, u140, u141, u142, u143, u144, u145, u146, u147, u148, u149, u150, u151, u152, u153, u154, u155, u156, u157, u158, u159, u160, u161, u162, u163, u164, u165, u166, u167, u168, u169, u170, u171, u172, u173, u174, u175, u176, u177, u178, u179, u180, u181, u182, u183, u184, u185, u186, u187, u188, u189, u190, u191, u192, u193, u194, u195, u196, u197, u198, u199, u200, u201, u202, u203, u204, u205, u206, u207, u208, u209, u210, u211, u212, u213, u214, u215, u216, u217, u218, u219, u220, u221, u222, u223, u224, u225, u226, u227, u228, u229, u230, u231, u232, u233, u234, u235, .slice (some ⟨pc, 0, none⟩) 8 8, u237, .int .i64 (k : Int), u239, v240, v241, v242, v243, v244, v245, v246, v247, v248, v249, v250, v251, v252, v253, v254, v255, v256, v257, v258, v259, v260, v261, v262, v263, v264, v265, v266, v267, v268, v269, v270, v271, v272, v273, v274, v275, v276, v277, v278, v279, v280, v281, v282, v283, v284, v285, v286, v287, v288, v289, v290, v291, v292, v293, v294, v295, v296, v297, v298, v299, v300, v301, v302, v303, v304, v305, v306, v307, v308, v309, v310, v311, v312, v313, v314, v315, u316, u317, u318, u319, u320, u321, u322, u323, u324, u325, u326, u327, u328, u329, u330, u331, u332, u333, u334, u335, u336, u337, u338, u339, u340, u341, u342, u343, u344, u345, u346, u347, u348, u349, u350, u351, u352, u353, u354, u355, u356, u357, u358, u359, u360, u361, u362, u363, u364, u365, u366, u367, u368, u369, u370, u371, u372, u373, u374, u375, u376, u377, u378, u379, u380, u381, u382, u383, u384, u385, u386, u387, u388, u389, u390, u391, u392, u393, u394, u395, u396, u397, u398, u399, u400, u401, u402, u403, u404, u405, u406, u407, u408, u409, u410, u411, u412, u413, u414, u415, u416, u417, u418, u419, u420, u421, u422, u423, u424, u425, u426, u427, u428, u429, u430, u431, u432, u433, u434, u435, u436, u437, u438, u439, u440, u441, u442, u443, u444, u445, u446, u447, u448, u449, u450, u451, u452, u453, u454, u455, u456, u457, u458, u459, u460, u461, u462, u463, u464, u465, u466, u467, u468, u469, u470, u471, u472, u473, u474, u475, u476, u477, u478, u479, u480, u481, u482, u483, u484, u485, u486, u487, u488, u489, u490, u491, u492, u493, u494, u495, u496, u497, u498, u499, u500, u501, u502, u503, u504, u505, u506, u507, u508, u509, u510, u511, u512, u513, u514, u515], defers := ds } W')
  (hC : C = codeAt [1, 1, 1, 1, 1, 1, 1, 1, 1, 1, 1, 1, 1, 0, 1, 2, 2, 1, 1, 0] (bodyOf Tryz.f14)) :
  Code.wp Tryz.prog C (nrm Q) { tmps := #[u0, .pointer (some ⟨b, 0, none⟩), .slice Al 2 2, .slice (some ⟨yb, yo, none⟩) 2 2, u4, .slice (some ⟨bb, 0, none⟩) 1 1, u6, u7, u8, u9, u10, u11, u12, u13, u14, u15, u16, u17, u18, u19, u20, u21, u22, u23, u24, u25, u26, u27, u28, u29, u30, u31, u32, u33, u34, u35, u36, u37, u38, u39, u40, u41, u42, u43, u44, u45, u46, u47, u48, u49, u50, u51, u52, u53, u54, u55, u56, u57, u58, u59, u60, u61, u62, u63, u64, u65, u66, u67, u68, u69, u70, u71, u72, u73, u74, u75, u76, u77, u78, u79, u80, u81, u82, u83, u84, u85, u86, u87, u88, u89, u90, u91, u92, u93, u94, u95, u96, u97, u98, u99, u100, u101, u102, u103, u104, u105, u106, u107, u108, u109, u110, u111, u112, u113, u114, u115, u116, u117, u118, u119, u120, u121, u122, u123, u124, u125, u126, u127, u128, u129, u130, u131, u132, u133, u134, u135, u136, u137, u138, u139, u140, u141, u142, u143, u144, u145, u146, u147, u148, u149, u150, u151, u152, u153, u154, u155, u156, u157, u158, u159, u160, u161, u162, u163, u164, u165, u166, u167, u168, u169, u170, u171, u172, u173, u174, u175, u176, u177, u178, u179, u180, u181, u182, u183, u184, u185, u186, u187, u188, u189, u190, u191, u192, u193, u194, u195, u196, u197, u198, u199, u200, u201, u202, u203, u204, u205, u206, u207, u208, u209, u210, u211, u212, u213, u214, u215, u216, u217, u218, u219, u220, u221, u222, u223, u224, u225, u226, u227, u228, u229, u230, u231, u232, u233, u234, u235, .slice (some ⟨pc, 0, none⟩) 8 8, u237, .int .i64 (k : Int), u239, u240, u241, u242, u243, u244, u245, u246, u247, u248, u249, u250, u251, u252, u253, u254, u255, u256, u257, u258, u259, u260, u261, u262, u263, u264, u265, u266, u267, u268, u269, u270, u271, u272, u273, u274, u275, u276, u277, u278, u279, u280, u281, u282, u283, u284, u285, u286, u287, u288, u289, u290, u291, u292, u293, u294, u295, u296, u297, u298, u299, u300, u301, u302, u303, u304, u305, u306, u307, u308, u309, u310, u311, u312, u313, u314, u315, u316, u317, u318, u319, u320, u321, u322, u323, u324, u325, u326, u327, u328, u329, u330, u331, u332, u333, u334, u335, u336, u337, u338, u339, u340, u341, u342, u343, u344, u345, u346, u347, u348, u349, u350, u351, u352, u353, u354, u355, u356, u357, u358, u359, u360, u361, u362, u363, u364, u365, u366, u367, u368, u369, u370, u371, u372, u373, u374, u375, u376, u377, u378, u379, u380, u381, u382, u383, u384, u385, u386, u387, u388, u389, u390, u391, u392, u393, u394, u395, u396, u397, u398, u399, u400, u401, u402, u403, u404, u405, u406, u407, u408, u409, u410, u411, u412, u413, u414, u415, u416, u417, u418, u419, u420, u421, u422, u423, u424, u425, u426, u427, u428, u429, u430, u431, u432, u433, u434, u435, u436, u437, u438, u439, u440, u441, u442, u443, u444, u445, u446, u447, u448, u449, u450, u451, u452, u453, u454, u455, u456, u457, u458, u459, u460, u461, u462, u463, u464, u465, u466, u467, u468, u469, u470, u471, u472, u473, u474, u475, u476, u477, u478, u479, u480, u481, u482, u483, u484, u485, u486, u487, u488, u489, u490, u491, u492, u493, u494, u495, u496, u497, u498, u499, u500, u501, u502, u503, u504, u505, u506, u507, u508, u509, u510, u511, u512, u513, u514, u515], defers := ds } wr := by
 conv at hC => rhs; whnf
 subst hC
 go_wp2_with fail
 have hxb : (wr.alloc (.cells #[.int .i64 law, .slice Aq nq cq, .int .i64 T, .int .i64 S, .int .i64 fin, .int .i64 0, .int .i64 fr] 100)).heap[wr.heap.size]? = some (.cells #[.int .i64 law, .slice Aq nq cq, .int .i64 T, .int .i64 S, .int .i64 fin, .int .i64 0, .int .i64 fr] 100 (0, 0)) := heap_new_at rfl
 have hb : Below wr.heap.size wr (wr.alloc (.cells #[.int .i64 law, .slice Aq nq cq, .int .i64 T, .int .i64 S, .int .i64 fin, .int .i64 0, .int .i64 fr] 100)) := (Below.refl _ wr).alloc rr _
 replace HS := hI (HS.out.step hb)
 replace HWB := hI (HWB.out.below hb rr)
 replace HKC := hI (HKC.out.below hb)
 replace HAT := hI (HAT.out.below hb)
 have HXB := hI hxb
 obtain ⟨x, hx⟩ : ∃ x, x = wr.heap.size := ⟨_, rfl⟩
 rw [← hx] at HXB ⊢
 clear hxb hb hx k0 k1 k2 k3 k4 k5 k6
 generalize wr.alloc (.cells #[.int .i64 law, .slice Aq nq cq, .int .i64 T, .int .i64 S, .int .i64 fin, .int .i64 0, .int .i64 fr] 100) = R0 at *
 have HR := hI (arriveP_c ⟨⟨law, ps, T, S, fin⟩, Aq, nq, cq⟩ (mp_of HS.out.m) HAT.out)
 obtain ⟨LA, hLA⟩ : ∃ L, arriveM 5 exRoadN ⟨law, ps, T, S, fin⟩ = (fr, L) := ⟨_, Prod.ext HF.out rfl⟩
 rw [show (⟨⟨law, ps, T, S, fin⟩, Aq, nq, cq⟩ : WaveR).d = ⟨law, ps, T, S, fin⟩ from rfl, hLA] at HR
 refine HR.out.mono ?_
 clear HR hLA
 rintro e R1 ⟨A1', n1', c1', rfl, -, hb⟩
 replace HS := hI (HS.out.step hb)
 replace HWB := hI (HWB.out.below hb rr)
 replace HKC := hI (HKC.out.below hb)
 replace HAT := hI (HAT.out.below hb)
 replace HXB := hI ((hb.block x (lt_of_block HXB.out)).trans HXB.out)
 clear hb
 have k0 := cell_at_heap (j := 0) HXB.out rfl
 have k1 := cell_at_heap (j := 1) HXB.out rfl
 have k2 := cell_at_heap (j := 2) HXB.out rfl
 have k3 := cell_at_heap (j := 3) HXB.out rfl
 have k4 := cell_at_heap (j := 4) HXB.out rfl
 have k5 := cell_at_heap (j := 5) HXB.out rfl
 have k6 := cell_at_heap (j := 6) HXB.out rfl
 go_wp2_with fail
 clear k0 k1 k2 k3 k4 k5 k6
 have hw1 := wave1 R1 ⟨⟨law, ps, T, S, fin⟩, Aq, nq, cq⟩ 38 HAT.out
 have hb : Below R1.heap.size R1 (R1.alloc (.cells #[.int .i64 law, .slice Aq nq cq, .int .i64 T, .int .i64 S, .int .i64 fin] 38)) := (Below.refl _ R1).alloc rr _
 have HR := hI (lineP_c 9 0 (mp_of (HS.out.step hb).m) (HS.out.step hb).l hw1 (HS.out.step hb).t (.inl (by omega)))
 obtain ⟨LL, hLL⟩ : ∃ L, lineM 5 exRoadN [vD, fD] [⟨law, ps, T, S, fin⟩] 9 0 = (3, L) := ⟨_, Prod.ext HLE.out rfl⟩
 rw [HLD.out, show wavesD [⟨⟨law, ps, T, S, fin⟩, Aq, nq, cq⟩] = [⟨law, ps, T, S, fin⟩] from rfl, hLL] at HR
 refine HR.out.mono ?_
 clear HR hLL
 rintro e R2 ⟨A2', n2', c2', rfl, -, hb2⟩
 replace hb := hb.trans (hb2.mono hb.size)
 replace HS := hI (HS.out.step hb)
 replace HWB := hI (HWB.out.below hb rr)
 replace HKC := hI (HKC.out.below hb)
 replace HAT := hI (HAT.out.below hb)
 replace HXB := hI ((hb.block x (lt_of_block HXB.out)).trans HXB.out)
 clear hb hb2 hw1
 have HSS : Hid (∀ W', Below R2.heap.size R2 W' → (W'.cell? ⟨yb, yo, none⟩ = some (.int .i64 0) ∧ W'.cell? ⟨yb, yo + 1, none⟩ = some (.slice Aw0 n0 c0) ∧ W'.cell? ⟨yb, yo + 2, none⟩ = some (.int .i64 2) ∧ W'.cell? ⟨yb, yo + 3, none⟩ = some (.int .i64 1) ∧ W'.cell? ⟨yb, yo + 4, none⟩ = some (.int .i64 100)) ∧ (W'.cell? ⟨x, 0, none⟩ = some (.int .i64 law) ∧ W'.cell? ⟨x, 1, none⟩ = some (.slice Aq nq cq) ∧ W'.cell? ⟨x, 2, none⟩ = some (.int .i64 T) ∧ W'.cell? ⟨x, 3, none⟩ = some (.int .i64 S) ∧ W'.cell? ⟨x, 4, none⟩ = some (.int .i64 fin) ∧ W'.cell? ⟨x, 5, none⟩ = some (.int .i64 0) ∧ W'.cell? ⟨x, 6, none⟩ = some (.int .i64 fr))) := fun W' h => ⟨wv0_cells (HS.out.step h).v, by
  have hg := (h.block x (lt_of_block HXB.out)).trans HXB.out
  exact ⟨cell_at_heap hg rfl, cell_at_heap hg rfl, cell_at_heap hg rfl, cell_at_heap hg rfl, cell_at_heap hg rfl, cell_at_heap hg rfl, cell_at_heap hg rfl⟩⟩
 go_wp2_with fail
 refine plain_region (fun W' => (W'.cell? ⟨yb, yo, none⟩ = some (.int .i64 0) ∧ W'.cell? ⟨yb, yo + 1, none⟩ = some (.slice Aw0 n0 c0) ∧ W'.cell? ⟨yb, yo + 2, none⟩ = some (.int .i64 2) ∧ W'.cell? ⟨yb, yo + 3, none⟩ = some (.int .i64 1) ∧ W'.cell? ⟨yb, yo + 4, none⟩ = some (.int .i64 100)) ∧ (W'.cell? ⟨x, 0, none⟩ = some (.int .i64 law) ∧ W'.cell? ⟨x, 1, none⟩ = some (.slice Aq nq cq) ∧ W'.cell? ⟨x, 2, none⟩ = some (.int .i64 T) ∧ W'.cell? ⟨x, 3, none⟩ = some (.int .i64 S) ∧ W'.cell? ⟨x, 4, none⟩ = some (.int .i64 fin) ∧ W'.cell? ⟨x, 5, none⟩ = some (.int .i64 0) ∧ W'.cell? ⟨x, 6, none⟩ = some (.int .i64 fr))) (by kernel_rfl) (HSS.out _ (Below.refl _ R2).drew) (fun hHeld => ?_)
 (refine' anyT_tk 0 rfl ?_; (try simp only [Act.put, nY, nX])); (refine' anyT_tk 1 rfl ?_; (try simp only [Act.put, nY, nX])); (refine' anyT_tk 2 rfl ?_; (try simp only [Act.put, nY, nX])); (refine' anyT_tk 3 rfl ?_; (try simp only [Act.put, nY, nX])); (refine' anyT_tk 4 rfl ?_; (try simp only [Act.put, nY, nX])); (refine' anyT_tk 5 rfl ?_; (try simp only [Act.put, nY, nX])); (refine' anyT_tk 6 rfl ?_; (try simp only [Act.put, nY, nX])); (refine' anyT_tk 8 rfl ?_; (try simp only [Act.put, nY, nX]))
 clear hHeld
 refine anyT_sp 7 rfl (fun K' hK' => ?_)
 rw [if_pos (by rfl)]
 refine wp_value (.slice (some ⟨R2.heap.size, 0, none⟩) 2 2) (R2.drew.alloc (.cells #[.int .i64 0, .slice Aw0 n0 c0, .int .i64 2, .int .i64 1, .int .i64 100, .int .i64 law, .slice Aq nq cq, .int .i64 T, .int .i64 S, .int .i64 fin] 38)) (by kernel_rfl) ?_
 have hd : Below R2.heap.size R2 R2.drew := (Below.refl _ _).drew
 have hb : Below R2.heap.size R2 (R2.drew.alloc (.cells #[.int .i64 0, .slice Aw0 n0 c0, .int .i64 2, .int .i64 1, .int .i64 100, .int .i64 law, .slice Aq nq cq, .int .i64 T, .int .i64 S, .int .i64 fin] 38)) := hd.alloc hd.size _
 refine hK' _ _ ⟨.inr (HSS.out _ hb), fun _ => ?_⟩
 clear hK' K'
 (try simp only [Act.put, nY, nX])
 refine anyT_sp 9 rfl (fun K' hK' => ?_)
 rw [if_pos (by rfl)]
 have hw2 := wave2 R2.drew ⟨wv0, Aw0, n0, c0⟩ ⟨⟨law, ps, T, S, fin⟩, Aq, nq, cq⟩ 38 ((HS.out.step hd).v.2 _ (by simp)) (HAT.out.below hd)
 have HR := hI (formsP_c 0 (mp_of (HS.out.step hb).m) (HS.out.step hb).l hw2 (HWB.out.below hb rr) (HS.out.step hb).t (.inl (by omega)))
 obtain ⟨LF, hLF⟩ : ∃ L, formsM38 5 exRoadN [vD, fD] [wv0, ⟨law, ps, T, S, fin⟩] [sBad] 0 = (14, L) := ⟨_, Prod.ext HFE.out rfl⟩
 rw [HLD.out, show wavesD [⟨wv0, Aw0, n0, c0⟩, ⟨⟨law, ps, T, S, fin⟩, Aq, nq, cq⟩] = [wv0, ⟨law, ps, T, S, fin⟩] from rfl, hLF] at HR
 refine wp_enter 18 #[.pointer (some ⟨b, 0, none⟩), .slice Al 2 2, .slice (some ⟨R2.heap.size, 0, none⟩) 2 2, .slice (some ⟨bb, 0, none⟩) 1 1, .int .i64 0] (by kernel_rfl) HR.out ?_
 clear HR hLF hw2
 rintro e R3 ⟨A3', c3', ps3, rfl, -, -, -, -, hb2⟩
 replace hb := hb.trans (hb2.mono hb.size)
 refine ⟨_, rfl, hK' _ _ ⟨.inr (HSS.out _ hb), fun _ => ?_⟩⟩
 clear hK' K'
 (try simp only [Act.put, nY, nX])
 have hS := HSS.out _ hb
 (refine' anyT_tk 10 rfl ?_; (try simp only [Act.put, nY, nX])); (refine' anyT_tk 11 rfl ?_; (try simp only [Act.put, nY, nX])); (refine' anyT_tk 12 rfl ?_; (try simp only [Act.put, nY, nX])); (refine' anyT_tk 13 rfl ?_; (try simp only [Act.put, nY, nX]))
 clear hS
 refine anyT_sp 14 rfl (fun K' hK' => ?_)
 rw [if_pos (by rfl)]
 refine wp_value (.int .i64 14) R3 (by kernel_rfl) ?_
 refine hK' _ _ ⟨.inl (by kernel_rfl), fun _ => anyT_done (by kernel_rfl) ?_ _⟩
 clear hK' K'
 (try simp only [Act.put, nY, nX])
 replace HS := hI (HS.out.step hb)
 replace HWB := hI (HWB.out.below hb rr)
 replace HKC := hI (HKC.out.below hb)
 replace HAT := hI (HAT.out.below hb)
 replace HXB := hI ((hb.block x (lt_of_block HXB.out)).trans HXB.out)
 clear hb hb2 hd HSS
 have HSS : Hid (∀ W', Below R3.heap.size R3 W' → W'.cell? ⟨x, 0, none⟩ = some (.int .i64 law) ∧ W'.cell? ⟨x, 1, none⟩ = some (.slice Aq nq cq) ∧ W'.cell? ⟨x, 2, none⟩ = some (.int .i64 T) ∧ W'.cell? ⟨x, 3, none⟩ = some (.int .i64 S) ∧ W'.cell? ⟨x, 4, none⟩ = some (.int .i64 fin) ∧ W'.cell? ⟨x, 5, none⟩ = some (.int .i64 0) ∧ W'.cell? ⟨x, 6, none⟩ = some (.int .i64 fr)) := fun W' h => by
  have hg := (h.block x (lt_of_block HXB.out)).trans HXB.out
  exact ⟨cell_at_heap hg rfl, cell_at_heap hg rfl, cell_at_heap hg rfl, cell_at_heap hg rfl, cell_at_heap hg rfl, cell_at_heap hg rfl, cell_at_heap hg rfl⟩
 go_wp2_with fail
 refine plain_region (fun W' => W'.cell? ⟨x, 0, none⟩ = some (.int .i64 law) ∧ W'.cell? ⟨x, 1, none⟩ = some (.slice Aq nq cq) ∧ W'.cell? ⟨x, 2, none⟩ = some (.int .i64 T) ∧ W'.cell? ⟨x, 3, none⟩ = some (.int .i64 S) ∧ W'.cell? ⟨x, 4, none⟩ = some (.int .i64 fin) ∧ W'.cell? ⟨x, 5, none⟩ = some (.int .i64 0) ∧ W'.cell? ⟨x, 6, none⟩ = some (.int .i64 fr)) (by kernel_rfl) (HSS.out _ (Below.refl _ R3).drew) (fun hHeld => ?_)
 (refine' anyT_tk 0 rfl ?_; (try simp only [Act.put, nY, nX])); (refine' anyT_tk 1 rfl ?_; (try simp only [Act.put, nY, nX])); (refine' anyT_tk 2 rfl ?_; (try simp only [Act.put, nY, nX])); (refine' anyT_tk 3 rfl ?_; (try simp only [Act.put, nY, nX])); (refine' anyT_tk 6 rfl ?_; (try simp only [Act.put, nY, nX])); (refine' anyT_tk 7 rfl ?_; (try simp only [Act.put, nY, nX]))
 clear hHeld
 refine anyT_sp 4 rfl (fun K' hK' => ?_)
 rw [if_pos (by rfl)]
 refine wp_value (.slice (some ⟨R3.heap.size, 0, none⟩) 1 1) (R3.drew.alloc (.cells #[.int .i64 law, .slice Aq nq cq, .int .i64 T, .int .i64 S, .int .i64 fin] 38)) (by kernel_rfl) ?_
 have hd : Below R3.heap.size R3 R3.drew := (Below.refl _ _).drew
 have hb : Below R3.heap.size R3 (R3.drew.alloc (.cells #[.int .i64 law, .slice Aq nq cq, .int .i64 T, .int .i64 S, .int .i64 fin] 38)) := hd.alloc hd.size _
 refine hK' _ _ ⟨.inr (HSS.out _ hb), fun _ => ?_⟩
 clear hK' K'
 (try simp only [Act.put, nY, nX])
 have hw1 := wave1 R3.drew ⟨⟨law, ps, T, S, fin⟩, Aq, nq, cq⟩ 38 (HAT.out.below hd)
 have HR := hI (wcheckP_c (mp_of (HS.out.step hb).m) (HS.out.step hb).l hw1 (HS.out.step hb).t)
 rw [HLD.out, show wavesD [⟨⟨law, ps, T, S, fin⟩, Aq, nq, cq⟩] = [⟨law, ps, T, S, fin⟩] from rfl, HE.out] at HR
 refine anyT_sp 5 rfl (fun K' hK' => ?_)
 rw [if_pos (by rfl)]
 refine wp_enter 37 #[.pointer (some ⟨b, 0, none⟩), .slice Al 2 2, .slice (some ⟨R3.heap.size, 0, none⟩) 1 1] (by kernel_rfl) HR.out ?_
 clear HR hw1
 rintro e R4 ⟨rfl, hb2⟩
 replace hb := hb.trans (hb2.mono hb.size)
 refine ⟨_, rfl, hK' _ _ ⟨.inr (HSS.out _ hb), fun _ => ?_⟩⟩
 clear hK' K'
 (try simp only [Act.put, nY, nX])
 have hS := HSS.out _ hb
 have hff : (fr != fr) = false := by simp
 (refine' anyT_tk 8 rfl ?_; (try simp only [Act.put, nY, nX])); (refine' anyT_tk 9 rfl ?_; (try simp only [Act.put, nY, nX])); (refine' anyT_tk 10 rfl ?_; (try simp only [Act.put, nY, nX])); (refine' anyT_tk 11 rfl ?_; (try simp only [Act.put, nY, nX])); (refine' anyT_tk 12 rfl ?_; (try simp only [Act.put, nY, nX])); (refine' anyT_tk 13 rfl ?_; (try simp only [Act.put, nY, nX])); (refine' anyT_tk 14 rfl ?_; (try simp only [Act.put, nY, nX])); (refine' anyT_tk 15 rfl ?_; (try simp only [Act.put, nY, nX])); (refine' anyT_tk 16 rfl ?_; (try simp only [Act.put, nY, nX])); (refine' anyT_tk 17 rfl ?_; (try simp only [Act.put, nY, nX])); (refine' anyT_tk 18 rfl ?_; (try simp only [Act.put, nY, nX])); (refine' anyT_tk 19 rfl ?_; (try simp only [Act.put, nY, nX]))
 refine' anyT_take (i := 20) (v := undef) rfl (by as_aux_lemma => kernel_rfl) (by as_aux_lemma => kernel_rfl) (by as_aux_lemma => kernel_rfl) (by as_aux_lemma => kernel_rfl) (fun _ _ _ h => h) (Or.inr ⟨by as_aux_lemma => kernel_rfl, rfl⟩) (by assumption) ?_
 (try simp only [Act.put, nY, nX])
 refine' anyT_take (i := 21) (v := undef) rfl (by as_aux_lemma => kernel_rfl) (by as_aux_lemma => kernel_rfl) (by as_aux_lemma => kernel_rfl) (by as_aux_lemma => kernel_rfl) (fun _ _ _ h => h) (Or.inr ⟨by as_aux_lemma => kernel_rfl, rfl⟩) (by assumption) ?_
 (try simp only [Act.put, nY, nX])
 refine' anyT_take (i := 22) (v := undef) rfl (by as_aux_lemma => kernel_rfl) (by as_aux_lemma => kernel_rfl) (by as_aux_lemma => kernel_rfl) (by as_aux_lemma => kernel_rfl) (fun _ _ _ h => h) (Or.inr ⟨by as_aux_lemma => kernel_rfl, rfl⟩) (by assumption) ?_
 (try simp only [Act.put, nY, nX])
 refine' anyT_take (i := 23) (v := undef) rfl (by as_aux_lemma => kernel_rfl) (by as_aux_lemma => kernel_rfl) (by as_aux_lemma => kernel_rfl) (by as_aux_lemma => kernel_rfl) (fun _ _ _ h => h) (Or.inr ⟨by as_aux_lemma => kernel_rfl, rfl⟩) (by assumption) ?_
 (try simp only [Act.put, nY, nX])
 refine' anyT_take (i := 24) (v := undef) rfl (by as_aux_lemma => kernel_rfl) (by as_aux_lemma => kernel_rfl) (by as_aux_lemma => kernel_rfl) (by as_aux_lemma => kernel_rfl) (fun _ _ _ h => h) (Or.inr ⟨by as_aux_lemma => kernel_rfl, rfl⟩) (by assumption) ?_
 (try simp only [Act.put, nY, nX])
 refine' anyT_take (i := 25) (v := undef) rfl (by as_aux_lemma => kernel_rfl) (by as_aux_lemma => kernel_rfl) (by as_aux_lemma => kernel_rfl) (by as_aux_lemma => kernel_rfl) (fun _ _ _ h => h) (Or.inr ⟨by as_aux_lemma => kernel_rfl, rfl⟩) (by assumption) ?_
 (try simp only [Act.put, nY, nX])
 refine' anyT_take (i := 26) (v := undef) rfl (by as_aux_lemma => kernel_rfl) (by as_aux_lemma => kernel_rfl) (by as_aux_lemma => kernel_rfl) (by as_aux_lemma => kernel_rfl) (fun _ _ _ h => h) (Or.inr ⟨by as_aux_lemma => kernel_rfl, rfl⟩) (by assumption) ?_
 (try simp only [Act.put, nY, nX])
 refine' anyT_take (i := 27) (v := undef) rfl (by as_aux_lemma => kernel_rfl) (by as_aux_lemma => kernel_rfl) (by as_aux_lemma => kernel_rfl) (by as_aux_lemma => kernel_rfl) (fun _ _ _ h => h) (Or.inr ⟨by as_aux_lemma => kernel_rfl, rfl⟩) (by assumption) ?_
 (try simp only [Act.put, nY, nX])
 refine' anyT_take (i := 28) (v := undef) rfl (by as_aux_lemma => kernel_rfl) (by as_aux_lemma => kernel_rfl) (by as_aux_lemma => kernel_rfl) (by as_aux_lemma => kernel_rfl) (fun _ _ _ h => h) (Or.inr ⟨by as_aux_lemma => kernel_rfl, rfl⟩) (by assumption) ?_
 (try simp only [Act.put, nY, nX])
 refine' anyT_take (i := 29) (v := undef) rfl (by as_aux_lemma => kernel_rfl) (by as_aux_lemma => kernel_rfl) (by as_aux_lemma => kernel_rfl) (by as_aux_lemma => kernel_rfl) (fun _ _ _ h => h) (Or.inr ⟨by as_aux_lemma => kernel_rfl, rfl⟩) (by assumption) ?_
 (try simp only [Act.put, nY, nX])
 (refine' anyT_tk 30 rfl ?_; (try simp only [Act.put, nY, nX])); (refine' anyT_tk 31 rfl ?_; (try simp only [Act.put, nY, nX])); (refine' anyT_tk 32 rfl ?_; (try simp only [Act.put, nY, nX])); (refine' anyT_tk 33 rfl ?_; (try simp only [Act.put, nY, nX])); (refine' anyT_tk 34 rfl ?_; (try simp only [Act.put, nY, nX])); (refine' anyT_tk 35 rfl ?_; (try simp only [Act.put, nY, nX])); (refine' anyT_tk 36 rfl ?_; (try simp only [Act.put, nY, nX])); (refine' anyT_tk 37 rfl ?_; (try simp only [Act.put, nY, nX])); (refine' anyT_tk 38 rfl ?_; (try simp only [Act.put, nY, nX])); (refine' anyT_tk 39 rfl ?_; (try simp only [Act.put, nY, nX])); (refine' anyT_tk 40 rfl ?_; (try simp only [Act.put, nY, nX])); (refine' anyT_tk 41 rfl ?_; (try simp only [Act.put, nY, nX])); (refine' anyT_tk 42 rfl ?_; (try simp only [Act.put, nY, nX])); (refine' anyT_tk 43 rfl ?_; (try simp only [Act.put, nY, nX]))
 clear hS
 refine anyT_sp 44 rfl (fun K' hK' => ?_)
 rw [if_pos (by rfl)]
 refine wp_value (.bool false) R4 (by kernel_rfl) ?_
 refine hK' _ _ ⟨.inl (by kernel_rfl), fun _ => anyT_done (by kernel_rfl) ?_ _⟩
 clear hK' K'
 (try simp only [Act.put, nY, nX])
 replace HS := hI (HS.out.step hb)
 replace HWB := hI (HWB.out.below hb rr)
 replace HKC := hI (HKC.out.below hb)
 replace HAT := hI (HAT.out.below hb)
 replace HXB := hI ((hb.block x (lt_of_block HXB.out)).trans HXB.out)
 clear hb hb2 hd HSS
 go_wp2_with fail
 exact hQ _ HS HWB HKC _ _ _ _ _ _ _ _ _ _ _ _ _ _ _ _ _ _ _ _ _ _ _ _ _ _ _ _ _ _ _ _ _ _ _ _ _ _ _ _ _ _ _ _ _ _ _ _ _ _ _ _ _ _ _ _ _ _ _ _ _ _ _ _ _ _ _ _ _ _ _ _ _ _ _ _ _ _ _ _ _ _ _
end Go.Proofs.YtaglfmlgbcmakaaGreatDoor
