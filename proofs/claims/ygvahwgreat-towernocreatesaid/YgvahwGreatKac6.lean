import Derived.Test.YgvahwGreatKa0
namespace Go.Proofs.YgvahwGreat
open Go.RowKit
set_option linter.unusedSimpArgs false
set_option maxRecDepth 100000 in
set_option maxHeartbeats 640000000 in
theorem ck44 (H52 : CK52) : CK44 := by
  intro w0 w g c a K Q' T12 T13 T14 T15 T16 T17 T18 T19 T20 T21 T22 T23 T24 T25 T26 T27 T28 T29 T30 T31 T32 T33 T34 T35 T36
  intro u1 u2 u3 u4 u5 u6 u7 u8 u9 u10 u11 u37 u38 u39 u40 u41 u42 u43 u44 u45 u46 u47 u48 u49 u50 u51 u52 u53 u54 u55 u56 u57 u58 u59 u60 u61 u62 u63 u64 u65 u66 u67 u68 u69 u70 u71 u72 u73 u74 u75 u76 u77 u78 u79 u80 u81 u82 u83 u84 u85 u86 u87 u88 u89 u90 u91 u92 u93 u94 u95 u96 u97 u98 u99 u100 u101 u102 u103 u104 u105 u106 u107 u108 u109 u110 u111 u112 u113 u114 u115 u116 u117 u118 u119 u120 u121 u122 u123 u124 u125 u126 u127 u128 u129 u130 u131 u132 u133 u134 u135 u136 u137 u138 u139 u140 u141 u142 u143 u144 u145 u146 u147 u148 u149 u150 u151 u152 u153 u154 u155 u156 u157 u158 u159 u160 u161 u162 u163 u164 u165 u166 u167 u168 u169 u170 u171 u172 u173 u174 u175 u176 u177 u178 u179 u180 u181 u182 u183 u184 u185 u186 u187 u188 u189 u190 u191 u192 u193 u194 u195 u196 u197 u198 u199 u200 u201 u202 u203 u204 u205 u206 u207 u208 u209 u210 u211 u212 u213 u214 u215 u216 u217 u218 u219 u220 u221 u222 u223 u224 u225 u226 u227 u228 u229 u230 u231 u232 u233 u234 u235 u236 u237 u238 u239 u240 u241 u242 u243 u244 u245 u246 u247 u248 u249 u250 u251 u252 u253 u254 u255 u256 u257 u258 u259 u260 u261 u262 u263 u264 u265 u266 u267 u268 u269 u270 u271 u272 u273 u274 u275 u276 u277 u278 u279 u280 u281 u282 u283 u284 u285 u286 u287 u288 u289 u290 u291 u292 u293 u294 u295 u296 u297 u298 u299 u300 u301 u302 u303 u304 u305 u306 u307 u308 u309 u310 u311 u312 u313 u314 u315 u316 u317 u318 u319 u320 u321 u322 u323 u324 u325 u326 u327 u328 u329 u330 u331 u332 u333 u334 u335 u336 u337 u338 u339 u340 u341 u342 u343 u344 u345 u346 u347 u348 u349 u350 u351 u352 u353 u354 u355 u356 u357 u358 u359 u360 u361 u362 u363 u364 u365 u366 u367 u368 u369 u370 u371 u372 u373 u374 u375 u376 u377 u378 u379 u380 u381 u382 u383 u384 u385 u386 u387 u388 u389 u390 u391 u392 u393 u394 u395 u396 u397 u398 u399 u400 u401 u402 u403 u404 u405 u406 u407 u408 u409 u410 u411 u412 u413 u414 u415 u416 u417 u418 u419 u420 u421 u422 u423 u424 u425 u426 u427 u428 u429 u430 u431 u432 u433 u434 u435 u436 u437 u438 u439 u440 u441 u442 u443 u444 u445 u446 u447 u448 u449 u450 u451 u452 u453 u454 u455 u456 u457 u458 u459 u460 u461 u462 u463 u464 u465 u466 u467 u468 u469 u470 u471 u472 u473 u474 u475 u476 u477 u478 u479 u480 u481 u482 u483 u484 u485 u486 u487 u488 u489 u490 u491 u492 u493 u494 u495 u496 u497 u498 u499 u500 u501 u502 u503 u504 u505 u506 u507 u508 u509 u510 u511 u512 u513 u514 u515 u516 u517 u518 u519 u520 u521 u522 u523 u524 u525 u526 u527 u528 u529 u530 u531 u532 u533 u534 u535 u536 u537 u538 u539 u540 u541 u542 u543 u544 u545 u546 u547 u548 u549 u550 u551 u552 u553 u554 u555 u556 u557 u558 u559 u560 u561 u562 u563 u564 u565 u566 u567 u568 u569 u570 u571 u572 u573 u574 u575
  intro hB hM hk hA hT12 hT13 hT14 hT15 hT16 hT17 hT18 hT19 hT20 hT21 hT22 hT23 hT24 hT25 hT26 hT27 hT28 hT29 hT30 hT31 hT32 hT33 hT34 hT35 hT36 hQ hK
  have b12 : T12 < 18446744073709551616 := by rw [← hT12.out]; exact kB_lt hk 0
  have b13 : T13 < 18446744073709551616 := by rw [← hT13.out]; exact kB_lt hk 1
  have b14 : T14 < 18446744073709551616 := by rw [← hT14.out]; exact kB_lt hk 2
  have b15 : T15 < 18446744073709551616 := by rw [← hT15.out]; exact kB_lt hk 3
  have b16 : T16 < 18446744073709551616 := by rw [← hT16.out]; exact kB_lt hk 4
  have b17 : T17 < 18446744073709551616 := by rw [← hT17.out]; exact kB_lt hk 5
  have b18 : T18 < 18446744073709551616 := by rw [← hT18.out]; exact kB_lt hk 6
  have b19 : T19 < 18446744073709551616 := by rw [← hT19.out]; exact kB_lt hk 7
  have b20 : T20 < 18446744073709551616 := by rw [← hT20.out]; exact kB_lt hk 8
  have b21 : T21 < 18446744073709551616 := by rw [← hT21.out]; exact kB_lt hk 9
  have b22 : T22 < 18446744073709551616 := by rw [← hT22.out]; exact kB_lt hk 10
  have b23 : T23 < 18446744073709551616 := by rw [← hT23.out]; exact kB_lt hk 11
  have b24 : T24 < 18446744073709551616 := by rw [← hT24.out]; exact kB_lt hk 12
  have b25 : T25 < 18446744073709551616 := by rw [← hT25.out]; exact kB_lt hk 13
  have b26 : T26 < 18446744073709551616 := by rw [← hT26.out]; exact kB_lt hk 14
  have b27 : T27 < 18446744073709551616 := by rw [← hT27.out]; exact kB_lt hk 15
  have b28 : T28 < 18446744073709551616 := by rw [← hT28.out]; exact kB_lt hk 16
  have b29 : T29 < 18446744073709551616 := by rw [← hT29.out]; exact kB_lt hk 17
  have b30 : T30 < 18446744073709551616 := by rw [← hT30.out]; exact kB_lt hk 18
  have b31 : T31 < 18446744073709551616 := by rw [← hT31.out]; exact kB_lt hk 19
  have b32 : T32 < 18446744073709551616 := by rw [← hT32.out]; exact kB_lt hk 20
  have b33 : T33 < 18446744073709551616 := by rw [← hT33.out]; exact kB_lt hk 21
  have b34 : T34 < 18446744073709551616 := by rw [← hT34.out]; exact kB_lt hk 22
  have b35 : T35 < 18446744073709551616 := by rw [← hT35.out]; exact kB_lt hk 23
  have b36 : T36 < 18446744073709551616 := by rw [← hT36.out]; exact kB_lt hk 24
  simp only [ctail, chead, kbody, Hvah.f406] at hK ⊢
  go_upto_region 45 with ((with_reducible (refine Veil.out ?_; apply wl_storeC onek26 (v := .int .u64 (kchi T21 T17 T18 : Nat)))); (case hx => rfl); (case hy => exact congrArg (Value.int IntKind.u64) (chi_e b21 b17 b18)); (case h1 => rfl); (case hB => exact hB); (case hi => decide); intro V9 e9 n9)
  have p9 := hM.trans n9
  clear n9
  go_upto_region 46 with ((with_reducible (refine Veil.out ?_; apply wl_storeC onek26 (v := .int .u64 (kchi T22 T23 T24 : Nat)))); (case hx => rfl); (case hy => exact congrArg (Value.int IntKind.u64) (chi_e b22 b23 b24)); (case h1 => rfl); (case hB => exact e9); (case hi => decide); intro V10 e10 n10)
  have p10 := p9.trans n10
  clear n10
  go_upto_region 47 with ((with_reducible (refine Veil.out ?_; apply wl_storeC onek26 (v := .int .u64 (kchi T23 T24 T25 : Nat)))); (case hx => rfl); (case hy => exact congrArg (Value.int IntKind.u64) (chi_e b23 b24 b25)); (case h1 => rfl); (case hB => exact e10); (case hi => decide); intro V11 e11 n11)
  have p11 := p10.trans n11
  clear n11
  go_upto_region 48 with ((with_reducible (refine Veil.out ?_; apply wl_storeC onek26 (v := .int .u64 (kchi T24 T25 T26 : Nat)))); (case hx => rfl); (case hy => exact congrArg (Value.int IntKind.u64) (chi_e b24 b25 b26)); (case h1 => rfl); (case hB => exact e11); (case hi => decide); intro V12 e12 n12)
  have p12 := p11.trans n12
  clear n12
  go_upto_region 49 with ((with_reducible (refine Veil.out ?_; apply wl_storeC onek26 (v := .int .u64 (kchi T25 T26 T22 : Nat)))); (case hx => rfl); (case hy => exact congrArg (Value.int IntKind.u64) (chi_e b25 b26 b22)); (case h1 => rfl); (case hB => exact e12); (case hi => decide); intro V13 e13 n13)
  have p13 := p12.trans n13
  clear n13
  go_upto_region 50 with ((with_reducible (refine Veil.out ?_; apply wl_storeC onek26 (v := .int .u64 (kchi T26 T22 T23 : Nat)))); (case hx => rfl); (case hy => exact congrArg (Value.int IntKind.u64) (chi_e b26 b22 b23)); (case h1 => rfl); (case hB => exact e13); (case hi => decide); intro V14 e14 n14)
  have p14 := p13.trans n14
  clear n14
  go_upto_region 51 with ((with_reducible (refine Veil.out ?_; apply wl_storeC onek26 (v := .int .u64 (kchi T27 T28 T29 : Nat)))); (case hx => rfl); (case hy => exact congrArg (Value.int IntKind.u64) (chi_e b27 b28 b29)); (case h1 => rfl); (case hB => exact e14); (case hi => decide); intro V15 e15 n15)
  have p15 := p14.trans n15
  clear n15
  go_upto_region 52 with ((with_reducible (refine Veil.out ?_; apply wl_storeC onek26 (v := .int .u64 (kchi T28 T29 T30 : Nat)))); (case hx => rfl); (case hy => exact congrArg (Value.int IntKind.u64) (chi_e b28 b29 b30)); (case h1 => rfl); (case hB => exact e15); (case hi => decide); intro V16 e16 n16)
  have p16 := p15.trans n16
  clear n16
  have hc : ∀ i, i < 17 → (updv (updv (updv (updv (updv (updv (updv (updv c 9 (.int .u64 (kchi T21 T17 T18 : Nat))) 10 (.int .u64 (kchi T22 T23 T24 : Nat))) 11 (.int .u64 (kchi T23 T24 T25 : Nat))) 12 (.int .u64 (kchi T24 T25 T26 : Nat))) 13 (.int .u64 (kchi T25 T26 T22 : Nat))) 14 (.int .u64 (kchi T26 T22 T23 : Nat))) 15 (.int .u64 (kchi T27 T28 T29 : Nat))) 16 (.int .u64 (kchi T28 T29 T30 : Nat))) i = .int .u64 (kget (kround a) i : Nat) := fun i hi => by
    rcases Nat.lt_or_ge i 9 with hl | hg
    · rw [updv_ne _ _ (show i ≠ 16 by omega), updv_ne _ _ (show i ≠ 15 by omega), updv_ne _ _ (show i ≠ 14 by omega), updv_ne _ _ (show i ≠ 13 by omega), updv_ne _ _ (show i ≠ 12 by omega), updv_ne _ _ (show i ≠ 11 by omega), updv_ne _ _ (show i ≠ 10 by omega), updv_ne _ _ (show i ≠ 9 by omega)]; exact hA i hl
    · rcases (show i = 9 ∨ i = 10 ∨ i = 11 ∨ i = 12 ∨ i = 13 ∨ i = 14 ∨ i = 15 ∨ i = 16 by omega) with rfl | rfl | rfl | rfl | rfl | rfl | rfl | rfl
      · rw [show kget (kround a) 9 = kchi T21 T17 T18 by rw [← hT21.out, ← hT17.out, ← hT18.out, kRe9]]; rw [updv_ne _ _ (show 9 ≠ 16 by decide), updv_ne _ _ (show 9 ≠ 15 by decide), updv_ne _ _ (show 9 ≠ 14 by decide), updv_ne _ _ (show 9 ≠ 13 by decide), updv_ne _ _ (show 9 ≠ 12 by decide), updv_ne _ _ (show 9 ≠ 11 by decide), updv_ne _ _ (show 9 ≠ 10 by decide), updv_same]
      · rw [show kget (kround a) 10 = kchi T22 T23 T24 by rw [← hT22.out, ← hT23.out, ← hT24.out, kRe10]]; rw [updv_ne _ _ (show 10 ≠ 16 by decide), updv_ne _ _ (show 10 ≠ 15 by decide), updv_ne _ _ (show 10 ≠ 14 by decide), updv_ne _ _ (show 10 ≠ 13 by decide), updv_ne _ _ (show 10 ≠ 12 by decide), updv_ne _ _ (show 10 ≠ 11 by decide), updv_same]
      · rw [show kget (kround a) 11 = kchi T23 T24 T25 by rw [← hT23.out, ← hT24.out, ← hT25.out, kRe11]]; rw [updv_ne _ _ (show 11 ≠ 16 by decide), updv_ne _ _ (show 11 ≠ 15 by decide), updv_ne _ _ (show 11 ≠ 14 by decide), updv_ne _ _ (show 11 ≠ 13 by decide), updv_ne _ _ (show 11 ≠ 12 by decide), updv_same]
      · rw [show kget (kround a) 12 = kchi T24 T25 T26 by rw [← hT24.out, ← hT25.out, ← hT26.out, kRe12]]; rw [updv_ne _ _ (show 12 ≠ 16 by decide), updv_ne _ _ (show 12 ≠ 15 by decide), updv_ne _ _ (show 12 ≠ 14 by decide), updv_ne _ _ (show 12 ≠ 13 by decide), updv_same]
      · rw [show kget (kround a) 13 = kchi T25 T26 T22 by rw [← hT25.out, ← hT26.out, ← hT22.out, kRe13]]; rw [updv_ne _ _ (show 13 ≠ 16 by decide), updv_ne _ _ (show 13 ≠ 15 by decide), updv_ne _ _ (show 13 ≠ 14 by decide), updv_same]
      · rw [show kget (kround a) 14 = kchi T26 T22 T23 by rw [← hT26.out, ← hT22.out, ← hT23.out, kRe14]]; rw [updv_ne _ _ (show 14 ≠ 16 by decide), updv_ne _ _ (show 14 ≠ 15 by decide), updv_same]
      · rw [show kget (kround a) 15 = kchi T27 T28 T29 by rw [← hT27.out, ← hT28.out, ← hT29.out, kRe15]]; rw [updv_ne _ _ (show 15 ≠ 16 by decide), updv_same]
      · rw [show kget (kround a) 16 = kchi T28 T29 T30 by rw [← hT28.out, ← hT29.out, ← hT30.out, kRe16]]; rw [updv_same]
  exact H52 w0 _ g _ a _ _ _ _ _ _ _ _ _ _ _ _ _ _ _ _ _ _ _ _ _ _ _ _ _ _ _ _ _ _ _ _ _ _ _ _ _ _ _ _ _ _ _ _ _ _ _ _ _ _ _ _ _ _ _ _ _ _ _ _ _ _ _ _ _ _ _ _ _ _ _ _ _ _ _ _ _ _ _ _ _ _ _ _ _ _ _ _ _ _ _ _ _ _ _ _ _ _ _ _ _ _ _ _ _ _ _ _ _ _ _ _ _ _ _ _ _ _ _ _ _ _ _ _ _ _ _ _ _ _ _ _ _ _ _ _ _ _ _ _ _ _ _ _ _ _ _ _ _ _ _ _ _ _ _ _ _ _ _ _ _ _ _ _ _ _ _ _ _ _ _ _ _ _ _ _ _ _ _ _ _ _ _ _ _ _ _ _ _ _ _ _ _ _ _ _ _ _ _ _ _ _ _ _ _ _ _ _ _ _ _ _ _ _ _ _ _ _ _ _ _ _ _ _ _ _ _ _ _ _ _ _ _ _ _ _ _ _ _ _ _ _ _ _ _ _ _ _ _ _ _ _ _ _ _ _ _ _ _ _ _ _ _ _ _ _ _ _ _ _ _ _ _ _ _ _ _ _ _ _ _ _ _ _ _ _ _ _ _ _ _ _ _ _ _ _ _ _ _ _ _ _ _ _ _ _ _ _ _ _ _ _ _ _ _ _ _ _ _ _ _ _ _ _ _ _ _ _ _ _ _ _ _ _ _ _ _ _ _ _ _ _ _ _ _ _ _ _ _ _ _ _ _ _ _ _ _ _ _ _ _ _ _ _ _ _ _ _ _ _ _ _ _ _ _ _ _ _ _ _ _ _ _ _ _ _ _ _ _ _ _ _ _ _ _ _ _ _ _ _ _ _ _ _ _ _ _ _ _ _ _ _ _ _ _ _ _ _ _ _ _ _ _ _ _ _ _ _ _ _ _ _ _ _ _ _ _ _ _ _ _ _ _ _ _ _ _ _ _ _ _ _ _ _ _ _ _ _ _ _ _ _ _ _ _ _ _ _ _ _ _ _ _ _ _ _ _ _ _ _ _ _ _ _ _ _ _ _ _ _ _ _ _ _ _ _ _ _ _ _ _ _ _ _ _ _ _ _ _ _ _ _ _ _ _ _ _ _ _ _ _ _ _ _ _ _ _ _ _ _ _ _ _ _ _ _ _ _ _ _ _ _ _ _ _ _ _ _ _ _ _ _ _ _ _ _ _ _ _ _ _ _ _ _ _ _ _ _ _ _ _ _ _ _ _ _ _ e16 p16 hk hc hT12 hT13 hT14 hT15 hT16 hT17 hT18 hT19 hT20 hT21 hT22 hT23 hT24 hT25 hT26 hT27 hT28 hT29 hT30 hT31 hT32 hT33 hT34 hT35 hT36 hQ (by assumption)
end Go.Proofs.YgvahwGreat
