import Derived.Test.YgvahwGreatKa0
namespace Go.Proofs.YgvahwGreat
open Go.RowKit
set_option linter.unusedSimpArgs false
set_option maxRecDepth 100000 in
set_option maxHeartbeats 640000000 in
theorem ck19 (H27 : CK27) : CK19 := by
  intro w0 w g c a K Q' T7 T8 T9 T10 T11 T12 T13 T14 T15 T16 T17 T18 T19 T20
  intro u1 u2 u3 u4 u5 u6 u21 u22 u23 u24 u25 u26 u27 u28 u29 u30 u31 u32 u33 u34 u35 u36 u37 u38 u39 u40 u41 u42 u43 u44 u45 u46 u47 u48 u49 u50 u51 u52 u53 u54 u55 u56 u57 u58 u59 u60 u61 u62 u63 u64 u65 u66 u67 u68 u69 u70 u71 u72 u73 u74 u75 u76 u77 u78 u79 u80 u81 u82 u83 u84 u85 u86 u87 u88 u89 u90 u91 u92 u93 u94 u95 u96 u97 u98 u99 u100 u101 u102 u103 u104 u105 u106 u107 u108 u109 u110 u111 u112 u113 u114 u115 u116 u117 u118 u119 u120 u121 u122 u123 u124 u125 u126 u127 u128 u129 u130 u131 u132 u133 u134 u135 u136 u137 u138 u139 u140 u141 u142 u143 u144 u145 u146 u147 u148 u149 u150 u151 u152 u153 u154 u155 u156 u157 u158 u159 u160 u161 u162 u163 u164 u165 u166 u167 u168 u169 u170 u171 u172 u173 u174 u175 u176 u177 u178 u179 u180 u181 u182 u183 u184 u185 u186 u187 u188 u189 u190 u191 u192 u193 u194 u195 u196 u197 u198 u199 u200 u201 u202 u203 u204 u205 u206 u207 u208 u209 u210 u211 u212 u213 u214 u215 u216 u217 u218 u219 u220 u221 u222 u223 u224 u225 u226 u227 u228 u229 u230 u231 u232 u233 u234 u235 u236 u237 u238 u239 u240 u241 u242 u243 u244 u245 u246 u247 u248 u249 u250 u251 u252 u253 u254 u255 u256 u257 u258 u259 u260 u261 u262 u263 u264 u265 u266 u267 u268 u269 u270 u271 u272 u273 u274 u275 u276 u277 u278 u279 u280 u281 u282 u283 u284 u285 u286 u287 u288 u289 u290 u291 u292 u293 u294 u295 u296 u297 u298 u299 u300 u301 u302 u303 u304 u305 u306 u307 u308 u309 u310 u311 u312 u313 u314 u315 u316 u317 u318 u319 u320 u321 u322 u323 u324 u325 u326 u327 u328 u329 u330 u331 u332 u333 u334 u335 u336 u337 u338 u339 u340 u341 u342 u343 u344 u345 u346 u347 u348 u349 u350 u351 u352 u353 u354 u355 u356 u357 u358 u359 u360 u361 u362 u363 u364 u365 u366 u367 u368 u369 u370 u371 u372 u373 u374 u375 u376 u377 u378 u379 u380 u381 u382 u383 u384 u385 u386 u387 u388 u389 u390 u391 u392 u393 u394 u395 u396 u397 u398 u399 u400 u401 u402 u403 u404 u405 u406 u407 u408 u409 u410 u411 u412 u413 u414 u415 u416 u417 u418 u419 u420 u421 u422 u423 u424 u425 u426 u427 u428 u429 u430 u431 u432 u433 u434 u435 u436 u437 u438 u439 u440 u441 u442 u443 u444 u445 u446 u447 u448 u449 u450 u451 u452 u453 u454 u455 u456 u457 u458 u459 u460 u461 u462 u463 u464 u465 u466 u467 u468 u469 u470 u471 u472 u473 u474 u475 u476 u477 u478 u479 u480 u481 u482 u483 u484 u485 u486 u487 u488 u489 u490 u491 u492 u493 u494 u495 u496 u497 u498 u499 u500 u501 u502 u503 u504 u505 u506 u507 u508 u509 u510 u511 u512 u513 u514 u515 u516 u517 u518 u519 u520 u521 u522 u523 u524 u525 u526 u527 u528 u529 u530 u531 u532 u533 u534 u535 u536 u537 u538 u539 u540 u541 u542 u543 u544 u545 u546 u547 u548 u549 u550 u551 u552 u553 u554 u555 u556 u557 u558 u559 u560 u561 u562 u563 u564 u565 u566 u567 u568 u569 u570 u571 u572 u573 u574 u575
  intro hB hM hk hA hT7 hT8 hT9 hT10 hT11 hT12 hT13 hT14 hT15 hT16 hT17 hT18 hT19 hT20 hQ hK
  have b7 : T7 < 18446744073709551616 := by rw [← hT7.out]; exact kd_lt hk 0
  have b8 : T8 < 18446744073709551616 := by rw [← hT8.out]; exact kd_lt hk 1
  have b9 : T9 < 18446744073709551616 := by rw [← hT9.out]; exact kd_lt hk 2
  have b10 : T10 < 18446744073709551616 := by rw [← hT10.out]; exact kd_lt hk 3
  have b11 : T11 < 18446744073709551616 := by rw [← hT11.out]; exact kd_lt hk 4
  have b12 : T12 < 18446744073709551616 := by rw [← hT12.out]; exact kB_lt hk 0
  have b13 : T13 < 18446744073709551616 := by rw [← hT13.out]; exact kB_lt hk 1
  have b14 : T14 < 18446744073709551616 := by rw [← hT14.out]; exact kB_lt hk 2
  have b15 : T15 < 18446744073709551616 := by rw [← hT15.out]; exact kB_lt hk 3
  have b16 : T16 < 18446744073709551616 := by rw [← hT16.out]; exact kB_lt hk 4
  have b17 : T17 < 18446744073709551616 := by rw [← hT17.out]; exact kB_lt hk 5
  have b18 : T18 < 18446744073709551616 := by rw [← hT18.out]; exact kB_lt hk 6
  have b19 : T19 < 18446744073709551616 := by rw [← hT19.out]; exact kB_lt hk 7
  have b20 : T20 < 18446744073709551616 := by rw [← hT20.out]; exact kB_lt hk 8
  simp only [ctail, chead, kbody, Hvah.f406] at hK ⊢
  have k0 := hk 0
  have c0 := hB.cell (i := 0) (by decide)
  rw [hA 0 (by decide)] at c0
  have k1 := hk 1
  have c1 := hB.cell (i := 1) (by decide)
  rw [hA 1 (by decide)] at c1
  have k2 := hk 2
  have c2 := hB.cell (i := 2) (by decide)
  rw [hA 2 (by decide)] at c2
  have k3 := hk 3
  have c3 := hB.cell (i := 3) (by decide)
  rw [hA 3 (by decide)] at c3
  have k4 := hk 4
  have c4 := hB.cell (i := 4) (by decide)
  rw [hA 4 (by decide)] at c4
  have k5 := hk 5
  have c5 := hB.cell (i := 5) (by decide)
  rw [hA 5 (by decide)] at c5
  have k6 := hk 6
  have c6 := hB.cell (i := 6) (by decide)
  rw [hA 6 (by decide)] at c6
  have k7 := hk 7
  have c7 := hB.cell (i := 7) (by decide)
  rw [hA 7 (by decide)] at c7
  have k8 := hk 8
  have c8 := hB.cell (i := 8) (by decide)
  rw [hA 8 (by decide)] at c8
  have k9 := hk 9
  have c9 := hB.cell (i := 9) (by decide)
  rw [hA 9 (by decide)] at c9
  have k10 := hk 10
  have c10 := hB.cell (i := 10) (by decide)
  rw [hA 10 (by decide)] at c10
  have k11 := hk 11
  have c11 := hB.cell (i := 11) (by decide)
  rw [hA 11 (by decide)] at c11
  have k12 := hk 12
  have c12 := hB.cell (i := 12) (by decide)
  rw [hA 12 (by decide)] at c12
  have k13 := hk 13
  have c13 := hB.cell (i := 13) (by decide)
  rw [hA 13 (by decide)] at c13
  have k14 := hk 14
  have c14 := hB.cell (i := 14) (by decide)
  rw [hA 14 (by decide)] at c14
  have k15 := hk 15
  have c15 := hB.cell (i := 15) (by decide)
  rw [hA 15 (by decide)] at c15
  have k16 := hk 16
  have c16 := hB.cell (i := 16) (by decide)
  rw [hA 16 (by decide)] at c16
  have k17 := hk 17
  have c17 := hB.cell (i := 17) (by decide)
  rw [hA 17 (by decide)] at c17
  have k18 := hk 18
  have c18 := hB.cell (i := 18) (by decide)
  rw [hA 18 (by decide)] at c18
  have k19 := hk 19
  have c19 := hB.cell (i := 19) (by decide)
  rw [hA 19 (by decide)] at c19
  have k20 := hk 20
  have c20 := hB.cell (i := 20) (by decide)
  rw [hA 20 (by decide)] at c20
  have k21 := hk 21
  have c21 := hB.cell (i := 21) (by decide)
  rw [hA 21 (by decide)] at c21
  have k22 := hk 22
  have c22 := hB.cell (i := 22) (by decide)
  rw [hA 22 (by decide)] at c22
  have k23 := hk 23
  have c23 := hB.cell (i := 23) (by decide)
  rw [hA 23 (by decide)] at c23
  have k24 := hk 24
  have c24 := hB.cell (i := 24) (by decide)
  rw [hA 24 (by decide)] at c24
  obtain ⟨x0, h0⟩ : ∃ n, Hid (kget a 0 = n) := ⟨_, rfl⟩
  rw [h0.out] at c0 k0
  obtain ⟨x1, h1⟩ : ∃ n, Hid (kget a 1 = n) := ⟨_, rfl⟩
  rw [h1.out] at c1 k1
  obtain ⟨x2, h2⟩ : ∃ n, Hid (kget a 2 = n) := ⟨_, rfl⟩
  rw [h2.out] at c2 k2
  obtain ⟨x3, h3⟩ : ∃ n, Hid (kget a 3 = n) := ⟨_, rfl⟩
  rw [h3.out] at c3 k3
  obtain ⟨x4, h4⟩ : ∃ n, Hid (kget a 4 = n) := ⟨_, rfl⟩
  rw [h4.out] at c4 k4
  obtain ⟨x5, h5⟩ : ∃ n, Hid (kget a 5 = n) := ⟨_, rfl⟩
  rw [h5.out] at c5 k5
  obtain ⟨x6, h6⟩ : ∃ n, Hid (kget a 6 = n) := ⟨_, rfl⟩
  rw [h6.out] at c6 k6
  obtain ⟨x7, h7⟩ : ∃ n, Hid (kget a 7 = n) := ⟨_, rfl⟩
  rw [h7.out] at c7 k7
  obtain ⟨x8, h8⟩ : ∃ n, Hid (kget a 8 = n) := ⟨_, rfl⟩
  rw [h8.out] at c8 k8
  obtain ⟨x9, h9⟩ : ∃ n, Hid (kget a 9 = n) := ⟨_, rfl⟩
  rw [h9.out] at c9 k9
  obtain ⟨x10, h10⟩ : ∃ n, Hid (kget a 10 = n) := ⟨_, rfl⟩
  rw [h10.out] at c10 k10
  obtain ⟨x11, h11⟩ : ∃ n, Hid (kget a 11 = n) := ⟨_, rfl⟩
  rw [h11.out] at c11 k11
  obtain ⟨x12, h12⟩ : ∃ n, Hid (kget a 12 = n) := ⟨_, rfl⟩
  rw [h12.out] at c12 k12
  obtain ⟨x13, h13⟩ : ∃ n, Hid (kget a 13 = n) := ⟨_, rfl⟩
  rw [h13.out] at c13 k13
  obtain ⟨x14, h14⟩ : ∃ n, Hid (kget a 14 = n) := ⟨_, rfl⟩
  rw [h14.out] at c14 k14
  obtain ⟨x15, h15⟩ : ∃ n, Hid (kget a 15 = n) := ⟨_, rfl⟩
  rw [h15.out] at c15 k15
  obtain ⟨x16, h16⟩ : ∃ n, Hid (kget a 16 = n) := ⟨_, rfl⟩
  rw [h16.out] at c16 k16
  obtain ⟨x17, h17⟩ : ∃ n, Hid (kget a 17 = n) := ⟨_, rfl⟩
  rw [h17.out] at c17 k17
  obtain ⟨x18, h18⟩ : ∃ n, Hid (kget a 18 = n) := ⟨_, rfl⟩
  rw [h18.out] at c18 k18
  obtain ⟨x19, h19⟩ : ∃ n, Hid (kget a 19 = n) := ⟨_, rfl⟩
  rw [h19.out] at c19 k19
  obtain ⟨x20, h20⟩ : ∃ n, Hid (kget a 20 = n) := ⟨_, rfl⟩
  rw [h20.out] at c20 k20
  obtain ⟨x21, h21⟩ : ∃ n, Hid (kget a 21 = n) := ⟨_, rfl⟩
  rw [h21.out] at c21 k21
  obtain ⟨x22, h22⟩ : ∃ n, Hid (kget a 22 = n) := ⟨_, rfl⟩
  rw [h22.out] at c22 k22
  obtain ⟨x23, h23⟩ : ∃ n, Hid (kget a 23 = n) := ⟨_, rfl⟩
  rw [h23.out] at c23 k23
  obtain ⟨x24, h24⟩ : ∃ n, Hid (kget a 24 = n) := ⟨_, rfl⟩
  rw [h24.out] at c24 k24
  go_upto_region 20 with (go_at_call 425; rw [u64_xor_nat x22 T9 k22 b9]; refine (mRot (x22 ^^^ T9) 61 (xor_lt64 k22 b9) (by decide) _).mono ?_; rintro e w1 ⟨rfl, hww⟩; replace hww := hww.symm; subst hww)
  obtain ⟨T21, hT21⟩ : ∃ n, Hid (kget (kB a) 9 = n) := ⟨_, rfl⟩
  rw [show rotl (x22 ^^^ T9) 61 = T21 by rw [← hT21.out, ← h22.out, ← hT9.out, kBe9]]
  go_upto_region 21 with (go_at_call 425; rw [u64_xor_nat x1 T8 k1 b8]; refine (mRot (x1 ^^^ T8) 1 (xor_lt64 k1 b8) (by decide) _).mono ?_; rintro e w1 ⟨rfl, hww⟩; replace hww := hww.symm; subst hww)
  obtain ⟨T22, hT22⟩ : ∃ n, Hid (kget (kB a) 10 = n) := ⟨_, rfl⟩
  rw [show rotl (x1 ^^^ T8) 1 = T22 by rw [← hT22.out, ← h1.out, ← hT8.out, kBe10]]
  go_upto_region 22 with (go_at_call 425; rw [u64_xor_nat x7 T9 k7 b9]; refine (mRot (x7 ^^^ T9) 6 (xor_lt64 k7 b9) (by decide) _).mono ?_; rintro e w1 ⟨rfl, hww⟩; replace hww := hww.symm; subst hww)
  obtain ⟨T23, hT23⟩ : ∃ n, Hid (kget (kB a) 11 = n) := ⟨_, rfl⟩
  rw [show rotl (x7 ^^^ T9) 6 = T23 by rw [← hT23.out, ← h7.out, ← hT9.out, kBe11]]
  go_upto_region 23 with (go_at_call 425; rw [u64_xor_nat x13 T10 k13 b10]; refine (mRot (x13 ^^^ T10) 25 (xor_lt64 k13 b10) (by decide) _).mono ?_; rintro e w1 ⟨rfl, hww⟩; replace hww := hww.symm; subst hww)
  obtain ⟨T24, hT24⟩ : ∃ n, Hid (kget (kB a) 12 = n) := ⟨_, rfl⟩
  rw [show rotl (x13 ^^^ T10) 25 = T24 by rw [← hT24.out, ← h13.out, ← hT10.out, kBe12]]
  go_upto_region 24 with (go_at_call 425; rw [u64_xor_nat x19 T11 k19 b11]; refine (mRot (x19 ^^^ T11) 8 (xor_lt64 k19 b11) (by decide) _).mono ?_; rintro e w1 ⟨rfl, hww⟩; replace hww := hww.symm; subst hww)
  obtain ⟨T25, hT25⟩ : ∃ n, Hid (kget (kB a) 13 = n) := ⟨_, rfl⟩
  rw [show rotl (x19 ^^^ T11) 8 = T25 by rw [← hT25.out, ← h19.out, ← hT11.out, kBe13]]
  go_upto_region 25 with (go_at_call 425; rw [u64_xor_nat x20 T7 k20 b7]; refine (mRot (x20 ^^^ T7) 18 (xor_lt64 k20 b7) (by decide) _).mono ?_; rintro e w1 ⟨rfl, hww⟩; replace hww := hww.symm; subst hww)
  obtain ⟨T26, hT26⟩ : ∃ n, Hid (kget (kB a) 14 = n) := ⟨_, rfl⟩
  rw [show rotl (x20 ^^^ T7) 18 = T26 by rw [← hT26.out, ← h20.out, ← hT7.out, kBe14]]
  go_upto_region 26 with (go_at_call 425; rw [u64_xor_nat x4 T11 k4 b11]; refine (mRot (x4 ^^^ T11) 27 (xor_lt64 k4 b11) (by decide) _).mono ?_; rintro e w1 ⟨rfl, hww⟩; replace hww := hww.symm; subst hww)
  obtain ⟨T27, hT27⟩ : ∃ n, Hid (kget (kB a) 15 = n) := ⟨_, rfl⟩
  rw [show rotl (x4 ^^^ T11) 27 = T27 by rw [← hT27.out, ← h4.out, ← hT11.out, kBe15]]
  go_upto_region 27 with (go_at_call 425; rw [u64_xor_nat x5 T7 k5 b7]; refine (mRot (x5 ^^^ T7) 36 (xor_lt64 k5 b7) (by decide) _).mono ?_; rintro e w1 ⟨rfl, hww⟩; replace hww := hww.symm; subst hww)
  obtain ⟨T28, hT28⟩ : ∃ n, Hid (kget (kB a) 16 = n) := ⟨_, rfl⟩
  rw [show rotl (x5 ^^^ T7) 36 = T28 by rw [← hT28.out, ← h5.out, ← hT7.out, kBe16]]
  exact H27 w0 w g c a _ _ _ _ _ _ _ _ _ _ _ _ _ _ _ _ _ _ _ _ _ _ _ _ _ _ _ _ _ _ _ _ _ _ _ _ _ _ _ _ _ _ _ _ _ _ _ _ _ _ _ _ _ _ _ _ _ _ _ _ _ _ _ _ _ _ _ _ _ _ _ _ _ _ _ _ _ _ _ _ _ _ _ _ _ _ _ _ _ _ _ _ _ _ _ _ _ _ _ _ _ _ _ _ _ _ _ _ _ _ _ _ _ _ _ _ _ _ _ _ _ _ _ _ _ _ _ _ _ _ _ _ _ _ _ _ _ _ _ _ _ _ _ _ _ _ _ _ _ _ _ _ _ _ _ _ _ _ _ _ _ _ _ _ _ _ _ _ _ _ _ _ _ _ _ _ _ _ _ _ _ _ _ _ _ _ _ _ _ _ _ _ _ _ _ _ _ _ _ _ _ _ _ _ _ _ _ _ _ _ _ _ _ _ _ _ _ _ _ _ _ _ _ _ _ _ _ _ _ _ _ _ _ _ _ _ _ _ _ _ _ _ _ _ _ _ _ _ _ _ _ _ _ _ _ _ _ _ _ _ _ _ _ _ _ _ _ _ _ _ _ _ _ _ _ _ _ _ _ _ _ _ _ _ _ _ _ _ _ _ _ _ _ _ _ _ _ _ _ _ _ _ _ _ _ _ _ _ _ _ _ _ _ _ _ _ _ _ _ _ _ _ _ _ _ _ _ _ _ _ _ _ _ _ _ _ _ _ _ _ _ _ _ _ _ _ _ _ _ _ _ _ _ _ _ _ _ _ _ _ _ _ _ _ _ _ _ _ _ _ _ _ _ _ _ _ _ _ _ _ _ _ _ _ _ _ _ _ _ _ _ _ _ _ _ _ _ _ _ _ _ _ _ _ _ _ _ _ _ _ _ _ _ _ _ _ _ _ _ _ _ _ _ _ _ _ _ _ _ _ _ _ _ _ _ _ _ _ _ _ _ _ _ _ _ _ _ _ _ _ _ _ _ _ _ _ _ _ _ _ _ _ _ _ _ _ _ _ _ _ _ _ _ _ _ _ _ _ _ _ _ _ _ _ _ _ _ _ _ _ _ _ _ _ _ _ _ _ _ _ _ _ _ _ _ _ _ _ _ _ _ _ _ _ _ _ _ _ _ _ _ _ _ _ _ _ _ _ _ _ _ _ _ _ _ _ _ _ _ _ _ _ _ _ _ _ _ _ _ _ _ _ _ _ _ _ _ _ _ _ _ _ _ _ _ _ _ _ _ _ _ _ _ _ _ _ _ hB hM hk hA hT7 hT8 hT9 hT10 hT11 hT12 hT13 hT14 hT15 hT16 hT17 hT18 hT19 hT20 hT21 hT22 hT23 hT24 hT25 hT26 hT27 hT28 hQ (by assumption)
end Go.Proofs.YgvahwGreat
