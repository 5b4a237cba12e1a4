import Derived.Test.YgvahwGreatKa0
namespace Go.Proofs.YgvahwGreat
open Go.RowKit
set_option linter.unusedSimpArgs false
set_option maxRecDepth 100000 in
set_option maxHeartbeats 640000000 in
theorem kRound0 (H5 : CK5) : KRnd := by
  intro w g c a hB hA hk
  have k0 := hk 0
  have c0 := hB.cell (i := 0) (by decide)
  rw [hA 0 (by decide)] at c0
  have k1 := hk 1
  have c1 := hB.cell (i := 1) (by decide)
  rw [hA 1 (by decide)] at c1
  have k2 := hk 2
  have c2 := hB.cell (i := 2) (by decide)
  rw [hA 2 (by decide)] at c2
  have k3 := hk 3
  have c3 := hB.cell (i := 3) (by decide)
  rw [hA 3 (by decide)] at c3
  have k4 := hk 4
  have c4 := hB.cell (i := 4) (by decide)
  rw [hA 4 (by decide)] at c4
  have k5 := hk 5
  have c5 := hB.cell (i := 5) (by decide)
  rw [hA 5 (by decide)] at c5
  have k6 := hk 6
  have c6 := hB.cell (i := 6) (by decide)
  rw [hA 6 (by decide)] at c6
  have k7 := hk 7
  have c7 := hB.cell (i := 7) (by decide)
  rw [hA 7 (by decide)] at c7
  have k8 := hk 8
  have c8 := hB.cell (i := 8) (by decide)
  rw [hA 8 (by decide)] at c8
  have k9 := hk 9
  have c9 := hB.cell (i := 9) (by decide)
  rw [hA 9 (by decide)] at c9
  have k10 := hk 10
  have c10 := hB.cell (i := 10) (by decide)
  rw [hA 10 (by decide)] at c10
  have k11 := hk 11
  have c11 := hB.cell (i := 11) (by decide)
  rw [hA 11 (by decide)] at c11
  have k12 := hk 12
  have c12 := hB.cell (i := 12) (by decide)
  rw [hA 12 (by decide)] at c12
  have k13 := hk 13
  have c13 := hB.cell (i := 13) (by decide)
  rw [hA 13 (by decide)] at c13
  have k14 := hk 14
  have c14 := hB.cell (i := 14) (by decide)
  rw [hA 14 (by decide)] at c14
  have k15 := hk 15
  have c15 := hB.cell (i := 15) (by decide)
  rw [hA 15 (by decide)] at c15
  have k16 := hk 16
  have c16 := hB.cell (i := 16) (by decide)
  rw [hA 16 (by decide)] at c16
  have k17 := hk 17
  have c17 := hB.cell (i := 17) (by decide)
  rw [hA 17 (by decide)] at c17
  have k18 := hk 18
  have c18 := hB.cell (i := 18) (by decide)
  rw [hA 18 (by decide)] at c18
  have k19 := hk 19
  have c19 := hB.cell (i := 19) (by decide)
  rw [hA 19 (by decide)] at c19
  have k20 := hk 20
  have c20 := hB.cell (i := 20) (by decide)
  rw [hA 20 (by decide)] at c20
  have k21 := hk 21
  have c21 := hB.cell (i := 21) (by decide)
  rw [hA 21 (by decide)] at c21
  have k22 := hk 22
  have c22 := hB.cell (i := 22) (by decide)
  rw [hA 22 (by decide)] at c22
  have k23 := hk 23
  have c23 := hB.cell (i := 23) (by decide)
  rw [hA 23 (by decide)] at c23
  have k24 := hk 24
  have c24 := hB.cell (i := 24) (by decide)
  rw [hA 24 (by decide)] at c24
  obtain ⟨x0, h0⟩ : ∃ n, Hid (kget a 0 = n) := ⟨_, rfl⟩
  rw [h0.out] at c0 k0
  obtain ⟨x1, h1⟩ : ∃ n, Hid (kget a 1 = n) := ⟨_, rfl⟩
  rw [h1.out] at c1 k1
  obtain ⟨x2, h2⟩ : ∃ n, Hid (kget a 2 = n) := ⟨_, rfl⟩
  rw [h2.out] at c2 k2
  obtain ⟨x3, h3⟩ : ∃ n, Hid (kget a 3 = n) := ⟨_, rfl⟩
  rw [h3.out] at c3 k3
  obtain ⟨x4, h4⟩ : ∃ n, Hid (kget a 4 = n) := ⟨_, rfl⟩
  rw [h4.out] at c4 k4
  obtain ⟨x5, h5⟩ : ∃ n, Hid (kget a 5 = n) := ⟨_, rfl⟩
  rw [h5.out] at c5 k5
  obtain ⟨x6, h6⟩ : ∃ n, Hid (kget a 6 = n) := ⟨_, rfl⟩
  rw [h6.out] at c6 k6
  obtain ⟨x7, h7⟩ : ∃ n, Hid (kget a 7 = n) := ⟨_, rfl⟩
  rw [h7.out] at c7 k7
  obtain ⟨x8, h8⟩ : ∃ n, Hid (kget a 8 = n) := ⟨_, rfl⟩
  rw [h8.out] at c8 k8
  obtain ⟨x9, h9⟩ : ∃ n, Hid (kget a 9 = n) := ⟨_, rfl⟩
  rw [h9.out] at c9 k9
  obtain ⟨x10, h10⟩ : ∃ n, Hid (kget a 10 = n) := ⟨_, rfl⟩
  rw [h10.out] at c10 k10
  obtain ⟨x11, h11⟩ : ∃ n, Hid (kget a 11 = n) := ⟨_, rfl⟩
  rw [h11.out] at c11 k11
  obtain ⟨x12, h12⟩ : ∃ n, Hid (kget a 12 = n) := ⟨_, rfl⟩
  rw [h12.out] at c12 k12
  obtain ⟨x13, h13⟩ : ∃ n, Hid (kget a 13 = n) := ⟨_, rfl⟩
  rw [h13.out] at c13 k13
  obtain ⟨x14, h14⟩ : ∃ n, Hid (kget a 14 = n) := ⟨_, rfl⟩
  rw [h14.out] at c14 k14
  obtain ⟨x15, h15⟩ : ∃ n, Hid (kget a 15 = n) := ⟨_, rfl⟩
  rw [h15.out] at c15 k15
  obtain ⟨x16, h16⟩ : ∃ n, Hid (kget a 16 = n) := ⟨_, rfl⟩
  rw [h16.out] at c16 k16
  obtain ⟨x17, h17⟩ : ∃ n, Hid (kget a 17 = n) := ⟨_, rfl⟩
  rw [h17.out] at c17 k17
  obtain ⟨x18, h18⟩ : ∃ n, Hid (kget a 18 = n) := ⟨_, rfl⟩
  rw [h18.out] at c18 k18
  obtain ⟨x19, h19⟩ : ∃ n, Hid (kget a 19 = n) := ⟨_, rfl⟩
  rw [h19.out] at c19 k19
  obtain ⟨x20, h20⟩ : ∃ n, Hid (kget a 20 = n) := ⟨_, rfl⟩
  rw [h20.out] at c20 k20
  obtain ⟨x21, h21⟩ : ∃ n, Hid (kget a 21 = n) := ⟨_, rfl⟩
  rw [h21.out] at c21 k21
  obtain ⟨x22, h22⟩ : ∃ n, Hid (kget a 22 = n) := ⟨_, rfl⟩
  rw [h22.out] at c22 k22
  obtain ⟨x23, h23⟩ : ∃ n, Hid (kget a 23 = n) := ⟨_, rfl⟩
  rw [h23.out] at c23 k23
  obtain ⟨x24, h24⟩ : ∃ n, Hid (kget a 24 = n) := ⟨_, rfl⟩
  rw [h24.out] at c24 k24
  go_enter Hvah.func406, Hvah.ntmps406
  go_upto_region 0 with (fail)
  go_quiet (fail)
  go_upto_region 1 with (fail)
  rw [col_e k0 k5 k10 k15 k20]
  obtain ⟨T2, hT2⟩ : ∃ n, Hid (kcol a 0 = n) := ⟨_, rfl⟩
  rw [show x0 ^^^ x5 ^^^ x10 ^^^ x15 ^^^ x20 = T2 by rw [← hT2.out, ← h0.out, ← h5.out, ← h10.out, ← h15.out, ← h20.out]; rfl]
  go_upto_region 1 with (fail)
  go_quiet (fail)
  go_upto_region 2 with (fail)
  rw [col_e k1 k6 k11 k16 k21]
  obtain ⟨T3, hT3⟩ : ∃ n, Hid (kcol a 1 = n) := ⟨_, rfl⟩
  rw [show x1 ^^^ x6 ^^^ x11 ^^^ x16 ^^^ x21 = T3 by rw [← hT3.out, ← h1.out, ← h6.out, ← h11.out, ← h16.out, ← h21.out]; rfl]
  go_upto_region 2 with (fail)
  go_quiet (fail)
  go_upto_region 3 with (fail)
  rw [col_e k2 k7 k12 k17 k22]
  obtain ⟨T4, hT4⟩ : ∃ n, Hid (kcol a 2 = n) := ⟨_, rfl⟩
  rw [show x2 ^^^ x7 ^^^ x12 ^^^ x17 ^^^ x22 = T4 by rw [← hT4.out, ← h2.out, ← h7.out, ← h12.out, ← h17.out, ← h22.out]; rfl]
  go_upto_region 3 with (fail)
  go_quiet (fail)
  go_upto_region 4 with (fail)
  rw [col_e k3 k8 k13 k18 k23]
  obtain ⟨T5, hT5⟩ : ∃ n, Hid (kcol a 3 = n) := ⟨_, rfl⟩
  rw [show x3 ^^^ x8 ^^^ x13 ^^^ x18 ^^^ x23 = T5 by rw [← hT5.out, ← h3.out, ← h8.out, ← h13.out, ← h18.out, ← h23.out]; rfl]
  go_upto_region 4 with (fail)
  go_quiet (fail)
  go_upto_region 5 with (fail)
  rw [col_e k4 k9 k14 k19 k24]
  obtain ⟨T6, hT6⟩ : ∃ n, Hid (kcol a 4 = n) := ⟨_, rfl⟩
  rw [show x4 ^^^ x9 ^^^ x14 ^^^ x19 ^^^ x24 = T6 by rw [← hT6.out, ← h4.out, ← h9.out, ← h14.out, ← h19.out, ← h24.out]; rfl]
  refine w_gen (fun W => Ext w W) (by repeat (first | exact Ext.refl _ | refine Ext.drewN ?_ _ | refine Ext.drew ?_)) ?_
  rintro W0 hW0
  refine H5 w W0 g c a _ _ T2 T3 T4 T5 T6 _ _ _ _ _ _ _ _ _ _ _ _ _ _ _ _ _ _ _ _ _ _ _ _ _ _ _ _ _ _ _ _ _ _ _ _ _ _ _ _ _ _ _ _ _ _ _ _ _ _ _ _ _ _ _ _ _ _ _ _ _ _ _ _ _ _ _ _ _ _ _ _ _ _ _ _ _ _ _ _ _ _ _ _ _ _ _ _ _ _ _ _ _ _ _ _ _ _ _ _ _ _ _ _ _ _ _ _ _ _ _ _ _ _ _ _ _ _ _ _ _ _ _ _ _ _ _ _ _ _ _ _ _ _ _ _ _ _ _ _ _ _ _ _ _ _ _ _ _ _ _ _ _ _ _ _ _ _ _ _ _ _ _ _ _ _ _ _ _ _ _ _ _ _ _ _ _ _ _ _ _ _ _ _ _ _ _ _ _ _ _ _ _ _ _ _ _ _ _ _ _ _ _ _ _ _ _ _ _ _ _ _ _ _ _ _ _ _ _ _ _ _ _ _ _ _ _ _ _ _ _ _ _ _ _ _ _ _ _ _ _ _ _ _ _ _ _ _ _ _ _ _ _ _ _ _ _ _ _ _ _ _ _ _ _ _ _ _ _ _ _ _ _ _ _ _ _ _ _ _ _ _ _ _ _ _ _ _ _ _ _ _ _ _ _ _ _ _ _ _ _ _ _ _ _ _ _ _ _ _ _ _ _ _ _ _ _ _ _ _ _ _ _ _ _ _ _ _ _ _ _ _ _ _ _ _ _ _ _ _ _ _ _ _ _ _ _ _ _ _ _ _ _ _ _ _ _ _ _ _ _ _ _ _ _ _ _ _ _ _ _ _ _ _ _ _ _ _ _ _ _ _ _ _ _ _ _ _ _ _ _ _ _ _ _ _ _ _ _ _ _ _ _ _ _ _ _ _ _ _ _ _ _ _ _ _ _ _ _ _ _ _ _ _ _ _ _ _ _ _ _ _ _ _ _ _ _ _ _ _ _ _ _ _ _ _ _ _ _ _ _ _ _ _ _ _ _ _ _ _ _ _ _ _ _ _ _ _ _ _ _ _ _ _ _ _ _ _ _ _ _ _ _ _ _ _ _ _ _ _ _ _ _ _ _ _ _ _ _ _ _ _ _ _ _ _ _ _ _ _ _ _ _ _ _ _ _ _ _ _ _ _ _ _ _ _ _ _ _ _ _ _ _ _ _ _ _ _ _ _ _ _ _ _ _ _ _ _ _ _ _ _ _ _ _ _ _ _ _ _ _ _ _ _ _ _ _ _ _ _ (hB.ext hW0) (hW0.mod _) hk hA hT2 hT3 hT4 hT5 hT6 ?_ (by assumption)
  intro ac w' c' hd hB' hA' hM'
  exact bodyPost_end (v := .tuple #[]) (results_none rfl _ _ _) hd ⟨rfl, c', hB', hA', hM'⟩
end Go.Proofs.YgvahwGreat
