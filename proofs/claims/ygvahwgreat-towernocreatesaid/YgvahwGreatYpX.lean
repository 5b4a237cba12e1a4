import Derived.Test.YgvahwGreatYpW
namespace Go.Proofs.YgvahwGreat
open Go.RowKit
/-- What the shifts give. -/
def shW (o x y : Nat) : Nat := if o = 27 then y * 2 ^ min x 256 % P256 else if o = 28 then y / 2 ^ min x 256 else sarA x y
section
variable {O : Nat → Prop} {w : World} {v u : Value} {x y : Nat}
set_option maxRecDepth 100000 in
set_option maxHeartbeats 1600000 in
theorem yShifted (o : Nat) (ho : o = 27 ∨ o = 28 ∨ o = 29) (hO : Small O w) (h : NV O w v x) (g : NV O w u y) (hy : y < P256) : Calls Hvah.prog 357 #[.int .u8 o, v, u] w fun e w' => ∃ r, e = .returned r ∧ NV O w' r (shW o x y) ∧ Ext w w' := by
  have HU := nU64 O v x w h
  have hE := Ext.refl w
  have HN := fun W (hW : Ext w W) => yIsNeg (g.ext hW)
  have hd1 : dl y ≤ 2000 := Nat.le_trans (dl_P256' hy) (by decide)
  have hpd : dl (P256 - 1 - y) ≤ 2000 := Nat.le_trans (dl_P256' (show P256 - 1 - y < P256 by have := P256_pos; omega)) (by decide)
  have HB1 := fun W (hW : Ext w W) => yBitwise 25 (by decide) (hO.ext hW) (g.ext hW) (NV.nil (O := O) (w := W)) hy P256_pos
  have HW := fun W r z (hW : Ext w W) (hr : NV O W r z) => yWrapped (hO.ext hW) hr
  have e1 : bitW 25 y 0 = P256 - 1 - y := rfl
  rw [e1] at HB1
  rw [tb255 y hy] at HN
  have hdz : dl (2 ^ min x 256) ≤ 2000 := Nat.le_trans ((dl_le_iff _ 33).2 (by
    rw [show (256 : Nat) = 2 ^ 8 from rfl, ← Nat.pow_mul]
    generalize hz : 8 * 33 = z
    exact Nat.pow_lt_pow_right (by decide) (by omega))) (by decide)
  have HPk := fun W (hW : Ext w W) => nPow2 (hO.ext hW) (min x 256) (by omega)
  have hs : ∀ Z, Z = 2 ^ min x 256 → shW o x y = if o = 27 then y * Z % P256 else if o = 28 then y / Z else if negW y then P256 - 1 - (P256 - 1 - y) / Z else y / Z := fun Z hZ => by rw [hZ]; rfl
  obtain ⟨Z, hZ⟩ : ∃ Z, 2 ^ min x 256 = Z := ⟨_, rfl⟩
  have hs2 := hs Z hZ.symm
  rw [hs2]
  rw [hZ] at HPk hdz
  have HM := fun W r (hW : Ext w W) (hr : NV O W r Z) => nMul O _ _ _ _ _ (hO.ext hW) (g.ext hW) hr hd1 hdz
  have HD := fun W r (hW : Ext w W) (hr : NV O W r Z) => nDivMod O _ _ _ _ _ (hO.ext hW) (g.ext hW) hr hd1 hdz
  have HD2 := fun W q r (hW : Ext w W) (hq : NV O W q (P256 - 1 - y)) (hr : NV O W r Z) => nDivMod O _ _ _ _ _ (hO.ext hW) hq hr hpd hdz
  have hql : (P256 - 1 - y) / Z < P256 := Nat.lt_of_le_of_lt (Nat.div_le_self _ _) (by have := P256_pos; omega)
  have HB2 := fun W r (hW : Ext w W) (hr : NV O W r ((P256 - 1 - y) / Z)) => yBitwise 25 (by decide) (hO.ext hW) hr (NV.nil (O := O) (w := W)) hql P256_pos
  have e2 : bitW 25 ((P256 - 1 - y) / Z) 0 = P256 - 1 - (P256 - 1 - y) / Z := rfl
  rw [e2] at HB2
  simp only [Int.cast_ofNat_Int] at HB1 HB2
  clear hs hs2 hZ e1 e2 hd1 hpd hdz hql hy
  generalize (P256 - 1 - y) / Z = Q at *
  generalize P256 - 1 - Q = QQ at *
  generalize P256 - 1 - y = NY at *
  generalize y / Z = DZ at *
  by_cases hx : x ≤ 256
  · have h64 : x < 18446744073709551616 := by omega
    rw [if_pos h64, decide_eq_true h64] at HU
    rw [show min x 256 = x by omega] at HPk
    have i1 : ¬ (256 : Int) < x := by omega
    have i3 : IntKind.u16.wrap (x : Int) = x := by rw [IntKind.wrap_u16]; omega
    clear h64
    rcases ho with rfl | rfl | rfl
    · simp only [if_true]
      go_enter Hvah.func357, Hvah.ntmps357
      go_wp2_with (first
          | (go_at_call 89; refine HU.mono ?_; rintro e w1 ⟨rfl, rfl⟩)
          | (go_at_call 405; with_reducible refine (HPk _ hE).mono ?_; rintro e w1 ⟨r1, rfl, hr1, he⟩; replace hE := hE.trans he)
          | (go_at_call 60; with_reducible refine (HM _ _ hE hr1).mono ?_; rintro e w1 ⟨r2, rfl, hr2, he⟩; replace hE := hE.trans he)
          | (go_at_call 346; with_reducible refine (HW _ _ _ hE hr2).mono ?_; rintro e w1 ⟨r3, rfl, hr3, he⟩; replace hE := hE.trans he)
          | (go_at_call 350; with_reducible refine (HN _ hE).mono ?_; rintro e w1 ⟨rfl, rfl⟩)
          | (go_at_call_of 355 u; with_reducible refine (HB1 _ hE).mono ?_; rintro e w1 ⟨r4, rfl, hr4, he⟩; replace hE := hE.trans he; replace hr1 := hr1.ext he)
          | (go_at_call_of 164 u; with_reducible refine (HD _ _ hE hr1).mono ?_; rintro e w1 ⟨r5, r6, rfl, hr5, hr6, he⟩; replace hE := hE.trans he)
          | (go_at_call 164; with_reducible refine (HD2 _ _ _ hE hr4 hr1).mono ?_; rintro e w1 ⟨r5, r6, rfl, hr5, hr6, he⟩; replace hE := hE.trans he)
          | (go_at_call 355; with_reducible refine (HB2 _ _ hE hr5).mono ?_; rintro e w1 ⟨r7, rfl, hr7, he⟩; replace hE := hE.trans he))
      go_ret
      exact ⟨_, rfl, hr3, hE⟩
    · simp only [show (28 : Nat) ≠ 27 by decide, if_true, if_false]
      go_enter Hvah.func357, Hvah.ntmps357
      go_wp2_with (first
          | (go_at_call 89; refine HU.mono ?_; rintro e w1 ⟨rfl, rfl⟩)
          | (go_at_call 405; with_reducible refine (HPk _ hE).mono ?_; rintro e w1 ⟨r1, rfl, hr1, he⟩; replace hE := hE.trans he)
          | (go_at_call 60; with_reducible refine (HM _ _ hE hr1).mono ?_; rintro e w1 ⟨r2, rfl, hr2, he⟩; replace hE := hE.trans he)
          | (go_at_call 346; with_reducible refine (HW _ _ _ hE hr2).mono ?_; rintro e w1 ⟨r3, rfl, hr3, he⟩; replace hE := hE.trans he)
          | (go_at_call 350; with_reducible refine (HN _ hE).mono ?_; rintro e w1 ⟨rfl, rfl⟩)
          | (go_at_call_of 355 u; with_reducible refine (HB1 _ hE).mono ?_; rintro e w1 ⟨r4, rfl, hr4, he⟩; replace hE := hE.trans he; replace hr1 := hr1.ext he)
          | (go_at_call_of 164 u; with_reducible refine (HD _ _ hE hr1).mono ?_; rintro e w1 ⟨r5, r6, rfl, hr5, hr6, he⟩; replace hE := hE.trans he)
          | (go_at_call 164; with_reducible refine (HD2 _ _ _ hE hr4 hr1).mono ?_; rintro e w1 ⟨r5, r6, rfl, hr5, hr6, he⟩; replace hE := hE.trans he)
          | (go_at_call 355; with_reducible refine (HB2 _ _ hE hr5).mono ?_; rintro e w1 ⟨r7, rfl, hr7, he⟩; replace hE := hE.trans he))
      go_ret
      exact ⟨_, rfl, hr5, hE⟩
    · simp only [show (29 : Nat) ≠ 27 by decide, show (29 : Nat) ≠ 28 by decide, if_false]
      cases hb : negW y
      · rw [hb] at HN
        go_enter Hvah.func357, Hvah.ntmps357
        go_wp2_with (first
            | (go_at_call 89; refine HU.mono ?_; rintro e w1 ⟨rfl, rfl⟩)
            | (go_at_call 405; with_reducible refine (HPk _ hE).mono ?_; rintro e w1 ⟨r1, rfl, hr1, he⟩; replace hE := hE.trans he)
            | (go_at_call 60; with_reducible refine (HM _ _ hE hr1).mono ?_; rintro e w1 ⟨r2, rfl, hr2, he⟩; replace hE := hE.trans he)
            | (go_at_call 346; with_reducible refine (HW _ _ _ hE hr2).mono ?_; rintro e w1 ⟨r3, rfl, hr3, he⟩; replace hE := hE.trans he)
            | (go_at_call 350; with_reducible refine (HN _ hE).mono ?_; rintro e w1 ⟨rfl, rfl⟩)
            | (go_at_call_of 355 u; with_reducible refine (HB1 _ hE).mono ?_; rintro e w1 ⟨r4, rfl, hr4, he⟩; replace hE := hE.trans he; replace hr1 := hr1.ext he)
            | (go_at_call_of 164 u; with_reducible refine (HD _ _ hE hr1).mono ?_; rintro e w1 ⟨r5, r6, rfl, hr5, hr6, he⟩; replace hE := hE.trans he)
            | (go_at_call 164; with_reducible refine (HD2 _ _ _ hE hr4 hr1).mono ?_; rintro e w1 ⟨r5, r6, rfl, hr5, hr6, he⟩; replace hE := hE.trans he)
            | (go_at_call 355; with_reducible refine (HB2 _ _ hE hr5).mono ?_; rintro e w1 ⟨r7, rfl, hr7, he⟩; replace hE := hE.trans he))
        go_ret
        exact ⟨_, rfl, hr5, hE⟩
      · rw [hb] at HN
        go_enter Hvah.func357, Hvah.ntmps357
        go_wp2_with (first
            | (go_at_call 89; refine HU.mono ?_; rintro e w1 ⟨rfl, rfl⟩)
            | (go_at_call 405; with_reducible refine (HPk _ hE).mono ?_; rintro e w1 ⟨r1, rfl, hr1, he⟩; replace hE := hE.trans he)
            | (go_at_call 60; with_reducible refine (HM _ _ hE hr1).mono ?_; rintro e w1 ⟨r2, rfl, hr2, he⟩; replace hE := hE.trans he)
            | (go_at_call 346; with_reducible refine (HW _ _ _ hE hr2).mono ?_; rintro e w1 ⟨r3, rfl, hr3, he⟩; replace hE := hE.trans he)
            | (go_at_call 350; with_reducible refine (HN _ hE).mono ?_; rintro e w1 ⟨rfl, rfl⟩)
            | (go_at_call_of 355 u; with_reducible refine (HB1 _ hE).mono ?_; rintro e w1 ⟨r4, rfl, hr4, he⟩; replace hE := hE.trans he; replace hr1 := hr1.ext he)
            | (go_at_call_of 164 u; with_reducible refine (HD _ _ hE hr1).mono ?_; rintro e w1 ⟨r5, r6, rfl, hr5, hr6, he⟩; replace hE := hE.trans he)
            | (go_at_call 164; with_reducible refine (HD2 _ _ _ hE hr4 hr1).mono ?_; rintro e w1 ⟨r5, r6, rfl, hr5, hr6, he⟩; replace hE := hE.trans he)
            | (go_at_call 355; with_reducible refine (HB2 _ _ hE hr5).mono ?_; rintro e w1 ⟨r7, rfl, hr7, he⟩; replace hE := hE.trans he))
        go_ret
        exact ⟨_, rfl, hr7, hE⟩
  · rw [show min x 256 = 256 by omega] at HPk
    simp only [Int.cast_ofNat_Int] at HPk
    by_cases h64 : x < 18446744073709551616
    · rw [if_pos h64, decide_eq_true h64] at HU
      have i1 : (256 : Int) < x := by omega
      clear h64
      rcases ho with rfl | rfl | rfl
      · simp only [if_true]
        go_enter Hvah.func357, Hvah.ntmps357
        go_wp2_with (first
            | (go_at_call 89; refine HU.mono ?_; rintro e w1 ⟨rfl, rfl⟩)
            | (go_at_call 405; with_reducible refine (HPk _ hE).mono ?_; rintro e w1 ⟨r1, rfl, hr1, he⟩; replace hE := hE.trans he)
            | (go_at_call 60; with_reducible refine (HM _ _ hE hr1).mono ?_; rintro e w1 ⟨r2, rfl, hr2, he⟩; replace hE := hE.trans he)
            | (go_at_call 346; with_reducible refine (HW _ _ _ hE hr2).mono ?_; rintro e w1 ⟨r3, rfl, hr3, he⟩; replace hE := hE.trans he)
            | (go_at_call 350; with_reducible refine (HN _ hE).mono ?_; rintro e w1 ⟨rfl, rfl⟩)
            | (go_at_call_of 355 u; with_reducible refine (HB1 _ hE).mono ?_; rintro e w1 ⟨r4, rfl, hr4, he⟩; replace hE := hE.trans he; replace hr1 := hr1.ext he)
            | (go_at_call_of 164 u; with_reducible refine (HD _ _ hE hr1).mono ?_; rintro e w1 ⟨r5, r6, rfl, hr5, hr6, he⟩; replace hE := hE.trans he)
            | (go_at_call 164; with_reducible refine (HD2 _ _ _ hE hr4 hr1).mono ?_; rintro e w1 ⟨r5, r6, rfl, hr5, hr6, he⟩; replace hE := hE.trans he)
            | (go_at_call 355; with_reducible refine (HB2 _ _ hE hr5).mono ?_; rintro e w1 ⟨r7, rfl, hr7, he⟩; replace hE := hE.trans he))
        go_ret
        exact ⟨_, rfl, hr3, hE⟩
      · simp only [show (28 : Nat) ≠ 27 by decide, if_true, if_false]
        go_enter Hvah.func357, Hvah.ntmps357
        go_wp2_with (first
            | (go_at_call 89; refine HU.mono ?_; rintro e w1 ⟨rfl, rfl⟩)
            | (go_at_call 405; with_reducible refine (HPk _ hE).mono ?_; rintro e w1 ⟨r1, rfl, hr1, he⟩; replace hE := hE.trans he)
            | (go_at_call 60; with_reducible refine (HM _ _ hE hr1).mono ?_; rintro e w1 ⟨r2, rfl, hr2, he⟩; replace hE := hE.trans he)
            | (go_at_call 346; with_reducible refine (HW _ _ _ hE hr2).mono ?_; rintro e w1 ⟨r3, rfl, hr3, he⟩; replace hE := hE.trans he)
            | (go_at_call 350; with_reducible refine (HN _ hE).mono ?_; rintro e w1 ⟨rfl, rfl⟩)
            | (go_at_call_of 355 u; with_reducible refine (HB1 _ hE).mono ?_; rintro e w1 ⟨r4, rfl, hr4, he⟩; replace hE := hE.trans he; replace hr1 := hr1.ext he)
            | (go_at_call_of 164 u; with_reducible refine (HD _ _ hE hr1).mono ?_; rintro e w1 ⟨r5, r6, rfl, hr5, hr6, he⟩; replace hE := hE.trans he)
            | (go_at_call 164; with_reducible refine (HD2 _ _ _ hE hr4 hr1).mono ?_; rintro e w1 ⟨r5, r6, rfl, hr5, hr6, he⟩; replace hE := hE.trans he)
            | (go_at_call 355; with_reducible refine (HB2 _ _ hE hr5).mono ?_; rintro e w1 ⟨r7, rfl, hr7, he⟩; replace hE := hE.trans he))
        go_ret
        exact ⟨_, rfl, hr5, hE⟩
      · simp only [show (29 : Nat) ≠ 27 by decide, show (29 : Nat) ≠ 28 by decide, if_false]
        cases hb : negW y
        · rw [hb] at HN
          go_enter Hvah.func357, Hvah.ntmps357
          go_wp2_with (first
              | (go_at_call 89; refine HU.mono ?_; rintro e w1 ⟨rfl, rfl⟩)
              | (go_at_call 405; with_reducible refine (HPk _ hE).mono ?_; rintro e w1 ⟨r1, rfl, hr1, he⟩; replace hE := hE.trans he)
              | (go_at_call 60; with_reducible refine (HM _ _ hE hr1).mono ?_; rintro e w1 ⟨r2, rfl, hr2, he⟩; replace hE := hE.trans he)
              | (go_at_call 346; with_reducible refine (HW _ _ _ hE hr2).mono ?_; rintro e w1 ⟨r3, rfl, hr3, he⟩; replace hE := hE.trans he)
              | (go_at_call 350; with_reducible refine (HN _ hE).mono ?_; rintro e w1 ⟨rfl, rfl⟩)
              | (go_at_call_of 355 u; with_reducible refine (HB1 _ hE).mono ?_; rintro e w1 ⟨r4, rfl, hr4, he⟩; replace hE := hE.trans he; replace hr1 := hr1.ext he)
              | (go_at_call_of 164 u; with_reducible refine (HD _ _ hE hr1).mono ?_; rintro e w1 ⟨r5, r6, rfl, hr5, hr6, he⟩; replace hE := hE.trans he)
              | (go_at_call 164; with_reducible refine (HD2 _ _ _ hE hr4 hr1).mono ?_; rintro e w1 ⟨r5, r6, rfl, hr5, hr6, he⟩; replace hE := hE.trans he)
              | (go_at_call 355; with_reducible refine (HB2 _ _ hE hr5).mono ?_; rintro e w1 ⟨r7, rfl, hr7, he⟩; replace hE := hE.trans he))
          go_ret
          exact ⟨_, rfl, hr5, hE⟩
        · rw [hb] at HN
          go_enter Hvah.func357, Hvah.ntmps357
          go_wp2_with (first
              | (go_at_call 89; refine HU.mono ?_; rintro e w1 ⟨rfl, rfl⟩)
              | (go_at_call 405; with_reducible refine (HPk _ hE).mono ?_; rintro e w1 ⟨r1, rfl, hr1, he⟩; replace hE := hE.trans he)
              | (go_at_call 60; with_reducible refine (HM _ _ hE hr1).mono ?_; rintro e w1 ⟨r2, rfl, hr2, he⟩; replace hE := hE.trans he)
              | (go_at_call 346; with_reducible refine (HW _ _ _ hE hr2).mono ?_; rintro e w1 ⟨r3, rfl, hr3, he⟩; replace hE := hE.trans he)
              | (go_at_call 350; with_reducible refine (HN _ hE).mono ?_; rintro e w1 ⟨rfl, rfl⟩)
              | (go_at_call_of 355 u; with_reducible refine (HB1 _ hE).mono ?_; rintro e w1 ⟨r4, rfl, hr4, he⟩; replace hE := hE.trans he; replace hr1 := hr1.ext he)
              | (go_at_call_of 164 u; with_reducible refine (HD _ _ hE hr1).mono ?_; rintro e w1 ⟨r5, r6, rfl, hr5, hr6, he⟩; replace hE := hE.trans he)
              | (go_at_call 164; with_reducible refine (HD2 _ _ _ hE hr4 hr1).mono ?_; rintro e w1 ⟨r5, r6, rfl, hr5, hr6, he⟩; replace hE := hE.trans he)
              | (go_at_call 355; with_reducible refine (HB2 _ _ hE hr5).mono ?_; rintro e w1 ⟨r7, rfl, hr7, he⟩; replace hE := hE.trans he))
          go_ret
          exact ⟨_, rfl, hr7, hE⟩
    · rw [if_neg h64, decide_eq_false h64] at HU
      clear h64
      rcases ho with rfl | rfl | rfl
      · simp only [if_true]
        go_enter Hvah.func357, Hvah.ntmps357
        go_wp2_with (first
            | (go_at_call 89; refine HU.mono ?_; rintro e w1 ⟨rfl, rfl⟩)
            | (go_at_call 405; with_reducible refine (HPk _ hE).mono ?_; rintro e w1 ⟨r1, rfl, hr1, he⟩; replace hE := hE.trans he)
            | (go_at_call 60; with_reducible refine (HM _ _ hE hr1).mono ?_; rintro e w1 ⟨r2, rfl, hr2, he⟩; replace hE := hE.trans he)
            | (go_at_call 346; with_reducible refine (HW _ _ _ hE hr2).mono ?_; rintro e w1 ⟨r3, rfl, hr3, he⟩; replace hE := hE.trans he)
            | (go_at_call 350; with_reducible refine (HN _ hE).mono ?_; rintro e w1 ⟨rfl, rfl⟩)
            | (go_at_call_of 355 u; with_reducible refine (HB1 _ hE).mono ?_; rintro e w1 ⟨r4, rfl, hr4, he⟩; replace hE := hE.trans he; replace hr1 := hr1.ext he)
            | (go_at_call_of 164 u; with_reducible refine (HD _ _ hE hr1).mono ?_; rintro e w1 ⟨r5, r6, rfl, hr5, hr6, he⟩; replace hE := hE.trans he)
            | (go_at_call 164; with_reducible refine (HD2 _ _ _ hE hr4 hr1).mono ?_; rintro e w1 ⟨r5, r6, rfl, hr5, hr6, he⟩; replace hE := hE.trans he)
            | (go_at_call 355; with_reducible refine (HB2 _ _ hE hr5).mono ?_; rintro e w1 ⟨r7, rfl, hr7, he⟩; replace hE := hE.trans he))
        go_ret
        exact ⟨_, rfl, hr3, hE⟩
      · simp only [show (28 : Nat) ≠ 27 by decide, if_true, if_false]
        go_enter Hvah.func357, Hvah.ntmps357
        go_wp2_with (first
            | (go_at_call 89; refine HU.mono ?_; rintro e w1 ⟨rfl, rfl⟩)
            | (go_at_call 405; with_reducible refine (HPk _ hE).mono ?_; rintro e w1 ⟨r1, rfl, hr1, he⟩; replace hE := hE.trans he)
            | (go_at_call 60; with_reducible refine (HM _ _ hE hr1).mono ?_; rintro e w1 ⟨r2, rfl, hr2, he⟩; replace hE := hE.trans he)
            | (go_at_call 346; with_reducible refine (HW _ _ _ hE hr2).mono ?_; rintro e w1 ⟨r3, rfl, hr3, he⟩; replace hE := hE.trans he)
            | (go_at_call 350; with_reducible refine (HN _ hE).mono ?_; rintro e w1 ⟨rfl, rfl⟩)
            | (go_at_call_of 355 u; with_reducible refine (HB1 _ hE).mono ?_; rintro e w1 ⟨r4, rfl, hr4, he⟩; replace hE := hE.trans he; replace hr1 := hr1.ext he)
            | (go_at_call_of 164 u; with_reducible refine (HD _ _ hE hr1).mono ?_; rintro e w1 ⟨r5, r6, rfl, hr5, hr6, he⟩; replace hE := hE.trans he)
            | (go_at_call 164; with_reducible refine (HD2 _ _ _ hE hr4 hr1).mono ?_; rintro e w1 ⟨r5, r6, rfl, hr5, hr6, he⟩; replace hE := hE.trans he)
            | (go_at_call 355; with_reducible refine (HB2 _ _ hE hr5).mono ?_; rintro e w1 ⟨r7, rfl, hr7, he⟩; replace hE := hE.trans he))
        go_ret
        exact ⟨_, rfl, hr5, hE⟩
      · simp only [show (29 : Nat) ≠ 27 by decide, show (29 : Nat) ≠ 28 by decide, if_false]
        cases hb : negW y
        · rw [hb] at HN
          go_enter Hvah.func357, Hvah.ntmps357
          go_wp2_with (first
              | (go_at_call 89; refine HU.mono ?_; rintro e w1 ⟨rfl, rfl⟩)
              | (go_at_call 405; with_reducible refine (HPk _ hE).mono ?_; rintro e w1 ⟨r1, rfl, hr1, he⟩; replace hE := hE.trans he)
              | (go_at_call 60; with_reducible refine (HM _ _ hE hr1).mono ?_; rintro e w1 ⟨r2, rfl, hr2, he⟩; replace hE := hE.trans he)
              | (go_at_call 346; with_reducible refine (HW _ _ _ hE hr2).mono ?_; rintro e w1 ⟨r3, rfl, hr3, he⟩; replace hE := hE.trans he)
              | (go_at_call 350; with_reducible refine (HN _ hE).mono ?_; rintro e w1 ⟨rfl, rfl⟩)
              | (go_at_call_of 355 u; with_reducible refine (HB1 _ hE).mono ?_; rintro e w1 ⟨r4, rfl, hr4, he⟩; replace hE := hE.trans he; replace hr1 := hr1.ext he)
              | (go_at_call_of 164 u; with_reducible refine (HD _ _ hE hr1).mono ?_; rintro e w1 ⟨r5, r6, rfl, hr5, hr6, he⟩; replace hE := hE.trans he)
              | (go_at_call 164; with_reducible refine (HD2 _ _ _ hE hr4 hr1).mono ?_; rintro e w1 ⟨r5, r6, rfl, hr5, hr6, he⟩; replace hE := hE.trans he)
              | (go_at_call 355; with_reducible refine (HB2 _ _ hE hr5).mono ?_; rintro e w1 ⟨r7, rfl, hr7, he⟩; replace hE := hE.trans he))
          go_ret
          exact ⟨_, rfl, hr5, hE⟩
        · rw [hb] at HN
          go_enter Hvah.func357, Hvah.ntmps357
          go_wp2_with (first
              | (go_at_call 89; refine HU.mono ?_; rintro e w1 ⟨rfl, rfl⟩)
              | (go_at_call 405; with_reducible refine (HPk _ hE).mono ?_; rintro e w1 ⟨r1, rfl, hr1, he⟩; replace hE := hE.trans he)
              | (go_at_call 60; with_reducible refine (HM _ _ hE hr1).mono ?_; rintro e w1 ⟨r2, rfl, hr2, he⟩; replace hE := hE.trans he)
              | (go_at_call 346; with_reducible refine (HW _ _ _ hE hr2).mono ?_; rintro e w1 ⟨r3, rfl, hr3, he⟩; replace hE := hE.trans he)
              | (go_at_call 350; with_reducible refine (HN _ hE).mono ?_; rintro e w1 ⟨rfl, rfl⟩)
              | (go_at_call_of 355 u; with_reducible refine (HB1 _ hE).mono ?_; rintro e w1 ⟨r4, rfl, hr4, he⟩; replace hE := hE.trans he; replace hr1 := hr1.ext he)
              | (go_at_call_of 164 u; with_reducible refine (HD _ _ hE hr1).mono ?_; rintro e w1 ⟨r5, r6, rfl, hr5, hr6, he⟩; replace hE := hE.trans he)
              | (go_at_call 164; with_reducible refine (HD2 _ _ _ hE hr4 hr1).mono ?_; rintro e w1 ⟨r5, r6, rfl, hr5, hr6, he⟩; replace hE := hE.trans he)
              | (go_at_call 355; with_reducible refine (HB2 _ _ hE hr5).mono ?_; rintro e w1 ⟨r7, rfl, hr7, he⟩; replace hE := hE.trans he))
          go_ret
          exact ⟨_, rfl, hr7, hE⟩
end
end Go.Proofs.YgvahwGreat
