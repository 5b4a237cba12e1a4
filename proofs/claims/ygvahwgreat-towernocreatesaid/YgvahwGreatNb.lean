import Derived.Test.YgvahwGreatNa
namespace Go.Proofs.YgvahwGreat
open Go.RowKit
set_option linter.unusedSimpArgs false
theorem dmod_lt {x m : Nat} (h : m ≠ 0) : dmod x m < m := by unfold dmod; rw [if_neg h]; exact Nat.mod_lt _ (by omega)
theorem dl_dmod {x m k : Nat} (h : dl m ≤ k) : dl (dmod x m) ≤ k := by
  by_cases h0 : m = 0
  · unfold dmod; rw [if_pos h0]; exact Nat.zero_le _
  · exact Nat.le_trans (dl_mono (Nat.le_of_lt (dmod_lt h0))) h
theorem dmod_mul (a b m : Nat) : dmod (dmod a m * b) m = dmod (a * b) m := by
  unfold dmod
  split
  · rfl
  · rw [Nat.mod_mul_mod]
theorem dmod_mul2 (a b m : Nat) : dmod (dmod a m * dmod b m) m = dmod (a * b) m := by
  unfold dmod
  split
  · rfl
  · rw [← Nat.mul_mod]
theorem div_nbits (x : Nat) : x / 2 ^ nbits x = 0 := by
  unfold nbits
  split
  · rename_i h; subst h; rfl
  · rename_i h
    exact Nat.div_eq_of_lt Nat.lt_log2_self
theorem nbits_le {x k : Nat} (h : x < 2 ^ k) : nbits x ≤ k := by
  unfold nbits
  split
  · exact Nat.zero_le _
  · rename_i h0
    exact (Nat.log2_lt h0).2 h
section
variable {O : Nat → Prop} {w : World} {vb ve vm : Value} {b m : Nat} {L : List Nat}
set_option maxRecDepth 100000 in
set_option maxHeartbeats 6400000 in
theorem yModExp (hO : Small O w) (hb : NV O w vb b) (he : NL O w ve L) (hm : NV O w vm m) (hdb : dl b ≤ 100) (hdm : dl m ≤ 100) (hl : L.length ≤ 1000) : Calls Hvah.prog 231 #[vb, ve, vm] w fun e w' => ∃ r, e = .returned r ∧ NV O w' r (dmod (b ^ val L) m) ∧ Ext w w' := by
  have hx := val_lt L he.digits
  rw [show (256 : Nat) = 2 ^ 8 from rfl, ← Nat.pow_mul] at hx
  have hn := nbits_le hx
  have hev : NV O w ve (val L) := ⟨L, he, rfl⟩
  have HBT := fun W (hW : Ext w W) => yBits (he.ext hW) (by omega)
  have hz := div_nbits (val L)
  have hnl : nbits (val L) ≤ 8000 := by omega
  clear hx hn
  generalize val L = x at *
  have hdr : ∀ A, dl (dmod A m) ≤ 100 := fun A => dl_dmod hdm
  have hd2 : ∀ A, dl (dmod A m * dmod A m) ≤ 2000 := fun A => Nat.le_trans (dl_mul _ _ _ _ (hdr A) (hdr A)) (by decide)
  have hd3 : ∀ A, dl (dmod A m * b) ≤ 2000 := fun A => Nat.le_trans (dl_mul _ _ _ _ (hdr A) hdb) (by decide)
  have up : ∀ A, dl (dmod A m) ≤ 2000 := fun A => Nat.le_trans (hdr A) (by decide)
  have hni : (nbits x : Int) ≤ 8000 := by omega
  obtain ⟨N, hN⟩ : ∃ N, Hid (nbits x = N) := ⟨_, rfl⟩
  rw [hN.out] at HBT hni hnl hz
  go_enter Hvah.func231, Hvah.ntmps231
  go_wp2_with (first | (go_at_call 42; refine (nNum O 1 _ hO (by decide)).mono ?_; rintro e w1 ⟨r1, rfl, hr1, he1⟩) | (go_at_call 164; refine (nDivMod O _ _ _ _ _ (hO.ext he1) hr1 (hm.ext he1) (by decide) (Nat.le_trans hdm (by decide))).mono ?_; rintro e w2 ⟨q2, r2, rfl, hq2, hr2, he2⟩; have hE := he1.trans he2) | (go_at_call 229; refine (HBT _ hE).mono ?_; rintro e w3 ⟨rfl, hww⟩; replace hww := hww.symm; subst hww))
  go_loopw [8, 10] (fun p ix wr => ∃ k, k ≤ N ∧ ix = .int .u64 (k : Nat) ∧ Ext w wr ∧ NV O wr p (dmod (b ^ (x / 2 ^ k)) m)) (fun _ ix _ => (intOf ix).toNat)
  case atStart => exact ⟨N, Nat.le_refl _, rfl, hE, by rw [hz]; exact hr2⟩
  case round =>
    obtain ⟨k, hk, rfl, hE, hp⟩ := hrel
    by_cases h0 : k = 0
    · subst h0
      rw [Nat.pow_zero, Nat.div_one] at hp
      go_wp2
      go_ret
      exact ⟨_, rfl, hp, hE⟩
    · obtain ⟨j, rfl⟩ : ∃ j, k = j + 1 := ⟨k - 1, by omega⟩
      have hji : ((j + 1 : Nat) : Int) - 1 = j := by omega
      have hj0 : (0 : Int) < ((j + 1 : Nat) : Int) := by omega
      have hjw : IntKind.u16.wrap (j : Int) = j := by rw [IntKind.wrap_u16]; omega
      have hpb := pow_bit b x j
      obtain ⟨Bq, hBe⟩ : ∃ Bq, Hid (b ^ (x / 2 ^ j) = Bq) := ⟨_, rfl⟩
      rw [hBe.out] at hpb
      generalize b ^ (x / 2 ^ (j + 1)) = A at *
      have hj6 : j < 65536 := by omega
      have m1 := dmod_mul2 A A m
      have m2 := dmod_mul (A * A) b m
      have HM : Hid (_ ∧ _ ∧ _) := ⟨m1, m2, hpb⟩
      clear m1 m2 hpb
      go_wp2_with (first
        | (go_at_call_of 60 vb; refine (nMul O _ _ _ _ _ (hO.ext (hE.trans (he1.trans he2))) hr2 (hb.ext (hE.trans (he1.trans he2))) (up _) (Nat.le_trans hdb (by decide))).mono ?_; rintro e w3 ⟨r3, rfl, hr3, he3⟩)
        | (go_at_call 60; refine (nMul O _ _ _ _ _ (hO.ext hE) hp hp (up _) (up _)).mono ?_; rintro e w1 ⟨r1, rfl, hr1, he1⟩)
        | (go_at_call_of 164 r3; refine (nDivMod O _ _ _ _ _ (hO.ext (hE.trans ((he1.trans he2).trans he3))) hr3 (hm.ext (hE.trans ((he1.trans he2).trans he3))) (hd3 _) (Nat.le_trans hdm (by decide))).mono ?_; rintro e w4 ⟨q4, r4, rfl, hq4, hr4, he4⟩)
        | (go_at_call 164; refine (nDivMod O _ _ _ _ _ (hO.ext (hE.trans he1)) hr1 (hm.ext (hE.trans he1)) (hd2 _) (Nat.le_trans hdm (by decide))).mono ?_; rintro e w2 ⟨q2, r2, rfl, hq2, hr2, he2⟩; replace hr2 := hr2.cast HM.out.1)
        | (go_at_call 339; refine (nBit (hev.ext (hE.trans (he1.trans he2))) j hj6).mono ?_; rintro e w5 ⟨rfl, hww⟩; replace hww := hww.symm; subst hww))
      · have hbt : x.testBit j = true := by assumption
        have h3 := HM.out.2.2
        rw [if_pos hbt] at h3
        refine ⟨⟨j, by omega, rfl, hE.trans ((he1.trans he2).trans (he3.trans he4)), ?_⟩, by simp [intOf]⟩
        rw [hBe.out, ← h3, ← HM.out.2.1]
        exact hr4
      · have hbt : x.testBit j = false := by first | assumption | simpa using (by assumption : ¬ x.testBit j = true)
        have h3 := HM.out.2.2
        rw [hbt] at h3
        refine ⟨⟨j, by omega, rfl, hE.trans (he1.trans he2), ?_⟩, by simp [intOf]⟩
        rw [hBe.out, ← h3]
        simpa using hr2
end
end Go.Proofs.YgvahwGreat
