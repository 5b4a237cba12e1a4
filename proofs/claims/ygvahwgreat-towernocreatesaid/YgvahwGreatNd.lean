import Derived.Test.YgvahwGreatNc
namespace Go.Proofs.YgvahwGreat
open Go.RowKit
set_option linter.unusedSimpArgs false
section
variable {O O' : Nat → Prop} {w : World} {v : Value} {L : List Nat}
set_option maxRecDepth 100000 in
set_option maxHeartbeats 6400000 in
theorem yNatCost4 (hO : Small O w) (h : NL O' w v L) (hl : L.length ≤ 717280) : Calls Hvah.prog 143 #[.int .u8 4, v] w fun e w' => ∃ r, e = .returned (.tuple #[r, .bool true]) ∧ NV O w' r (15 + 3 * ((L.length + 31) / 32)) ∧ Ext w w' := by
  obtain ⟨o, c, rfl, h1, h2, h3⟩ := h
  have hli : (L.length : Int) ≤ 717280 := by omega
  have hlw : IntKind.u64.wrap (L.length : Int) = L.length := by rw [IntKind.wrap_u64]; omega
  have d0 : dl L.length ≤ 1000 := Nat.le_trans (dl_u64 _ (by omega)) (by decide)
  have d1 : dl ((L.length + 31) / 32) ≤ 2000 := Nat.le_trans (dl_u64 _ (by omega)) (by decide)
  have d2 : dl 3 ≤ 2000 := by decide
  have d3 : dl 15 ≤ 2000 := by decide
  have d4 : dl (3 * ((L.length + 31) / 32)) ≤ 2000 := Nat.le_trans (dl_u64 _ (by omega)) (by decide)
  go_enter Hvah.func143, Hvah.ntmps143
  go_wp2_with (first
    | (go_at_call 42; refine (nNum O _ _ (hO.ext (by (repeat (first | with_reducible exact Ext.refl _ | with_reducible assumption | refine Ext.trans ?_ (by with_reducible assumption) | refine Ext.alloc ?_ _ _ | refine Ext.drew ?_ | refine Ext.drewN ?_ _)))) (by first | decide | omega)).mono ?_; rintro e w1 ⟨r, rfl, hr, he⟩)
    | (go_at_call 135; refine (nWords O _ _ _ (hO.ext (by (repeat (first | with_reducible exact Ext.refl _ | with_reducible assumption | refine Ext.trans ?_ (by with_reducible assumption) | refine Ext.alloc ?_ _ _ | refine Ext.drew ?_ | refine Ext.drewN ?_ _)))) (NV.ext (by with_reducible assumption) (by (repeat (first | with_reducible exact Ext.refl _ | with_reducible assumption | refine Ext.trans ?_ (by with_reducible assumption) | refine Ext.alloc ?_ _ _ | refine Ext.drew ?_ | refine Ext.drewN ?_ _)))) (by with_reducible assumption)).mono ?_; rintro e w1 ⟨r, rfl, hr, he⟩)
    | (go_at_call 60; refine (nMul O _ _ _ _ _ (hO.ext (by (repeat (first | with_reducible exact Ext.refl _ | with_reducible assumption | refine Ext.trans ?_ (by with_reducible assumption) | refine Ext.alloc ?_ _ _ | refine Ext.drew ?_ | refine Ext.drewN ?_ _)))) (by first | exact (NV.ext (by with_reducible assumption) (by (repeat (first | with_reducible exact Ext.refl _ | with_reducible assumption | refine Ext.trans ?_ (by with_reducible assumption) | refine Ext.alloc ?_ _ _ | refine Ext.drew ?_ | refine Ext.drewN ?_ _)))) | exact NV.nil) (by first | exact (NV.ext (by with_reducible assumption) (by (repeat (first | with_reducible exact Ext.refl _ | with_reducible assumption | refine Ext.trans ?_ (by with_reducible assumption) | refine Ext.alloc ?_ _ _ | refine Ext.drew ?_ | refine Ext.drewN ?_ _)))) | exact NV.nil) (by with_reducible assumption) (by with_reducible assumption)).mono ?_; rintro e w1 ⟨r, rfl, hr, he⟩)
    | (go_at_call 44; refine (nAdd O _ _ _ _ _ (hO.ext (by (repeat (first | with_reducible exact Ext.refl _ | with_reducible assumption | refine Ext.trans ?_ (by with_reducible assumption) | refine Ext.alloc ?_ _ _ | refine Ext.drew ?_ | refine Ext.drewN ?_ _)))) (by first | exact (NV.ext (by with_reducible assumption) (by (repeat (first | with_reducible exact Ext.refl _ | with_reducible assumption | refine Ext.trans ?_ (by with_reducible assumption) | refine Ext.alloc ?_ _ _ | refine Ext.drew ?_ | refine Ext.drewN ?_ _)))) | exact NV.nil) (by first | exact (NV.ext (by with_reducible assumption) (by (repeat (first | with_reducible exact Ext.refl _ | with_reducible assumption | refine Ext.trans ?_ (by with_reducible assumption) | refine Ext.alloc ?_ _ _ | refine Ext.drew ?_ | refine Ext.drewN ?_ _)))) | exact NV.nil) (by with_reducible assumption) (by with_reducible assumption)).mono ?_; rintro e w1 ⟨r, rfl, hr, he⟩))
  go_ret2
  exact ⟨_, rfl, NV.ext (by assumption) (by (repeat (first | with_reducible exact Ext.refl _ | with_reducible assumption | refine Ext.trans ?_ (by with_reducible assumption) | refine Ext.alloc ?_ _ _ | refine Ext.drew ?_ | refine Ext.drewN ?_ _))), by (repeat (first | with_reducible exact Ext.refl _ | with_reducible assumption | refine Ext.trans ?_ (by with_reducible assumption) | refine Ext.alloc ?_ _ _ | refine Ext.drew ?_ | refine Ext.drewN ?_ _))⟩
set_option maxRecDepth 100000 in
set_option maxHeartbeats 6400000 in
theorem yNatCost5n (hO : Small O w) (hin : NL O' w v L) (hn : natLens L = none) : Calls Hvah.prog 143 #[.int .u8 5, v] w fun e w' => ∃ r, e = .returned (.tuple #[r, .bool false]) ∧ Ext w w' := by
  have hL : Hid (lensV L = .tuple #[.int .u64 0, .int .u64 0, .int .u64 0, .bool false]) := by unfold Hid lensV; rw [hn]
  clear hn
  go_enter Hvah.func143, Hvah.ntmps143
  go_wp2_with (first
    | (go_at_call 228; refine (yLengths (hO.ext (by (repeat (first | with_reducible exact Ext.refl _ | with_reducible assumption | refine Ext.trans ?_ (by with_reducible assumption) | refine Ext.alloc ?_ _ _ | refine Ext.drew ?_ | refine Ext.drewN ?_ _)))) (hin.ext (by (repeat (first | with_reducible exact Ext.refl _ | with_reducible assumption | refine Ext.trans ?_ (by with_reducible assumption) | refine Ext.alloc ?_ _ _ | refine Ext.drew ?_ | refine Ext.drewN ?_ _))))).mono ?_; rintro e w1 ⟨rfl, he⟩; rw [hL.out]))
  go_ret2
  exact ⟨_, rfl, by (repeat (first | with_reducible exact Ext.refl _ | with_reducible assumption | refine Ext.trans ?_ (by with_reducible assumption) | refine Ext.alloc ?_ _ _ | refine Ext.drew ?_ | refine Ext.drewN ?_ _))⟩
set_option maxRecDepth 100000 in
set_option maxHeartbeats 6400000 in
theorem yNatCost5 (hO : Small O w) (hin : NL O' w v L) {b e m : Nat} (hn : natLens L = some (b, e, m)) : Calls Hvah.prog 143 #[.int .u8 5, v] w fun e' w' => ∃ r, e' = .returned (.tuple #[r, .bool true]) ∧ NV O w' r (max 200 ((max b m + 7) / 8 * ((max b m + 7) / 8) * max (nbits (natPart L (96 + b) (min e 32)) - 1 + 8 * (e - 32)) 1 / 3)) ∧ Ext w w' := by
  have hL : Hid (lensV L = .tuple #[.int .u64 (b : Nat), .int .u64 (e : Nat), .int .u64 (m : Nat), .bool true]) := by unfold Hid lensV; rw [hn]
  have hb64 : b ≤ 64 ∧ e ≤ 64 ∧ m ≤ 64 := by
    simp only [natLens] at hn
    split at hn
    · cases hn
    · rename_i hc
      injection hn with hn
      injection hn with e1 e2
      injection e2 with e2 e3
      omega
  obtain ⟨hb, he', hm⟩ := hb64
  clear hn
  have hbi : (b : Int) ≤ 64 := by omega
  have hei : (e : Int) ≤ 64 := by omega
  have hmi : (m : Int) ≤ 64 := by omega
  have hmn : (min (e : Int) 32) = ((min e 32 : Nat) : Int) := by omega
  obtain ⟨N, hN⟩ : ∃ N, Hid (nbits (natPart L (96 + b) (min e 32)) = N) := ⟨_, rfl⟩
  have hcl : Digits (cutA L (96 + b) (min e 32)) ∧ (cutA L (96 + b) (min e 32)).length ≤ 32 := by
    refine ⟨fun d hd => ?_, by unfold cutA; rw [List.length_take]; omega⟩
    unfold cutA at hd
    rcases List.mem_append.1 (List.mem_of_mem_take hd) with hd | hd
    · exact hin.digits d (List.mem_of_mem_drop hd)
    · rw [List.eq_of_mem_replicate hd]; decide
  have hbv : natPart L (96 + b) (min e 32) < 256 ^ 32 := Nat.lt_of_lt_of_le (bev_lt _ hcl.1) (Nat.pow_le_pow_right (by decide) hcl.2)
  have hN256 : N ≤ 256 := by rw [← hN.out]; exact nbits_le (by rw [show (2 : Nat) ^ 256 = 256 ^ 32 by decide +kernel]; exact hbv)
  have hq8 : (digs (bev (cutA L (96 + b) (min e 32)))).length ≤ 8000 := Nat.le_trans ((dl_le_iff _ 32).2 hbv) (by decide)
  have HV : Hid (nbits (val (digs (bev (cutA L (96 + b) (min e 32))))) = N) := by unfold Hid; rw [val_digs]; exact hN.out
  have hNi : (N : Int) ≤ 256 := by omega
  clear hbv hcl
  obtain ⟨M, hM⟩ : ∃ M, Hid (min e 32 = M) := ⟨_, rfl⟩
  have hM32 : M ≤ 32 := by have := hM.out; omega
  rw [hM.out] at hmn HV hq8
  have HPt : ∀ W, Ext w W → Calls Hvah.prog 230 #[v, .int .u64 (96 + (b : Int)), .int .u64 (M : Nat)] W fun e w' => ∃ r, e = .returned r ∧ NL O w' r (cutA L (96 + b) M) ∧ Ext W w' := fun W hW => by
    have := yPart (hO.ext hW) (hin.ext hW) (96 + b) M (by omega) (by omega)
    rwa [show ((96 + b : Nat) : Int) = 96 + (b : Int) by omega] at this
  have d3 : dl (max b m) ≤ 2000 := Nat.le_trans (dl_u64 _ (by omega)) (by decide)
  have d4 : dl 7 ≤ 2000 := by decide
  have d5 : dl (max b m + 7) ≤ 2000 := Nat.le_trans (dl_u64 _ (by omega)) (by decide)
  obtain ⟨wd, hwd⟩ : ∃ wd, Hid ((max b m + 7) / 8 = wd) := ⟨_, rfl⟩
  have hwd8 : wd ≤ 8 := by have := hwd.out; omega
  have d6 : dl wd ≤ 2000 := Nat.le_trans (dl_u64 _ (by omega)) (by decide)
  have hww2 : wd * wd ≤ 64 := Nat.mul_le_mul hwd8 hwd8
  have d7 : dl (wd * wd) ≤ 2000 := Nat.le_trans (dl_u64 _ (by omega)) (by decide)
  have d8 : dl 1 ≤ 2000 := by decide
  have d9 : dl 0 ≤ 2000 := by decide
  have d10 : dl (N - 1) ≤ 2000 := Nat.le_trans (dl_u64 _ (by omega)) (by decide)
  have d11 : dl (8 * (e - 32)) ≤ 2000 := Nat.le_trans (dl_u64 _ (by omega)) (by decide)
  have d12 : ∀ t, t ≤ 1000 → dl (max t 1) ≤ 2000 := fun t ht => Nat.le_trans (dl_u64 _ (by omega)) (by decide)
  have d13 : ∀ t, t ≤ 1000 → dl (wd * wd * max t 1) ≤ 2000 := fun t ht => Nat.le_trans (dl_u64 _ (Nat.lt_of_le_of_lt (Nat.mul_le_mul hww2 (show max t 1 ≤ 1000 by omega)) (by decide))) (by decide)
  rw [hwd.out, hM.out]
  rw [hM.out] at hN
  rw [hN.out]
  by_cases h1 : 1 < N
  · have i1 : (1 : Int) < N := by omega
    have HN1 : ∀ W, Ext w W → Calls Hvah.prog 42 #[.int .u64 ((N : Int) - 1)] W fun e w' => ∃ r, e = .returned r ∧ NV O w' r (N - 1) ∧ Ext W w' := fun W hW => by
      have := nNum O (N - 1) W (hO.ext hW) (by omega)
      rwa [show ((N - 1 : Nat) : Int) = (N : Int) - 1 by omega] at this
    by_cases h2 : 32 < e
    · have i3 : (32 : Int) < e := by omega
      have HN8 : ∀ W, Ext w W → Calls Hvah.prog 42 #[.int .u64 (8 * ((e : Int) - 32))] W fun e' w' => ∃ r, e' = .returned r ∧ NV O w' r (8 * (e - 32)) ∧ Ext W w' := fun W hW => by
        have := nNum O (8 * (e - 32)) W (hO.ext hW) (by omega)
        rwa [show ((8 * (e - 32) : Nat) : Int) = 8 * ((e : Int) - 32) by omega] at this
      have d14 := d12 (N - 1 + 8 * (e - 32)) (by omega)
      have d15 := d13 (N - 1 + 8 * (e - 32)) (by omega)
      clear d12 d13
      go_enter Hvah.func143, Hvah.ntmps143
      go_wp2_with (first
        | (go_at_call 228; refine (yLengths (hO.ext (by (repeat (first | with_reducible exact Ext.refl _ | with_reducible assumption | refine Ext.trans ?_ (by with_reducible assumption) | refine Ext.alloc ?_ _ _ | refine Ext.drew ?_ | refine Ext.drewN ?_ _)))) (hin.ext (by (repeat (first | with_reducible exact Ext.refl _ | with_reducible assumption | refine Ext.trans ?_ (by with_reducible assumption) | refine Ext.alloc ?_ _ _ | refine Ext.drew ?_ | refine Ext.drewN ?_ _))))).mono ?_; rintro e w1 ⟨rfl, he⟩; rw [hL.out])
        | (go_at_call 42; with_reducible refine (HN1 _ (by (repeat (first | with_reducible exact Ext.refl _ | with_reducible assumption | refine Ext.trans ?_ (by with_reducible assumption) | refine Ext.alloc ?_ _ _ | refine Ext.drew ?_ | refine Ext.drewN ?_ _)))).mono ?_; rintro e w1 ⟨r, rfl, hr, he⟩)
        | (go_at_call 42; with_reducible refine (HN8 _ (by (repeat (first | with_reducible exact Ext.refl _ | with_reducible assumption | refine Ext.trans ?_ (by with_reducible assumption) | refine Ext.alloc ?_ _ _ | refine Ext.drew ?_ | refine Ext.drewN ?_ _)))).mono ?_; rintro e w1 ⟨r, rfl, hr, he⟩)
        | (go_at_call 42; refine (nNum O _ _ (hO.ext (by (repeat (first | with_reducible exact Ext.refl _ | with_reducible assumption | refine Ext.trans ?_ (by with_reducible assumption) | refine Ext.alloc ?_ _ _ | refine Ext.drew ?_ | refine Ext.drewN ?_ _)))) (by first | decide | omega)).mono ?_; rintro e w1 ⟨r, rfl, hr, he⟩)
        | (go_at_call 154; refine (nMax O _ _ _ _ _ (by first | exact (NV.ext (by with_reducible assumption) (by (repeat (first | with_reducible exact Ext.refl _ | with_reducible assumption | refine Ext.trans ?_ (by with_reducible assumption) | refine Ext.alloc ?_ _ _ | refine Ext.drew ?_ | refine Ext.drewN ?_ _)))) | exact NV.nil) (by first | exact (NV.ext (by with_reducible assumption) (by (repeat (first | with_reducible exact Ext.refl _ | with_reducible assumption | refine Ext.trans ?_ (by with_reducible assumption) | refine Ext.alloc ?_ _ _ | refine Ext.drew ?_ | refine Ext.drewN ?_ _)))) | exact NV.nil)).mono ?_; rintro e w1 ⟨r, rfl, hr, he⟩)
        | (go_at_call 44; refine (nAdd O _ _ _ _ _ (hO.ext (by (repeat (first | with_reducible exact Ext.refl _ | with_reducible assumption | refine Ext.trans ?_ (by with_reducible assumption) | refine Ext.alloc ?_ _ _ | refine Ext.drew ?_ | refine Ext.drewN ?_ _)))) (by first | exact (NV.ext (by with_reducible assumption) (by (repeat (first | with_reducible exact Ext.refl _ | with_reducible assumption | refine Ext.trans ?_ (by with_reducible assumption) | refine Ext.alloc ?_ _ _ | refine Ext.drew ?_ | refine Ext.drewN ?_ _)))) | exact NV.nil) (by first | exact (NV.ext (by with_reducible assumption) (by (repeat (first | with_reducible exact Ext.refl _ | with_reducible assumption | refine Ext.trans ?_ (by with_reducible assumption) | refine Ext.alloc ?_ _ _ | refine Ext.drew ?_ | refine Ext.drewN ?_ _)))) | exact NV.nil) (by with_reducible assumption) (by with_reducible assumption)).mono ?_; rintro e w1 ⟨r, rfl, hr, he⟩)
        | (go_at_call 78; refine (nDivided O _ _ _ _ (hO.ext (by (repeat (first | with_reducible exact Ext.refl _ | with_reducible assumption | refine Ext.trans ?_ (by with_reducible assumption) | refine Ext.alloc ?_ _ _ | refine Ext.drew ?_ | refine Ext.drewN ?_ _)))) (NV.ext (by with_reducible assumption) (by (repeat (first | with_reducible exact Ext.refl _ | with_reducible assumption | refine Ext.trans ?_ (by with_reducible assumption) | refine Ext.alloc ?_ _ _ | refine Ext.drew ?_ | refine Ext.drewN ?_ _)))) (by decide) (by with_reducible assumption)).mono ?_; rintro e w1 ⟨r, rfl, hr, he⟩; try (replace hr := hr.cast hwd.out))
        | (go_at_call 230; refine (HPt _ (by (repeat (first | with_reducible exact Ext.refl _ | with_reducible assumption | refine Ext.trans ?_ (by with_reducible assumption) | refine Ext.alloc ?_ _ _ | refine Ext.drew ?_ | refine Ext.drewN ?_ _)))).mono ?_; rintro e w1 ⟨rp, rfl, hrp, he⟩)
        | (go_at_call 43; refine (fromBE2 O O _ _ _ (hO.ext (by (repeat (first | with_reducible exact Ext.refl _ | with_reducible assumption | refine Ext.trans ?_ (by with_reducible assumption) | refine Ext.alloc ?_ _ _ | refine Ext.drew ?_ | refine Ext.drewN ?_ _)))) (hrp.ext (by (repeat (first | with_reducible exact Ext.refl _ | with_reducible assumption | refine Ext.trans ?_ (by with_reducible assumption) | refine Ext.alloc ?_ _ _ | refine Ext.drew ?_ | refine Ext.drewN ?_ _))))).mono ?_; rintro e w1 ⟨rq, rfl, hrq, he⟩)
        | (go_at_call 229; refine (yBits (hrq.ext (by (repeat (first | with_reducible exact Ext.refl _ | with_reducible assumption | refine Ext.trans ?_ (by with_reducible assumption) | refine Ext.alloc ?_ _ _ | refine Ext.drew ?_ | refine Ext.drewN ?_ _)))) hq8).mono ?_; rw [HV.out]; rintro e w1 ⟨rfl, hww⟩; replace hww := hww.symm; subst hww)
        | (go_at_call 60; refine (nMul O _ _ _ _ _ (hO.ext (by (repeat (first | with_reducible exact Ext.refl _ | with_reducible assumption | refine Ext.trans ?_ (by with_reducible assumption) | refine Ext.alloc ?_ _ _ | refine Ext.drew ?_ | refine Ext.drewN ?_ _)))) (by first | exact (NV.ext (by with_reducible assumption) (by (repeat (first | with_reducible exact Ext.refl _ | with_reducible assumption | refine Ext.trans ?_ (by with_reducible assumption) | refine Ext.alloc ?_ _ _ | refine Ext.drew ?_ | refine Ext.drewN ?_ _)))) | exact NV.nil) (by first | exact (NV.ext (by with_reducible assumption) (by (repeat (first | with_reducible exact Ext.refl _ | with_reducible assumption | refine Ext.trans ?_ (by with_reducible assumption) | refine Ext.alloc ?_ _ _ | refine Ext.drew ?_ | refine Ext.drewN ?_ _)))) | exact NV.nil) (by with_reducible assumption) (by with_reducible assumption)).mono ?_; rintro e w1 ⟨r, rfl, hr, he⟩))
      go_ret2
      exact ⟨_, rfl, NV.ext (by assumption) (by (repeat (first | with_reducible exact Ext.refl _ | with_reducible assumption | refine Ext.trans ?_ (by with_reducible assumption) | refine Ext.alloc ?_ _ _ | refine Ext.drew ?_ | refine Ext.drewN ?_ _))), by (repeat (first | with_reducible exact Ext.refl _ | with_reducible assumption | refine Ext.trans ?_ (by with_reducible assumption) | refine Ext.alloc ?_ _ _ | refine Ext.drew ?_ | refine Ext.drewN ?_ _))⟩
    · have i3 : ¬ (32 : Int) < e := by omega
      rw [show e - 32 = 0 by omega]
      have d14 := d12 (N - 1) (by omega)
      have d15 := d13 (N - 1) (by omega)
      clear d12 d13
      go_enter Hvah.func143, Hvah.ntmps143
      go_wp2_with (first
        | (go_at_call 228; refine (yLengths (hO.ext (by (repeat (first | with_reducible exact Ext.refl _ | with_reducible assumption | refine Ext.trans ?_ (by with_reducible assumption) | refine Ext.alloc ?_ _ _ | refine Ext.drew ?_ | refine Ext.drewN ?_ _)))) (hin.ext (by (repeat (first | with_reducible exact Ext.refl _ | with_reducible assumption | refine Ext.trans ?_ (by with_reducible assumption) | refine Ext.alloc ?_ _ _ | refine Ext.drew ?_ | refine Ext.drewN ?_ _))))).mono ?_; rintro e w1 ⟨rfl, he⟩; rw [hL.out])
        | (go_at_call 42; with_reducible refine (HN1 _ (by (repeat (first | with_reducible exact Ext.refl _ | with_reducible assumption | refine Ext.trans ?_ (by with_reducible assumption) | refine Ext.alloc ?_ _ _ | refine Ext.drew ?_ | refine Ext.drewN ?_ _)))).mono ?_; rintro e w1 ⟨r, rfl, hr, he⟩)
        | (go_at_call 42; with_reducible refine (HN8 _ (by (repeat (first | with_reducible exact Ext.refl _ | with_reducible assumption | refine Ext.trans ?_ (by with_reducible assumption) | refine Ext.alloc ?_ _ _ | refine Ext.drew ?_ | refine Ext.drewN ?_ _)))).mono ?_; rintro e w1 ⟨r, rfl, hr, he⟩)
        | (go_at_call 42; refine (nNum O _ _ (hO.ext (by (repeat (first | with_reducible exact Ext.refl _ | with_reducible assumption | refine Ext.trans ?_ (by with_reducible assumption) | refine Ext.alloc ?_ _ _ | refine Ext.drew ?_ | refine Ext.drewN ?_ _)))) (by first | decide | omega)).mono ?_; rintro e w1 ⟨r, rfl, hr, he⟩)
        | (go_at_call 154; refine (nMax O _ _ _ _ _ (by first | exact (NV.ext (by with_reducible assumption) (by (repeat (first | with_reducible exact Ext.refl _ | with_reducible assumption | refine Ext.trans ?_ (by with_reducible assumption) | refine Ext.alloc ?_ _ _ | refine Ext.drew ?_ | refine Ext.drewN ?_ _)))) | exact NV.nil) (by first | exact (NV.ext (by with_reducible assumption) (by (repeat (first | with_reducible exact Ext.refl _ | with_reducible assumption | refine Ext.trans ?_ (by with_reducible assumption) | refine Ext.alloc ?_ _ _ | refine Ext.drew ?_ | refine Ext.drewN ?_ _)))) | exact NV.nil)).mono ?_; rintro e w1 ⟨r, rfl, hr, he⟩)
        | (go_at_call 44; refine (nAdd O _ _ _ _ _ (hO.ext (by (repeat (first | with_reducible exact Ext.refl _ | with_reducible assumption | refine Ext.trans ?_ (by with_reducible assumption) | refine Ext.alloc ?_ _ _ | refine Ext.drew ?_ | refine Ext.drewN ?_ _)))) (by first | exact (NV.ext (by with_reducible assumption) (by (repeat (first | with_reducible exact Ext.refl _ | with_reducible assumption | refine Ext.trans ?_ (by with_reducible assumption) | refine Ext.alloc ?_ _ _ | refine Ext.drew ?_ | refine Ext.drewN ?_ _)))) | exact NV.nil) (by first | exact (NV.ext (by with_reducible assumption) (by (repeat (first | with_reducible exact Ext.refl _ | with_reducible assumption | refine Ext.trans ?_ (by with_reducible assumption) | refine Ext.alloc ?_ _ _ | refine Ext.drew ?_ | refine Ext.drewN ?_ _)))) | exact NV.nil) (by with_reducible assumption) (by with_reducible assumption)).mono ?_; rintro e w1 ⟨r, rfl, hr, he⟩)
        | (go_at_call 78; refine (nDivided O _ _ _ _ (hO.ext (by (repeat (first | with_reducible exact Ext.refl _ | with_reducible assumption | refine Ext.trans ?_ (by with_reducible assumption) | refine Ext.alloc ?_ _ _ | refine Ext.drew ?_ | refine Ext.drewN ?_ _)))) (NV.ext (by with_reducible assumption) (by (repeat (first | with_reducible exact Ext.refl _ | with_reducible assumption | refine Ext.trans ?_ (by with_reducible assumption) | refine Ext.alloc ?_ _ _ | refine Ext.drew ?_ | refine Ext.drewN ?_ _)))) (by decide) (by with_reducible assumption)).mono ?_; rintro e w1 ⟨r, rfl, hr, he⟩; try (replace hr := hr.cast hwd.out))
        | (go_at_call 230; refine (HPt _ (by (repeat (first | with_reducible exact Ext.refl _ | with_reducible assumption | refine Ext.trans ?_ (by with_reducible assumption) | refine Ext.alloc ?_ _ _ | refine Ext.drew ?_ | refine Ext.drewN ?_ _)))).mono ?_; rintro e w1 ⟨rp, rfl, hrp, he⟩)
        | (go_at_call 43; refine (fromBE2 O O _ _ _ (hO.ext (by (repeat (first | with_reducible exact Ext.refl _ | with_reducible assumption | refine Ext.trans ?_ (by with_reducible assumption) | refine Ext.alloc ?_ _ _ | refine Ext.drew ?_ | refine Ext.drewN ?_ _)))) (hrp.ext (by (repeat (first | with_reducible exact Ext.refl _ | with_reducible assumption | refine Ext.trans ?_ (by with_reducible assumption) | refine Ext.alloc ?_ _ _ | refine Ext.drew ?_ | refine Ext.drewN ?_ _))))).mono ?_; rintro e w1 ⟨rq, rfl, hrq, he⟩)
        | (go_at_call 229; refine (yBits (hrq.ext (by (repeat (first | with_reducible exact Ext.refl _ | with_reducible assumption | refine Ext.trans ?_ (by with_reducible assumption) | refine Ext.alloc ?_ _ _ | refine Ext.drew ?_ | refine Ext.drewN ?_ _)))) hq8).mono ?_; rw [HV.out]; rintro e w1 ⟨rfl, hww⟩; replace hww := hww.symm; subst hww)
        | (go_at_call 60; refine (nMul O _ _ _ _ _ (hO.ext (by (repeat (first | with_reducible exact Ext.refl _ | with_reducible assumption | refine Ext.trans ?_ (by with_reducible assumption) | refine Ext.alloc ?_ _ _ | refine Ext.drew ?_ | refine Ext.drewN ?_ _)))) (by first | exact (NV.ext (by with_reducible assumption) (by (repeat (first | with_reducible exact Ext.refl _ | with_reducible assumption | refine Ext.trans ?_ (by with_reducible assumption) | refine Ext.alloc ?_ _ _ | refine Ext.drew ?_ | refine Ext.drewN ?_ _)))) | exact NV.nil) (by first | exact (NV.ext (by with_reducible assumption) (by (repeat (first | with_reducible exact Ext.refl _ | with_reducible assumption | refine Ext.trans ?_ (by with_reducible assumption) | refine Ext.alloc ?_ _ _ | refine Ext.drew ?_ | refine Ext.drewN ?_ _)))) | exact NV.nil) (by with_reducible assumption) (by with_reducible assumption)).mono ?_; rintro e w1 ⟨r, rfl, hr, he⟩))
      go_ret2
      exact ⟨_, rfl, NV.ext (by assumption) (by (repeat (first | with_reducible exact Ext.refl _ | with_reducible assumption | refine Ext.trans ?_ (by with_reducible assumption) | refine Ext.alloc ?_ _ _ | refine Ext.drew ?_ | refine Ext.drewN ?_ _))), by (repeat (first | with_reducible exact Ext.refl _ | with_reducible assumption | refine Ext.trans ?_ (by with_reducible assumption) | refine Ext.alloc ?_ _ _ | refine Ext.drew ?_ | refine Ext.drewN ?_ _))⟩
  · have i1 : ¬ (1 : Int) < N := by omega
    rw [show N - 1 = 0 by omega]
    by_cases h2 : 32 < e
    · have i3 : (32 : Int) < e := by omega
      have HN8 : ∀ W, Ext w W → Calls Hvah.prog 42 #[.int .u64 (8 * ((e : Int) - 32))] W fun e' w' => ∃ r, e' = .returned r ∧ NV O w' r (8 * (e - 32)) ∧ Ext W w' := fun W hW => by
        have := nNum O (8 * (e - 32)) W (hO.ext hW) (by omega)
        rwa [show ((8 * (e - 32) : Nat) : Int) = 8 * ((e : Int) - 32) by omega] at this
      have d14 := d12 (0 + 8 * (e - 32)) (by omega)
      have d15 := d13 (0 + 8 * (e - 32)) (by omega)
      clear d12 d13
      go_enter Hvah.func143, Hvah.ntmps143
      go_wp2_with (first
        | (go_at_call 228; refine (yLengths (hO.ext (by (repeat (first | with_reducible exact Ext.refl _ | with_reducible assumption | refine Ext.trans ?_ (by with_reducible assumption) | refine Ext.alloc ?_ _ _ | refine Ext.drew ?_ | refine Ext.drewN ?_ _)))) (hin.ext (by (repeat (first | with_reducible exact Ext.refl _ | with_reducible assumption | refine Ext.trans ?_ (by with_reducible assumption) | refine Ext.alloc ?_ _ _ | refine Ext.drew ?_ | refine Ext.drewN ?_ _))))).mono ?_; rintro e w1 ⟨rfl, he⟩; rw [hL.out])
        | (go_at_call 42; with_reducible refine (HN1 _ (by (repeat (first | with_reducible exact Ext.refl _ | with_reducible assumption | refine Ext.trans ?_ (by with_reducible assumption) | refine Ext.alloc ?_ _ _ | refine Ext.drew ?_ | refine Ext.drewN ?_ _)))).mono ?_; rintro e w1 ⟨r, rfl, hr, he⟩)
        | (go_at_call 42; with_reducible refine (HN8 _ (by (repeat (first | with_reducible exact Ext.refl _ | with_reducible assumption | refine Ext.trans ?_ (by with_reducible assumption) | refine Ext.alloc ?_ _ _ | refine Ext.drew ?_ | refine Ext.drewN ?_ _)))).mono ?_; rintro e w1 ⟨r, rfl, hr, he⟩)
        | (go_at_call 42; refine (nNum O _ _ (hO.ext (by (repeat (first | with_reducible exact Ext.refl _ | with_reducible assumption | refine Ext.trans ?_ (by with_reducible assumption) | refine Ext.alloc ?_ _ _ | refine Ext.drew ?_ | refine Ext.drewN ?_ _)))) (by first | decide | omega)).mono ?_; rintro e w1 ⟨r, rfl, hr, he⟩)
        | (go_at_call 154; refine (nMax O _ _ _ _ _ (by first | exact (NV.ext (by with_reducible assumption) (by (repeat (first | with_reducible exact Ext.refl _ | with_reducible assumption | refine Ext.trans ?_ (by with_reducible assumption) | refine Ext.alloc ?_ _ _ | refine Ext.drew ?_ | refine Ext.drewN ?_ _)))) | exact NV.nil) (by first | exact (NV.ext (by with_reducible assumption) (by (repeat (first | with_reducible exact Ext.refl _ | with_reducible assumption | refine Ext.trans ?_ (by with_reducible assumption) | refine Ext.alloc ?_ _ _ | refine Ext.drew ?_ | refine Ext.drewN ?_ _)))) | exact NV.nil)).mono ?_; rintro e w1 ⟨r, rfl, hr, he⟩)
        | (go_at_call 44; refine (nAdd O _ _ _ _ _ (hO.ext (by (repeat (first | with_reducible exact Ext.refl _ | with_reducible assumption | refine Ext.trans ?_ (by with_reducible assumption) | refine Ext.alloc ?_ _ _ | refine Ext.drew ?_ | refine Ext.drewN ?_ _)))) (by first | exact (NV.ext (by with_reducible assumption) (by (repeat (first | with_reducible exact Ext.refl _ | with_reducible assumption | refine Ext.trans ?_ (by with_reducible assumption) | refine Ext.alloc ?_ _ _ | refine Ext.drew ?_ | refine Ext.drewN ?_ _)))) | exact NV.nil) (by first | exact (NV.ext (by with_reducible assumption) (by (repeat (first | with_reducible exact Ext.refl _ | with_reducible assumption | refine Ext.trans ?_ (by with_reducible assumption) | refine Ext.alloc ?_ _ _ | refine Ext.drew ?_ | refine Ext.drewN ?_ _)))) | exact NV.nil) (by with_reducible assumption) (by with_reducible assumption)).mono ?_; rintro e w1 ⟨r, rfl, hr, he⟩)
        | (go_at_call 78; refine (nDivided O _ _ _ _ (hO.ext (by (repeat (first | with_reducible exact Ext.refl _ | with_reducible assumption | refine Ext.trans ?_ (by with_reducible assumption) | refine Ext.alloc ?_ _ _ | refine Ext.drew ?_ | refine Ext.drewN ?_ _)))) (NV.ext (by with_reducible assumption) (by (repeat (first | with_reducible exact Ext.refl _ | with_reducible assumption | refine Ext.trans ?_ (by with_reducible assumption) | refine Ext.alloc ?_ _ _ | refine Ext.drew ?_ | refine Ext.drewN ?_ _)))) (by decide) (by with_reducible assumption)).mono ?_; rintro e w1 ⟨r, rfl, hr, he⟩; try (replace hr := hr.cast hwd.out))
        | (go_at_call 230; refine (HPt _ (by (repeat (first | with_reducible exact Ext.refl _ | with_reducible assumption | refine Ext.trans ?_ (by with_reducible assumption) | refine Ext.alloc ?_ _ _ | refine Ext.drew ?_ | refine Ext.drewN ?_ _)))).mono ?_; rintro e w1 ⟨rp, rfl, hrp, he⟩)
        | (go_at_call 43; refine (fromBE2 O O _ _ _ (hO.ext (by (repeat (first | with_reducible exact Ext.refl _ | with_reducible assumption | refine Ext.trans ?_ (by with_reducible assumption) | refine Ext.alloc ?_ _ _ | refine Ext.drew ?_ | refine Ext.drewN ?_ _)))) (hrp.ext (by (repeat (first | with_reducible exact Ext.refl _ | with_reducible assumption | refine Ext.trans ?_ (by with_reducible assumption) | refine Ext.alloc ?_ _ _ | refine Ext.drew ?_ | refine Ext.drewN ?_ _))))).mono ?_; rintro e w1 ⟨rq, rfl, hrq, he⟩)
        | (go_at_call 229; refine (yBits (hrq.ext (by (repeat (first | with_reducible exact Ext.refl _ | with_reducible assumption | refine Ext.trans ?_ (by with_reducible assumption) | refine Ext.alloc ?_ _ _ | refine Ext.drew ?_ | refine Ext.drewN ?_ _)))) hq8).mono ?_; rw [HV.out]; rintro e w1 ⟨rfl, hww⟩; replace hww := hww.symm; subst hww)
        | (go_at_call 60; refine (nMul O _ _ _ _ _ (hO.ext (by (repeat (first | with_reducible exact Ext.refl _ | with_reducible assumption | refine Ext.trans ?_ (by with_reducible assumption) | refine Ext.alloc ?_ _ _ | refine Ext.drew ?_ | refine Ext.drewN ?_ _)))) (by first | exact (NV.ext (by with_reducible assumption) (by (repeat (first | with_reducible exact Ext.refl _ | with_reducible assumption | refine Ext.trans ?_ (by with_reducible assumption) | refine Ext.alloc ?_ _ _ | refine Ext.drew ?_ | refine Ext.drewN ?_ _)))) | exact NV.nil) (by first | exact (NV.ext (by with_reducible assumption) (by (repeat (first | with_reducible exact Ext.refl _ | with_reducible assumption | refine Ext.trans ?_ (by with_reducible assumption) | refine Ext.alloc ?_ _ _ | refine Ext.drew ?_ | refine Ext.drewN ?_ _)))) | exact NV.nil) (by with_reducible assumption) (by with_reducible assumption)).mono ?_; rintro e w1 ⟨r, rfl, hr, he⟩))
      go_ret2
      exact ⟨_, rfl, NV.ext (by assumption) (by (repeat (first | with_reducible exact Ext.refl _ | with_reducible assumption | refine Ext.trans ?_ (by with_reducible assumption) | refine Ext.alloc ?_ _ _ | refine Ext.drew ?_ | refine Ext.drewN ?_ _))), by (repeat (first | with_reducible exact Ext.refl _ | with_reducible assumption | refine Ext.trans ?_ (by with_reducible assumption) | refine Ext.alloc ?_ _ _ | refine Ext.drew ?_ | refine Ext.drewN ?_ _))⟩
    · have i3 : ¬ (32 : Int) < e := by omega
      rw [show e - 32 = 0 by omega]
      have d14 := d12 (0) (by omega)
      have d15 := d13 (0) (by omega)
      clear d12 d13
      go_enter Hvah.func143, Hvah.ntmps143
      go_wp2_with (first
        | (go_at_call 228; refine (yLengths (hO.ext (by (repeat (first | with_reducible exact Ext.refl _ | with_reducible assumption | refine Ext.trans ?_ (by with_reducible assumption) | refine Ext.alloc ?_ _ _ | refine Ext.drew ?_ | refine Ext.drewN ?_ _)))) (hin.ext (by (repeat (first | with_reducible exact Ext.refl _ | with_reducible assumption | refine Ext.trans ?_ (by with_reducible assumption) | refine Ext.alloc ?_ _ _ | refine Ext.drew ?_ | refine Ext.drewN ?_ _))))).mono ?_; rintro e w1 ⟨rfl, he⟩; rw [hL.out])
        | (go_at_call 42; with_reducible refine (HN1 _ (by (repeat (first | with_reducible exact Ext.refl _ | with_reducible assumption | refine Ext.trans ?_ (by with_reducible assumption) | refine Ext.alloc ?_ _ _ | refine Ext.drew ?_ | refine Ext.drewN ?_ _)))).mono ?_; rintro e w1 ⟨r, rfl, hr, he⟩)
        | (go_at_call 42; with_reducible refine (HN8 _ (by (repeat (first | with_reducible exact Ext.refl _ | with_reducible assumption | refine Ext.trans ?_ (by with_reducible assumption) | refine Ext.alloc ?_ _ _ | refine Ext.drew ?_ | refine Ext.drewN ?_ _)))).mono ?_; rintro e w1 ⟨r, rfl, hr, he⟩)
        | (go_at_call 42; refine (nNum O _ _ (hO.ext (by (repeat (first | with_reducible exact Ext.refl _ | with_reducible assumption | refine Ext.trans ?_ (by with_reducible assumption) | refine Ext.alloc ?_ _ _ | refine Ext.drew ?_ | refine Ext.drewN ?_ _)))) (by first | decide | omega)).mono ?_; rintro e w1 ⟨r, rfl, hr, he⟩)
        | (go_at_call 154; refine (nMax O _ _ _ _ _ (by first | exact (NV.ext (by with_reducible assumption) (by (repeat (first | with_reducible exact Ext.refl _ | with_reducible assumption | refine Ext.trans ?_ (by with_reducible assumption) | refine Ext.alloc ?_ _ _ | refine Ext.drew ?_ | refine Ext.drewN ?_ _)))) | exact NV.nil) (by first | exact (NV.ext (by with_reducible assumption) (by (repeat (first | with_reducible exact Ext.refl _ | with_reducible assumption | refine Ext.trans ?_ (by with_reducible assumption) | refine Ext.alloc ?_ _ _ | refine Ext.drew ?_ | refine Ext.drewN ?_ _)))) | exact NV.nil)).mono ?_; rintro e w1 ⟨r, rfl, hr, he⟩)
        | (go_at_call 44; refine (nAdd O _ _ _ _ _ (hO.ext (by (repeat (first | with_reducible exact Ext.refl _ | with_reducible assumption | refine Ext.trans ?_ (by with_reducible assumption) | refine Ext.alloc ?_ _ _ | refine Ext.drew ?_ | refine Ext.drewN ?_ _)))) (by first | exact (NV.ext (by with_reducible assumption) (by (repeat (first | with_reducible exact Ext.refl _ | with_reducible assumption | refine Ext.trans ?_ (by with_reducible assumption) | refine Ext.alloc ?_ _ _ | refine Ext.drew ?_ | refine Ext.drewN ?_ _)))) | exact NV.nil) (by first | exact (NV.ext (by with_reducible assumption) (by (repeat (first | with_reducible exact Ext.refl _ | with_reducible assumption | refine Ext.trans ?_ (by with_reducible assumption) | refine Ext.alloc ?_ _ _ | refine Ext.drew ?_ | refine Ext.drewN ?_ _)))) | exact NV.nil) (by with_reducible assumption) (by with_reducible assumption)).mono ?_; rintro e w1 ⟨r, rfl, hr, he⟩)
        | (go_at_call 78; refine (nDivided O _ _ _ _ (hO.ext (by (repeat (first | with_reducible exact Ext.refl _ | with_reducible assumption | refine Ext.trans ?_ (by with_reducible assumption) | refine Ext.alloc ?_ _ _ | refine Ext.drew ?_ | refine Ext.drewN ?_ _)))) (NV.ext (by with_reducible assumption) (by (repeat (first | with_reducible exact Ext.refl _ | with_reducible assumption | refine Ext.trans ?_ (by with_reducible assumption) | refine Ext.alloc ?_ _ _ | refine Ext.drew ?_ | refine Ext.drewN ?_ _)))) (by decide) (by with_reducible assumption)).mono ?_; rintro e w1 ⟨r, rfl, hr, he⟩; try (replace hr := hr.cast hwd.out))
        | (go_at_call 230; refine (HPt _ (by (repeat (first | with_reducible exact Ext.refl _ | with_reducible assumption | refine Ext.trans ?_ (by with_reducible assumption) | refine Ext.alloc ?_ _ _ | refine Ext.drew ?_ | refine Ext.drewN ?_ _)))).mono ?_; rintro e w1 ⟨rp, rfl, hrp, he⟩)
        | (go_at_call 43; refine (fromBE2 O O _ _ _ (hO.ext (by (repeat (first | with_reducible exact Ext.refl _ | with_reducible assumption | refine Ext.trans ?_ (by with_reducible assumption) | refine Ext.alloc ?_ _ _ | refine Ext.drew ?_ | refine Ext.drewN ?_ _)))) (hrp.ext (by (repeat (first | with_reducible exact Ext.refl _ | with_reducible assumption | refine Ext.trans ?_ (by with_reducible assumption) | refine Ext.alloc ?_ _ _ | refine Ext.drew ?_ | refine Ext.drewN ?_ _))))).mono ?_; rintro e w1 ⟨rq, rfl, hrq, he⟩)
        | (go_at_call 229; refine (yBits (hrq.ext (by (repeat (first | with_reducible exact Ext.refl _ | with_reducible assumption | refine Ext.trans ?_ (by with_reducible assumption) | refine Ext.alloc ?_ _ _ | refine Ext.drew ?_ | refine Ext.drewN ?_ _)))) hq8).mono ?_; rw [HV.out]; rintro e w1 ⟨rfl, hww⟩; replace hww := hww.symm; subst hww)
        | (go_at_call 60; refine (nMul O _ _ _ _ _ (hO.ext (by (repeat (first | with_reducible exact Ext.refl _ | with_reducible assumption | refine Ext.trans ?_ (by with_reducible assumption) | refine Ext.alloc ?_ _ _ | refine Ext.drew ?_ | refine Ext.drewN ?_ _)))) (by first | exact (NV.ext (by with_reducible assumption) (by (repeat (first | with_reducible exact Ext.refl _ | with_reducible assumption | refine Ext.trans ?_ (by with_reducible assumption) | refine Ext.alloc ?_ _ _ | refine Ext.drew ?_ | refine Ext.drewN ?_ _)))) | exact NV.nil) (by first | exact (NV.ext (by with_reducible assumption) (by (repeat (first | with_reducible exact Ext.refl _ | with_reducible assumption | refine Ext.trans ?_ (by with_reducible assumption) | refine Ext.alloc ?_ _ _ | refine Ext.drew ?_ | refine Ext.drewN ?_ _)))) | exact NV.nil) (by with_reducible assumption) (by with_reducible assumption)).mono ?_; rintro e w1 ⟨r, rfl, hr, he⟩))
      go_ret2
      exact ⟨_, rfl, NV.ext (by assumption) (by (repeat (first | with_reducible exact Ext.refl _ | with_reducible assumption | refine Ext.trans ?_ (by with_reducible assumption) | refine Ext.alloc ?_ _ _ | refine Ext.drew ?_ | refine Ext.drewN ?_ _))), by (repeat (first | with_reducible exact Ext.refl _ | with_reducible assumption | refine Ext.trans ?_ (by with_reducible assumption) | refine Ext.alloc ?_ _ _ | refine Ext.drew ?_ | refine Ext.drewN ?_ _))⟩
end
end Go.Proofs.YgvahwGreat
