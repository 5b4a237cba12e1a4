import Derived.Test.YgvahwGreatKc
import Derived.Test.YgvahwGreatRowsL
namespace Go.Proofs.YgvahwGreat
open Go.RowKit
set_option linter.unusedSimpArgs false

def kregN : Nat → Nat
  | 0 => 1
  | t + 1 => kturnN (kregN t)
theorem kturnN_bit : ∀ n, n < 256 → kturnN n < 256 ∧ ∀ j, j < 8 → (kturnN n).testBit j = kturn (fun i => n.testBit i) j := by decide +kernel
theorem kregN_bit (t : Nat) : kregN t < 256 ∧ ∀ j, j < 8 → (kregN t).testBit j = kreg t j := by
  induction t with
  | zero => exact ⟨by decide, by decide⟩
  | succ t ih =>
    have h1 := kturnN_bit (kregN t) ih.1
    refine ⟨h1.1, fun j hj => ?_⟩
    show (kturnN (kregN t)).testBit j = kturn (kreg t) j
    rw [h1.2 j hj]
    exact kturn_congr (fun i hi => ih.2 i hi) j hj
def kconN (t : Nat) : Nat → Nat
  | 0 => 0
  | j + 1 => if (kregN (t + j)).testBit 0 then kconN t j ||| 2 ^ (2 ^ j - 1) else kconN t j
theorem kcon_eq (t j : Nat) : kcon t j = kconN t j := by
  induction j with
  | zero => rfl
  | succ j ih => unfold kcon kconN; rw [(kregN_bit (t + j)).2 0 (by decide), ih]
theorem kRC_eq : ∀ i, i < 24 → kconN (7 * i) 7 = kRC.getD i 0 := by decide +kernel
theorem kcon_RC (i : Nat) (hi : i < 24) : kcon (7 * i) 7 = kRC.getD i 0 := by rw [kcon_eq]; exact kRC_eq i hi
theorem kcon_lt (t : Nat) : ∀ j, j ≤ 7 → kcon t j < 18446744073709551616 := by
  intro j
  induction j with
  | zero => intro _; show 0 < _; decide
  | succ j ih =>
    intro hj
    unfold kcon
    split
    · have h1 := ih (by omega)
      rw [show (18446744073709551616 : Nat) = 2 ^ 64 by decide] at *
      refine Nat.or_lt_two_pow h1 (Nat.pow_lt_pow_right (by decide) ?_)
      have : 2 ^ j ≤ 2 ^ 6 := Nat.pow_le_pow_right (by decide) (by omega)
      omega
    · exact ih (by omega)
set_option maxRecDepth 100000 in
theorem b474 : ∀ w, (Instr.build 482 ([(0, .bool true)] : List (Nat × Value)).toArray).run Hvah.prog w = .ok (.agg #[.bool true, .bool false, .bool false, .bool false, .bool false, .bool false, .bool false, .bool false]) w := fun w => by rfl
theorem rt474 : RowT 482 8 := rowT_of (by kernel_rfl) (by kernel_rfl)
theorem ones474 : Ones #[.bool true, .bool false, .bool false, .bool false, .bool false, .bool false, .bool false, .bool false] := ones_of (fun i hi => by
  have hi : i < 8 := hi
  have : i = 0 ∨ i = 1 ∨ i = 2 ∨ i = 3 ∨ i = 4 ∨ i = 5 ∨ i = 6 ∨ i = 7 := by omega
  rcases this with rfl | rfl | rfl | rfl | rfl | rfl | rfl | rfl <;> rfl)
set_option maxRecDepth 100000 in
set_option maxHeartbeats 6400000 in
theorem kConst (i : Nat) (hi : i < 24) (w : World) : Calls Hvah.prog 424 #[.int .u8 i] w fun e w' => e = .returned (.int .u64 (kRC.getD i 0 : Nat)) ∧ Ext w w' := by
  rw [← kcon_RC i hi]
  have i1 : ¬ (24 : Int) ≤ i := by omega
  have j1 : IntKind.i64.wrap (i : Int) = i := by rw [IntKind.wrap_i64]; omega
  have j2 : IntKind.i64.wrap ((7 : Int) * i) = ((7 * i : Nat) : Int) := by rw [IntKind.wrap_i64]; omega
  obtain ⟨T, hT⟩ : ∃ T, Hid (7 * i = T) := ⟨_, rfl⟩
  have hT2 := hT.out
  have hTl : T ≤ 161 := by omega
  rw [hT2] at j2 ⊢
  clear hT2
  go_enter Hvah.func424, Hvah.ntmps424
  go_upto_region 4 with (first | ((with_reducible (refine Veil.out ?_; apply wl_buildV (hb := b474))); (case he => rfl)) | ((with_reducible (refine Veil.out ?_; apply wl_allocB (n := 8) z474)); (case hn => rfl); rintro B W1 e1 b1 g1) | ((with_reducible (refine Veil.out ?_; apply wl_storeRow rt474)); (case hx => rfl); (case hy => rfl); (case hr => rfl); (case h1 => exact ones474); (case hB => exact b1); (case hi => decide); rintro W2 b2 m2))
  have hB0 : Blk W2 B 8 482 (layv (cf #[.bool false, .bool false, .bool false, .bool false, .bool false, .bool false, .bool false, .bool false]) 0 #[.bool true, .bool false, .bool false, .bool false, .bool false, .bool false, .bool false, .bool false]) := b2
  have hc0 : ∀ j, j < 8 → layv (cf #[.bool false, .bool false, .bool false, .bool false, .bool false, .bool false, .bool false, .bool false]) 0 #[.bool true, .bool false, .bool false, .bool false, .bool false, .bool false, .bool false, .bool false] j = .bool (kreg 0 j) := fun j hj => by
    have : j = 0 ∨ j = 1 ∨ j = 2 ∨ j = 3 ∨ j = 4 ∨ j = 5 ∨ j = 6 ∨ j = 7 := by omega
    rcases this with rfl | rfl | rfl | rfl | rfl | rfl | rfl | rfl <;> rfl
  have hE2 : Ext w W2 := Ext.trans_mod (by (repeat (first | with_reducible exact Ext.refl _ | with_reducible assumption | refine Ext.trans ?_ (by with_reducible assumption) | refine Ext.alloc ?_ _ _ | refine Ext.drew ?_ | refine Ext.drewN ?_ _))) m2 (fun x hx => by have hx2 : x = B := hx; rw [hx2]; exact g1)
  generalize layv (cf #[.bool false, .bool false, .bool false, .bool false, .bool false, .bool false, .bool false, .bool false]) 0 #[.bool true, .bool false, .bool false, .bool false, .bool false, .bool false, .bool false, .bool false] = d0 at *
  clear b2 b1 e1 m2
  go_upto_region 5 with (fail)
  try simp only [Act.put]
  go_loopw [4] (fun iv wr => ∃ (t : Nat) (c' : Nat → Value), iv = .int .i64 (t : Nat) ∧ t ≤ T ∧ Blk wr B 8 482 c' ∧ (∀ j, j < 8 → c' j = .bool (kreg t j)) ∧ Ext w wr) (fun iv _ => T - (intOf iv).toNat)
  case atStart => exact ⟨0, d0, rfl, by omega, hB0, hc0, hE2⟩
  case round =>
    obtain ⟨t, c', rfl, ht, bB, hcB, hE⟩ := hrel
    rcases Nat.lt_or_ge t T with hlt | hge
    · have k1 : (t : Int) < T := by omega
      go_wp2_with (go_at_call 431; refine (kTurn bB hcB).mono ?_; rintro e w3 ⟨rfl, c3, b3, hc3, m3⟩)
      go_roundw
      case rel => exact ⟨t + 1, c3, int_eq (by omega), by omega, b3, hc3, Ext.trans_mod hE m3 (fun x hx => by have hx2 : x = B := hx; rw [hx2]; exact g1)⟩
      case measure => simp [intOf]; omega
    · have k1 : ¬ (t : Int) < T := by omega
      obtain rfl : t = T := by omega
      go_upto_region 10 with (fail)
      try simp only [Act.put]
      go_loopw [5, 6] (fun cv iv wr => ∃ (j : Nat) (c' : Nat → Value), cv = .int .u64 (kcon t j : Nat) ∧ iv = .int .i64 (j : Nat) ∧ j ≤ 7 ∧ Blk wr B 8 482 c' ∧ (∀ q, q < 8 → c' q = .bool (kreg (t + j) q)) ∧ Ext w wr) (fun _ iv _ => 7 - (intOf iv).toNat)
      case atStart => exact ⟨0, c', rfl, rfl, by decide, bB, hcB, hE⟩
      case round =>
        clear hcB
        obtain ⟨j, c', rfl, rfl, hj7, bB, hcB, hE⟩ := hrel
        rcases Nat.lt_or_ge j 7 with hlt | hge
        · have K0 := bB.cell (i := 0) (by decide)
          rw [hcB 0 (by decide)] at K0
          have hkl := kcon_lt t j (by omega)
          have hnx : kcon t (j + 1) = if kreg (t + j) 0 then kcon t j ||| 2 ^ (2 ^ j - 1) else kcon t j := rfl
          obtain ⟨bt, hbt⟩ : ∃ b, Hid (kreg (t + j) 0 = b) := ⟨_, rfl⟩
          rw [hbt.out] at K0 hnx
          obtain ⟨kc, hkc⟩ : ∃ k, Hid (kcon t j = k) := ⟨_, rfl⟩
          rw [hkc.out] at hkl hnx ⊢
          have hj' : j = 0 ∨ j = 1 ∨ j = 2 ∨ j = 3 ∨ j = 4 ∨ j = 5 ∨ j = 6 := by omega
          have hcB2 : ∀ q, q < 8 → c' q = .bool (kreg (t + j) q) := hcB
          cases bt
          · have k1 : (j : Int) ≤ 6 := by omega
            go_wp2_with (first | (go_at_call 431; refine (kTurn bB hcB).mono ?_; rintro e w3 ⟨rfl, c3, b3, hc3, m3⟩) | ((with_reducible (refine Veil.out ?_; apply wl_loadC onek4)); (case hw => rfl); (case hx => rfl); (case hc => exact K0)))
            go_roundw
            case rel => exact ⟨j + 1, c3, by rw [hnx]; rfl, int_eq (by omega), by omega, b3, hc3, Ext.trans_mod hE m3 (fun x hx => by have hx2 : x = B := hx; rw [hx2]; exact g1)⟩
            case measure => simp [intOf]; omega
          · have hor : ∀ p : Nat, p < 18446744073709551616 → bits .or .u64 (kc : Int) (p : Int) = ((kc ||| p : Nat) : Int) := fun p hp => u64_or_nat kc p hkl hp
            rcases hj' with rfl | rfl | rfl | rfl | rfl | rfl | rfl
            all_goals go_wp2_with (first | (go_at_call 431; refine (kTurn bB hcB).mono ?_; rintro e w3 ⟨rfl, c3, b3, hc3, m3⟩) | ((with_reducible (refine Veil.out ?_; apply wl_loadC onek4)); (case hw => rfl); (case hx => rfl); (case hc => exact K0)))
            all_goals refine ⟨⟨_, c3, ?_, rfl, by decide, b3, hc3, Ext.trans_mod hE m3 (fun x hx => by have hx2 : x = B := hx; rw [hx2]; exact g1)⟩, by decide⟩
            all_goals (rw [hnx]; refine int_eq ?_; exact hor _ (by decide))
        · have k1 : ¬ (j : Int) ≤ 6 := by omega
          obtain rfl : j = 7 := by omega
          go_wp2
          go_ret
          exact ⟨rfl, hE⟩
end Go.Proofs.YgvahwGreat
