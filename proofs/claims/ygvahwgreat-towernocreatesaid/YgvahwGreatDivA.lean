import Derived.Test.YgvahwGreatU256K
import Derived.Deep.DeepCutAuto
import Derived.Deep.CutBlock
namespace Go.Proofs.YgvahwGreat
open Go.RowKit

theorem wrap_id (n : Nat) (h : n < 18446744073709551616) : IntKind.u64.wrap (n : Int) = n := by rw [IntKind.wrap_u64]; omega
set_option maxHeartbeats 1600000 in
theorem bDiv64_low (lo y : Nat) (w : World) (hl : lo < 18446744073709551616) (hy : y < 18446744073709551616) (h0 : 0 < y) :
    Calls Hvah.prog 416 #[.int .u64 0, .int .u64 lo, .int .u64 y] w fun e w' => e = .returned (.tuple #[.int .u64 (lo / y : Nat), .int .u64 (lo % y : Nat)]) ∧ Ext w w' := by
  have hne : ((y : Int) == 0) = false := by simp; omega
  go_enter Hvah.func416, Hvah.ntmps416
  go_wp2
  go_region
  go_wp2
  go_ret2
  refine ⟨?_, (Ext.refl _).drew⟩
  show Ending.returned (.tuple #[.int .u64 (IntKind.u64.wrap ((lo : Int) / y)), .int .u64 ((lo : Int) % y)]) = _
  have h1 : lo / y < 18446744073709551616 := Nat.lt_of_le_of_lt (Nat.div_le_self _ _) hl
  rw [← Int.natCast_ediv, ← Int.natCast_emod, wrap_id _ h1]

theorem knuth_mul (q Y a b : Nat) (hY : Y = a * 4294967296 + b) : q * Y = q * a * 4294967296 + q * b := by
  rw [hY, Nat.mul_add, Nat.mul_assoc]
theorem knuth_init (Y a b u : Nat) (hY : Y = a * 4294967296 + b) (hb : b < 4294967296) (ha : 2147483648 ≤ a) (hu : u < Y) : u / a ≤ 4294967297 := by
  have : u / a < 4294967298 := Nat.div_lt_of_lt_mul (by omega)
  omega
theorem knuth_low (q r Y a b u v : Nat) (hY : Y = a * 4294967296 + b) (h0 : 0 < Y) (hi : q * a + r = u) (hc : q * b ≤ 4294967296 * r + v) : q ≤ (u * 4294967296 + v) / Y := by
  rw [Nat.le_div_iff_mul_le h0, knuth_mul q Y a b hY]; omega
theorem knuth_high (q r Y a b u v : Nat) (hY : Y = a * 4294967296 + b) (hi : q * a + r = u) (hc : 4294967296 * r + v < q * b) : (u * 4294967296 + v) / Y < q := by
  apply Nat.div_lt_of_lt_mul
  rw [Nat.mul_comm Y q, knuth_mul q Y a b hY]; omega
theorem knuth_top (Y u v : Nat) (hu : u < Y) (hv : v < 4294967296) : (u * 4294967296 + v) / Y < 4294967296 := by
  apply Nat.div_lt_of_lt_mul; omega

theorem wrap_rest (u a : Nat) (hu : u < 18446744073709551616) (ha : 0 < a) : IntKind.u64.wrap ((u : Int) - IntKind.u64.wrap (((u / a : Nat) : Int) * a)) = ((u % a : Nat) : Int) := by
  have h1 := Nat.div_add_mod u a
  have h2 := Nat.mod_lt u ha
  rw [← Int.natCast_mul, IntKind.wrap_u64, IntKind.wrap_u64]
  rw [Nat.mul_comm] at h1
  generalize u / a * a = p at *
  generalize u % a = q at *
  omega

theorem wrap_left (u v q Y r : Nat) (h : q * Y + r = u * 4294967296 + v) (hr : r < 18446744073709551616) :
    IntKind.u64.wrap (IntKind.u64.wrap (IntKind.u64.wrap ((u : Int) * 4294967296) + v) - IntKind.u64.wrap ((q : Int) * Y)) = (r : Int) := by
  rw [← Int.natCast_mul q Y]
  simp only [IntKind.wrap_u64]
  generalize q * Y = p at *
  omega

theorem div_end (H y s Y u v1 v0 Q u2 Q2 u3 : Nat) (hU : H * 2 ^ s = (u * 4294967296 + v1) * 4294967296 + v0) (hY : Y = y * 2 ^ s) (h1 : Q * Y + u2 = u * 4294967296 + v1) (h0 : Q2 * Y + u3 = u2 * 4294967296 + v0) (hu : u3 < Y) :
    H / y = Q * 4294967296 + Q2 ∧ H % y = u3 / 2 ^ s := by
  have e : H * 2 ^ s = (Q * 4294967296 + Q2) * y * 2 ^ s + u3 := by
    rw [hU, ← h1, Nat.mul_assoc, ← hY, Nat.add_mul, Nat.add_mul, Nat.mul_right_comm Q 4294967296 Y]
    omega
  have hp : 0 < 2 ^ s := Nat.two_pow_pos s
  have hd : u3 = u3 / 2 ^ s * 2 ^ s := by
    have h2 : 2 ^ s ∣ u3 := by
      have h3 : 2 ^ s ∣ (Q * 4294967296 + Q2) * y * 2 ^ s + u3 := e ▸ Nat.dvd_mul_left _ _
      exact (Nat.dvd_add_right (Nat.dvd_mul_left _ _)).1 h3
    exact (Nat.div_mul_cancel h2).symm
  have e2 : H = (Q * 4294967296 + Q2) * y + u3 / 2 ^ s := by
    rw [hd, ← Nat.add_mul] at e
    exact Nat.eq_of_mul_eq_mul_right hp e
  have hlt : u3 / 2 ^ s < y := by
    apply Nat.div_lt_of_lt_mul; rw [Nat.mul_comm, ← hY]; exact hu
  have hy0 : 0 < y := Nat.lt_of_le_of_lt (Nat.zero_le _) hlt
  constructor
  · rw [e2, Nat.mul_comm, Nat.mul_add_div hy0, Nat.div_eq_of_lt hlt, Nat.add_zero]
  · rw [e2, Nat.mul_comm, Nat.mul_add_mod, Nat.mod_eq_of_lt hlt]

/-- What is known of the pieces that the division works on. -/
structure DivP (hi lo y s Y a b u l v1 v0 : Nat) : Prop where
  eY : IntKind.u64.wrap ((y : Int) * 2 ^ s) = (Y : Int)
  ea : (Y : Int) / 4294967296 = (a : Int)
  eb : bits .and .u64 (Y : Int) 4294967295 = (b : Int)
  eu : bits .or .u64 (IntKind.u64.wrap ((hi : Int) * 2 ^ s)) ((lo : Int) / 2 ^ (64 - s)) = (u : Int)
  el : IntKind.u64.wrap ((lo : Int) * 2 ^ s) = (l : Int)
  e1 : (l : Int) / 4294967296 = (v1 : Int)
  e0 : bits .and .u64 (l : Int) 4294967295 = (v0 : Int)
  hY : Hid (Y = a * 4294967296 + b)
  ha : 2147483648 ≤ a
  ha2 : a < 4294967296
  hb : b < 4294967296
  hu : u < Y
  hv1 : v1 < 4294967296
  hv0 : v0 < 4294967296
  hU : Hid ((hi * 18446744073709551616 + lo) * 2 ^ s = (u * 4294967296 + v1) * 4294967296 + v0)
  hYy : Hid (Y = y * 2 ^ s)

set_option maxRecDepth 100000 in
set_option maxHeartbeats 3200000 in
theorem bDiv64_hi (hi lo y s Y a b u l v1 v0 : Nat) (w : World) (hh : 0 < hi) (hhy : hi < y) (hs : s < 64)
    (HLZ : ∀ W, Calls Hvah.prog 426 #[.int .u64 y] W fun e w' => e = .returned (.int .i64 (s : Nat)) ∧ w' = W) (D : DivP hi lo y s Y a b u l v1 v0) :
    Calls Hvah.prog 416 #[.int .u64 hi, .int .u64 lo, .int .u64 y] w fun e w' => e = .returned (.tuple #[.int .u64 ((hi * 18446744073709551616 + lo) / y : Nat), .int .u64 ((hi * 18446744073709551616 + lo) % y : Nat)]) ∧ Ext w w' := by
  have hne : ((y : Int) == 0) = false := by simp; omega
  have hne2 : ((hi : Int) == 0) = false := by simp; omega
  obtain ⟨eY, ea, eb, eu, el, e1, e0, hY, ha, ha2, hb, hu, hv1, hv0, hU, hYy⟩ := D
  obtain ⟨q0, r0, Q, hq0, hr0, hQ⟩ : ∃ q0 r0 Q, Hid (u / a = q0) ∧ Hid (u % a = r0) ∧ Hid ((u * 4294967296 + v1) / Y = Q) := ⟨_, _, _, rfl, rfl, rfl⟩
  have hY2 : Y < 18446744073709551616 := by have := hY.out; omega
  have hY0 : 0 < Y := by omega
  have hq02 : q0 ≤ 4294967297 := by rw [← hq0.out]; exact knuth_init Y a b u hY.out hb ha hu
  have hr02 : r0 < 4294967296 := by rw [← hr0.out]; have := Nat.mod_lt u (show a > 0 by omega); omega
  have hqr : Hid (q0 * a + r0 = u) := by unfold Hid; rw [← hq0.out, ← hr0.out, Nat.mul_comm]; exact Nat.div_add_mod u a
  have eq1 : IntKind.u64.wrap ((u : Int) / a) = (q0 : Int) := by rw [← Int.natCast_ediv, hq0.out, wrap_id _ (by omega)]
  have er1 : IntKind.u64.wrap ((u : Int) - IntKind.u64.wrap ((q0 : Int) * a)) = (r0 : Int) := by rw [← hq0.out, ← hr0.out]; exact wrap_rest u a (by omega) (by omega)
  have hQt : Q < 4294967296 := by rw [← hQ.out]; exact knuth_top Y u v1 hu hv1
  have hQq : Q ≤ q0 := by
    rw [← hQ.out, ← hq0.out, Nat.le_div_iff_mul_le (by omega)]
    have h1 := Nat.div_mul_le_self (u * 4294967296 + v1) Y
    have h2 := knuth_mul ((u * 4294967296 + v1) / Y) Y a b hY.out
    omega
  go_enter Hvah.func416, Hvah.ntmps416
  go_upto_block 0 with (first | (go_at_call 426; refine (HLZ _).mono ?_; rintro e w1 ⟨rfl, rfl⟩))
  clear eY ea eb eu el e1 e0 eq1 er1
  go_cut [15] (fun q wx => q = .int .u64 Q ∧ wx = w1)
  case first =>
   go_wp2
   go_loop [15, 16] (fun q r => ∃ n m : Nat, q = .int .u64 n ∧ r = .int .u64 m ∧ Hid (n * a + m = u) ∧ n ≤ 4294967297 ∧ m < 4294967296 ∧ Q ≤ n) (fun q _ => (intOf q).toNat)
   case atStart => exact ⟨q0, r0, rfl, rfl, hqr, hq02, hr02, hQq⟩
   case round =>
    clear hq0 hr0 hq02 hr02 hqr hQq
    obtain ⟨n, m, rfl, rfl, hinv, hn, hm, hQn⟩ := hrel
    by_cases hbig : 4294967296 ≤ n
    · have hb1 : ¬ ((n : Int) < 4294967296) := by omega
      have hb2 : (4294967296 : Int) ≤ (n : Int) := by omega
      by_cases hx : m + a < 4294967296
      · have hx1 : (m : Int) + a < 4294967296 := by omega
        have hx2 : ¬ ((4294967296 : Int) ≤ (m : Int) + a) := by omega
        go_wp2
        refine ⟨⟨n - 1, m + a, int_eq (by omega), int_eq (by omega), ?_, by omega, hx, by omega⟩, by simp [intOf]; omega⟩
        unfold Hid
        have := hinv.out
        obtain ⟨k, rfl⟩ : ∃ k, n = k + 1 := ⟨n - 1, by omega⟩
        rw [Nat.add_mul, Nat.one_mul] at this
        rw [Nat.add_sub_cancel]; omega
      · have hx1 : ¬ ((m : Int) + a < 4294967296) := by omega
        have hx2 : (4294967296 : Int) ≤ (m : Int) + a := by omega
        have HE : Hid (n - 1 = Q) := by
          unfold Hid
          apply Nat.le_antisymm
          · rw [← hQ.out]
            obtain ⟨k, rfl⟩ : ∃ k, n = k + 1 := ⟨n - 1, by omega⟩
            refine knuth_low k (m + a) Y a b u v1 hY.out hY0 ?_ ?_
            · have := hinv.out; rw [Nat.add_mul, Nat.one_mul] at this; omega
            · have : k * b ≤ 4294967296 * 4294967295 := Nat.mul_le_mul (by omega) (by omega)
              omega
          · omega
        go_wp2
        go_meet
        case rel => exact ⟨int_eq (by have := HE.out; omega), rfl⟩
    · obtain ⟨nb, hnb⟩ : ∃ nb, Hid (n * b = nb) := ⟨_, rfl⟩
      have hb1 : (n : Int) < 4294967296 := by omega
      have hb2 : ¬ ((4294967296 : Int) ≤ (n : Int)) := by omega
      have hnb2 : nb ≤ 18446744065119617025 := by rw [← hnb.out]; exact Nat.mul_le_mul (show n ≤ 4294967295 by omega) (show b ≤ 4294967295 by omega)
      have enb : IntKind.u64.wrap ((n : Int) * b) = (nb : Int) := by rw [← Int.natCast_mul, hnb.out, wrap_id _ (by omega)]
      by_cases hc : 4294967296 * m + v1 < nb
      · have hlt : Q < n := by rw [← hQ.out]; exact knuth_high n m Y a b u v1 hY.out hinv.out (by rw [hnb.out]; exact hc)
        have hc1 : 4294967296 * (m : Int) + v1 < nb := by omega
        have hc2 : ¬ ((nb : Int) ≤ 4294967296 * (m : Int) + v1) := by omega
        by_cases hx : m + a < 4294967296
        · have hx1 : (m : Int) + a < 4294967296 := by omega
          have hx2 : ¬ ((4294967296 : Int) ≤ (m : Int) + a) := by omega
          go_wp2
          refine ⟨⟨n - 1, m + a, int_eq (by omega), int_eq (by omega), ?_, by omega, hx, by omega⟩, by simp [intOf]; omega⟩
          unfold Hid
          have := hinv.out
          obtain ⟨k, rfl⟩ : ∃ k, n = k + 1 := ⟨n - 1, by omega⟩
          rw [Nat.add_mul, Nat.one_mul] at this
          rw [Nat.add_sub_cancel]; omega
        · have hx1 : ¬ ((m : Int) + a < 4294967296) := by omega
          have hx2 : (4294967296 : Int) ≤ (m : Int) + a := by omega
          have HE : Hid (n - 1 = Q) := by
            unfold Hid
            apply Nat.le_antisymm
            · rw [← hQ.out]
              obtain ⟨k, rfl⟩ : ∃ k, n = k + 1 := ⟨n - 1, by omega⟩
              refine knuth_low k (m + a) Y a b u v1 hY.out hY0 ?_ ?_
              · have := hinv.out; rw [Nat.add_mul, Nat.one_mul] at this; omega
              · have : k * b ≤ 4294967296 * 4294967295 := Nat.mul_le_mul (by omega) (by omega)
                omega
            · omega
          go_wp2
          go_meet
          case rel => exact ⟨int_eq (by have := HE.out; omega), rfl⟩
      · have hc1 : ¬ (4294967296 * (m : Int) + v1 < nb) := by omega
        have hc2 : (nb : Int) ≤ 4294967296 * (m : Int) + v1 := by omega
        have HE : Hid (n = Q) := by
          unfold Hid
          apply Nat.le_antisymm
          · rw [← hQ.out]; exact knuth_low n m Y a b u v1 hY.out hY0 hinv.out (by rw [hnb.out]; omega)
          · exact hQn
        go_wp2
        go_meet
        case rel => exact ⟨int_eq (by have := HE.out; omega), rfl⟩
  case rest =>
    obtain ⟨rfl, rfl⟩ := hcut
    clear hq0 hr0 hq02 hr02 hqr hQq
    obtain ⟨u2, hu2⟩ : ∃ u2, Hid ((u * 4294967296 + v1) % Y = u2) := ⟨_, rfl⟩
    have hu22 : u2 < Y := by rw [← hu2.out]; exact Nat.mod_lt _ hY0
    have hN1 : Hid (Q * Y + u2 = u * 4294967296 + v1) := by unfold Hid; rw [← hQ.out, ← hu2.out, Nat.mul_comm]; exact Nat.div_add_mod _ _
    have eu2 : IntKind.u64.wrap (IntKind.u64.wrap (IntKind.u64.wrap ((u : Int) * 4294967296) + v1) - IntKind.u64.wrap ((Q : Int) * Y)) = (u2 : Int) := wrap_left u v1 Q Y u2 hN1.out (by omega)
    obtain ⟨q2, r2, Q2, hq2, hr2, hQ2⟩ : ∃ q2 r2 Q2, Hid (u2 / a = q2) ∧ Hid (u2 % a = r2) ∧ Hid ((u2 * 4294967296 + v0) / Y = Q2) := ⟨_, _, _, rfl, rfl, rfl⟩
    have hq22 : q2 ≤ 4294967297 := by rw [← hq2.out]; exact knuth_init Y a b u2 hY.out hb ha hu22
    have hr22 : r2 < 4294967296 := by rw [← hr2.out]; have := Nat.mod_lt u2 (show a > 0 by omega); omega
    have hqr2 : Hid (q2 * a + r2 = u2) := by unfold Hid; rw [← hq2.out, ← hr2.out, Nat.mul_comm]; exact Nat.div_add_mod u2 a
    have eq2 : IntKind.u64.wrap ((u2 : Int) / a) = (q2 : Int) := by rw [← Int.natCast_ediv, hq2.out, wrap_id _ (by omega)]
    have er2 : IntKind.u64.wrap ((u2 : Int) - IntKind.u64.wrap ((q2 : Int) * a)) = (r2 : Int) := by rw [← hq2.out, ← hr2.out]; exact wrap_rest u2 a (by omega) (by omega)
    have hQt2 : Q2 < 4294967296 := by rw [← hQ2.out]; exact knuth_top Y u2 v0 hu22 hv0
    have hQq2 : Q2 ≤ q2 := by
      rw [← hQ2.out, ← hq2.out, Nat.le_div_iff_mul_le (by omega)]
      have h1 := Nat.div_mul_le_self (u2 * 4294967296 + v0) Y
      have h2 := knuth_mul ((u2 * 4294967296 + v0) / Y) Y a b hY.out
      omega
    go_upto_block 2 with (fail)
    clear eq2 er2 eu2
    go_cut [18] (fun q wx => q = .int .u64 Q2 ∧ wx = wc)
    case first =>
     go_wp2
     go_loop [18, 16] (fun q r => ∃ n m : Nat, q = .int .u64 n ∧ r = .int .u64 m ∧ Hid (n * a + m = u2) ∧ n ≤ 4294967297 ∧ m < 4294967296 ∧ Q2 ≤ n) (fun q _ => (intOf q).toNat)
     case atStart => exact ⟨q2, r2, rfl, rfl, hqr2, hq22, hr22, hQq2⟩
     case round =>
      clear hq2 hr2 hq22 hr22 hqr2 hQq2
      obtain ⟨n, m, rfl, rfl, hinv, hn, hm, hQn⟩ := hrel
      by_cases hbig : 4294967296 ≤ n
      · have hb1 : ¬ ((n : Int) < 4294967296) := by omega
        have hb2 : (4294967296 : Int) ≤ (n : Int) := by omega
        by_cases hx : m + a < 4294967296
        · have hx1 : (m : Int) + a < 4294967296 := by omega
          have hx2 : ¬ ((4294967296 : Int) ≤ (m : Int) + a) := by omega
          go_wp2
          refine ⟨⟨n - 1, m + a, int_eq (by omega), int_eq (by omega), ?_, by omega, hx, by omega⟩, by simp [intOf]; omega⟩
          unfold Hid
          have := hinv.out
          obtain ⟨k, rfl⟩ : ∃ k, n = k + 1 := ⟨n - 1, by omega⟩
          rw [Nat.add_mul, Nat.one_mul] at this
          rw [Nat.add_sub_cancel]; omega
        · have hx1 : ¬ ((m : Int) + a < 4294967296) := by omega
          have hx2 : (4294967296 : Int) ≤ (m : Int) + a := by omega
          have HE : Hid (n - 1 = Q2) := by
            unfold Hid
            apply Nat.le_antisymm
            · rw [← hQ2.out]
              obtain ⟨k, rfl⟩ : ∃ k, n = k + 1 := ⟨n - 1, by omega⟩
              refine knuth_low k (m + a) Y a b u2 v0 hY.out hY0 ?_ ?_
              · have := hinv.out; rw [Nat.add_mul, Nat.one_mul] at this; omega
              · have : k * b ≤ 4294967296 * 4294967295 := Nat.mul_le_mul (by omega) (by omega)
                omega
            · omega
          go_wp2
          go_meet
          case rel => exact ⟨int_eq (by have := HE.out; omega), rfl⟩
      · obtain ⟨nb, hnb⟩ : ∃ nb, Hid (n * b = nb) := ⟨_, rfl⟩
        have hb1 : (n : Int) < 4294967296 := by omega
        have hb2 : ¬ ((4294967296 : Int) ≤ (n : Int)) := by omega
        have hnb2 : nb ≤ 18446744065119617025 := by rw [← hnb.out]; exact Nat.mul_le_mul (show n ≤ 4294967295 by omega) (show b ≤ 4294967295 by omega)
        have enb : IntKind.u64.wrap ((n : Int) * b) = (nb : Int) := by rw [← Int.natCast_mul, hnb.out, wrap_id _ (by omega)]
        by_cases hc : 4294967296 * m + v0 < nb
        · have hlt : Q2 < n := by rw [← hQ2.out]; exact knuth_high n m Y a b u2 v0 hY.out hinv.out (by rw [hnb.out]; exact hc)
          have hc1 : 4294967296 * (m : Int) + v0 < nb := by omega
          have hc2 : ¬ ((nb : Int) ≤ 4294967296 * (m : Int) + v0) := by omega
          by_cases hx : m + a < 4294967296
          · have hx1 : (m : Int) + a < 4294967296 := by omega
            have hx2 : ¬ ((4294967296 : Int) ≤ (m : Int) + a) := by omega
            go_wp2
            refine ⟨⟨n - 1, m + a, int_eq (by omega), int_eq (by omega), ?_, by omega, hx, by omega⟩, by simp [intOf]; omega⟩
            unfold Hid
            have := hinv.out
            obtain ⟨k, rfl⟩ : ∃ k, n = k + 1 := ⟨n - 1, by omega⟩
            rw [Nat.add_mul, Nat.one_mul] at this
            rw [Nat.add_sub_cancel]; omega
          · have hx1 : ¬ ((m : Int) + a < 4294967296) := by omega
            have hx2 : (4294967296 : Int) ≤ (m : Int) + a := by omega
            have HE : Hid (n - 1 = Q2) := by
              unfold Hid
              apply Nat.le_antisymm
              · rw [← hQ2.out]
                obtain ⟨k, rfl⟩ : ∃ k, n = k + 1 := ⟨n - 1, by omega⟩
                refine knuth_low k (m + a) Y a b u2 v0 hY.out hY0 ?_ ?_
                · have := hinv.out; rw [Nat.add_mul, Nat.one_mul] at this; omega
                · have : k * b ≤ 4294967296 * 4294967295 := Nat.mul_le_mul (by omega) (by omega)
                  omega
              · omega
            go_wp2
            go_meet
            case rel => exact ⟨int_eq (by have := HE.out; omega), rfl⟩
        · have hc1 : ¬ (4294967296 * (m : Int) + v0 < nb) := by omega
          have hc2 : (nb : Int) ≤ 4294967296 * (m : Int) + v0 := by omega
          have HE : Hid (n = Q2) := by
            unfold Hid
            apply Nat.le_antisymm
            · rw [← hQ2.out]; exact knuth_low n m Y a b u2 v0 hY.out hY0 hinv.out (by rw [hnb.out]; omega)
            · exact hQn
          go_wp2
          go_meet
          case rel => exact ⟨int_eq (by have := HE.out; omega), rfl⟩
    case rest =>
      obtain ⟨rfl, rfl⟩ := hcut
      obtain ⟨u3, hu3⟩ : ∃ u3, Hid ((u2 * 4294967296 + v0) % Y = u3) := ⟨_, rfl⟩
      have hu33 : u3 < Y := by rw [← hu3.out]; exact Nat.mod_lt _ hY0
      have hN0 : Hid (Q2 * Y + u3 = u2 * 4294967296 + v0) := by unfold Hid; rw [← hQ2.out, ← hu3.out, Nat.mul_comm]; exact Nat.div_add_mod _ _
      have eu3 : IntKind.u64.wrap (IntKind.u64.wrap (IntKind.u64.wrap ((u2 : Int) * 4294967296) + v0) - IntKind.u64.wrap ((Q2 : Int) * Y)) = (u3 : Int) := wrap_left u2 v0 Q2 Y u3 hN0.out (by omega)
      obtain ⟨f1, f2⟩ := div_end (hi * 18446744073709551616 + lo) y s Y u v1 v0 Q u2 Q2 u3 hU.out hYy.out hN1.out hN0.out hu33
      have F1 : Hid (_ = _) := f1
      have F2 : Hid (_ = _) := f2
      clear f1 f2
      go_wp2
      go_ret2
      refine ⟨?_, Ext.refl _⟩
      show Ending.returned (.tuple #[.int .u64 ((Q : Int) * 4294967296 + Q2), .int .u64 ((u3 : Int) / 2 ^ s)]) = _
      rw [F1.out, F2.out]
      rw [Int.natCast_ediv, Int.natCast_pow]
      rfl
end Go.Proofs.YgvahwGreat
