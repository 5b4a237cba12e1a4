import Derived.Test.YgvahwGreatAbs
import Derived.Deep.CutBlock
import Derived.Deep.DeepCutAuto
namespace Go.Proofs.YgvahwGreat
open Go.RowKit
set_option linter.unusedSimpArgs false
set_option maxRecDepth 100000 in
set_option maxHeartbeats 6400000 in
theorem kBit (b : Bool) (w : World) : Calls Hvah.prog 423 #[.bool b] w fun e w' => e = .returned (.int .u8 ((if b then 1 else 0 : Nat) : Int)) ∧ w' = w := by
  cases b
  · go_enter Hvah.func423, Hvah.ntmps423
    go_wp2
    go_ret
    exact ⟨rfl, rfl⟩
  · go_enter Hvah.func423, Hvah.ntmps423
    go_wp2
    go_ret
    exact ⟨rfl, rfl⟩
/-- The walk of the offsets. -/
def kuv : Nat → Nat × Nat
  | 0 => (1, 0)
  | t + 1 => ((kuv t).2, (2 * (kuv t).1 + 3 * (kuv t).2) % 5)
theorem kuv_off : ∀ t, t < 24 → kOff.getD (5 * (kuv t).2 + (kuv t).1) 0 = (t + 1) * (t + 2) / 2 % 64 ∧ (kuv t).1 < 5 ∧ (kuv t).2 < 5 := by decide
theorem kuv_none : ∀ x, x < 5 → ∀ y, y < 5 → (∀ t, t < 24 → ¬ ((kuv t).1 = x ∧ (kuv t).2 = y)) → kOff.getD (5 * y + x) 0 = 0 := by decide
set_option maxRecDepth 100000 in
set_option maxHeartbeats 6400000 in
theorem kOffset (x y : Nat) (hx : x < 5) (hy : y < 5) (w : World) : Calls Hvah.prog 422 #[.int .u8 x, .int .u8 y] w fun e w' => e = .returned (.int .u8 (kOff.getD (5 * y + x) 0 : Nat)) ∧ w' = w := by
  have hx1 : ¬ (5 : Int) ≤ x := by omega
  have hy1 : ¬ (5 : Int) ≤ y := by omega
  have jx : IntKind.i64.wrap (x : Int) = x := by rw [IntKind.wrap_i64]; omega
  have jy : IntKind.i64.wrap (y : Int) = y := by rw [IntKind.wrap_i64]; omega
  go_enter Hvah.func422, Hvah.ntmps422
  go_wp2
  try simp only [Act.put]
  go_loopw [5, 6, 7] (fun uv vv tv wr => ∃ t u v : Nat, uv = .int .i64 (u : Nat) ∧ vv = .int .i64 (v : Nat) ∧ tv = .int .i64 (t : Nat) ∧ t ≤ 24 ∧ Hid (kuv t = (u, v)) ∧ (∀ s, s < t → ¬ ((kuv s).1 = x ∧ (kuv s).2 = y)) ∧ wr = w) (fun _ _ tv _ => 24 - (intOf tv).toNat)
  case atStart => exact ⟨0, 1, 0, rfl, rfl, rfl, by decide, (rfl : kuv 0 = (1, 0)), fun s hs => absurd hs (Nat.not_lt_zero _), rfl⟩
  case round =>
    obtain ⟨t, u, v, rfl, rfl, rfl, ht, huv, hall, rfl⟩ := hrel
    rcases Nat.lt_or_ge t 24 with hlt | hge
    · have hti : (t : Int) < 24 := by omega
      have ho := kuv_off t hlt
      rw [huv.out] at ho
      obtain ⟨ho, hu5, hv5⟩ := ho
      have hu5 : u < 5 := hu5
      have hv5 : v < 5 := hv5
      have j1 : IntKind.i64.wrap ((t : Int) + 1) = t + 1 := by rw [IntKind.wrap_i64]; omega
      have j2 : IntKind.i64.wrap ((t : Int) + 2) = t + 2 := by rw [IntKind.wrap_i64]; omega
      have hq : (t + 1) * (t + 2) ≤ 24 * 25 := Nat.mul_le_mul (by omega) (by omega)
      obtain ⟨q, eq⟩ : ∃ q, Hid ((t + 1) * (t + 2) = q) := ⟨_, rfl⟩
      rw [eq.out] at hq ho
      have j3 : IntKind.i64.wrap (((t : Int) + 1) * (t + 2)) = (q : Int) := by
        have : ((t : Int) + 1) * (t + 2) = (q : Int) := by rw [← eq.out]; push_cast; rfl
        rw [this, IntKind.wrap_i64]; omega
      have j6 : IntKind.i64.wrap ((2 : Int) * u) = 2 * u := by rw [IntKind.wrap_i64]; omega
      have j7 : IntKind.i64.wrap ((3 : Int) * v) = 3 * v := by rw [IntKind.wrap_i64]; omega
      have j8 : IntKind.i64.wrap ((2 : Int) * u + 3 * v) = 2 * u + 3 * v := by rw [IntKind.wrap_i64]; omega
      by_cases h1 : u = x
      · subst h1
        by_cases h2 : v = y
        · subst h2
          go_wp2
          go_ret
          refine ⟨congrArg Ending.returned ?_, rfl⟩
          rw [List.getD_eq_getElem?_getD] at ho
          rw [ho]
          refine int_eq ?_
          try rw [IntKind.wrap_u8]
          omega
        · have h2i : ((v : Int) == y) = false := by simp; omega
          go_wp2
          go_roundw
          case rel =>
            refine ⟨t + 1, v, (2 * u + 3 * v) % 5, rfl, int_eq (by omega), int_eq (by omega), by omega, ?_, fun s hs => ?_, trivial⟩
            · show kuv (t + 1) = _
              unfold kuv; rw [huv.out]
            · rcases Nat.lt_or_ge s t with q1 | q1
              · exact hall s q1
              · obtain rfl : s = t := by omega
                rw [huv.out]
                intro q2
                exact h2 q2.2
          case measure => simp [intOf]; omega
      · have h1i : ((u : Int) == x) = false := by simp; omega
        go_wp2
        go_roundw
        case rel =>
          refine ⟨t + 1, v, (2 * u + 3 * v) % 5, rfl, int_eq (by omega), int_eq (by omega), by omega, ?_, fun s hs => ?_, trivial⟩
          · show kuv (t + 1) = _
            unfold kuv; rw [huv.out]
          · rcases Nat.lt_or_ge s t with q1 | q1
            · exact hall s q1
            · obtain rfl : s = t := by omega
              rw [huv.out]
              intro q2
              exact h1 q2.1
        case measure => simp [intOf]; omega
    · have hti : ¬ (t : Int) < 24 := by omega
      have : t = 24 := by omega
      subst this
      go_wp2
      go_ret
      have := kuv_none x hx y hy hall
      rw [List.getD_eq_getElem?_getD] at this
      rw [this]
      exact ⟨rfl, rfl⟩
end Go.Proofs.YgvahwGreat
