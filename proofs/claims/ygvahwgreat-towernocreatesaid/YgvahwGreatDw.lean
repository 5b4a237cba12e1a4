import Derived.Test.YgvahwGreatPf
import Derived.Test.YgvahwGreatDz2
namespace Go.Proofs.YgvahwGreat
open Go.RowKit
set_option exponentiation.threshold 1000 in
theorem p64 : 256 ^ 64 = Bn 8 := by rw [Bn_two, show (256 : Nat) = 2 ^ 8 by decide, ← Nat.pow_mul]
theorem wide_ub {w : World} {A a : Nat} {c : Nat → Value} (h : Blk w A 8 345 c) (r : rowOf c 0 8 = wideV a) : UB w A 345 (fli 8 (lim a)) := h.toUB (fli_len _ _) (fun i hi => by
  rw [fli_getD _ _ _ hi]
  have h1 := congrArg (fun z : Array Value => z[i]?) r
  unfold wideV at h1
  simp only [rowOf_get, if_pos hi, Nat.zero_add] at h1
  injection h1)
theorem wide_of {l : List Nat} (hl : l.length = 8) (d : L64 l) : (ucells l).toArray = wideV (lv l) := by
  have e := rowOf_lf l 8 (by omega)
  rw [List.take_of_length_le (by omega)] at e
  rw [← e]
  unfold wideV rowOf
  congr 1
  apply List.map_congr_left
  intro i hi
  rw [List.mem_range] at hi
  rw [Nat.zero_add]
  unfold lf
  rw [getD_limX l d i (by omega)]
/-- The engine's power. -/
theorem modExpOK : ModExpOK := by
  intro w A E M a e m ca ce cm hA hE hM ra re rm la le lm
  rw [p64] at la le lm
  have h := uModExp (wide_ub hA ra) (wide_ub hE re) (wide_ub hM rm) (fli_len _ _) (fli_len _ _) (fli_len _ _) (fli_l64 (fun i _ => lim_lt _ _)) (fli_l64 (fun i _ => lim_lt _ _)) (fli_l64 (fun i _ => lim_lt _ _))
  rw [fli_lim 8 la, fli_lim 8 le, fli_lim 8 lm] at h
  refine h.mono ?_
  rintro x w' ⟨rl, rfl, ll, ld, hv, he⟩
  rw [wide_of ll ld, hv]
  exact ⟨rfl, he⟩
end Go.Proofs.YgvahwGreat
