import Derived.Test.YgvahwGreatYn
namespace Go.Proofs.YgvahwGreat
open Go.RowKit
set_option linter.unusedSimpArgs false

section
variable {w : World} {Y F q : Nat} {tY : TypeId} {c : Nat → Value}
set_option maxRecDepth 100000 in
set_option maxHeartbeats 6400000 in
theorem yEnters240 (hB : Blk w Y 179 tY c)  (X Q : World → Prop) (hX : ∀ W, Blk W Y 179 tY (updv c 10 (.slice none 0 0)) → Mod (· = Y) w W → X W) (HC : ∀ W, X W → Calls Hvah.prog 158 #[.pointer (some ⟨Y, 0, none⟩), .pointer (some ⟨F, q, none⟩), .int .u8 240] W fun e w' => e = .returned (.tuple #[]) ∧ Q w') : Calls Hvah.prog 75 #[.pointer (some ⟨Y, 0, none⟩), .pointer (some ⟨F, q, none⟩), .int .u8 240] w fun e w' => e = .returned (.tuple #[]) ∧ Q w' := by
  go_enter Hvah.func75, Hvah.ntmps75
  go_wp2_with (first | ((with_reducible (refine Veil.out ?_; apply wl_storeC one32i (v := Value.slice none 0 0))); (case hx => rfl); (case hy => rfl); (case h1 => rfl); (case hB => exact hB); (case hi => decide); rintro W1 b1 m1; have hX1 := hX _ b1 m1) | (go_at_call 158; refine (HC _ hX1).mono ?_; rintro e w2 ⟨rfl, hQ⟩))
  (first | go_end0 | refine post_void rfl rfl ?_)
  exact ⟨rfl, hQ⟩
set_option maxRecDepth 100000 in
set_option maxHeartbeats 6400000 in
theorem yEnters245 (hB : Blk w Y 179 tY c)  (X Q : World → Prop) (hX : ∀ W, Blk W Y 179 tY (updv c 10 (.slice none 0 0)) → Mod (· = Y) w W → X W) (HC : ∀ W, X W → Calls Hvah.prog 158 #[.pointer (some ⟨Y, 0, none⟩), .pointer (some ⟨F, q, none⟩), .int .u8 245] W fun e w' => e = .returned (.tuple #[]) ∧ Q w') : Calls Hvah.prog 75 #[.pointer (some ⟨Y, 0, none⟩), .pointer (some ⟨F, q, none⟩), .int .u8 245] w fun e w' => e = .returned (.tuple #[]) ∧ Q w' := by
  go_enter Hvah.func75, Hvah.ntmps75
  go_wp2_with (first | ((with_reducible (refine Veil.out ?_; apply wl_storeC one32i (v := Value.slice none 0 0))); (case hx => rfl); (case hy => rfl); (case h1 => rfl); (case hB => exact hB); (case hi => decide); rintro W1 b1 m1; have hX1 := hX _ b1 m1) | (go_at_call 158; refine (HC _ hX1).mono ?_; rintro e w2 ⟨rfl, hQ⟩))
  (first | go_end0 | refine post_void rfl rfl ?_)
  exact ⟨rfl, hQ⟩
set_option maxRecDepth 100000 in
set_option maxHeartbeats 6400000 in
theorem yEntersCall (hB : Blk w Y 179 tY c) (o : Nat) (h0 : o ≠ 240) (h1 : o ≠ 245) (X Q : World → Prop) (hX : ∀ W, Blk W Y 179 tY (updv c 10 (.slice none 0 0)) → Mod (· = Y) w W → X W) (HC : ∀ W, X W → Calls Hvah.prog 159 #[.pointer (some ⟨Y, 0, none⟩), .pointer (some ⟨F, q, none⟩), .int .u8 (o : Nat)] W fun e w' => e = .returned (.tuple #[]) ∧ Q w') : Calls Hvah.prog 75 #[.pointer (some ⟨Y, 0, none⟩), .pointer (some ⟨F, q, none⟩), .int .u8 (o : Nat)] w fun e w' => e = .returned (.tuple #[]) ∧ Q w' := by
  have z0 : ¬ (o : Int) = 240 := by omega
  have z1 : ¬ (o : Int) = 245 := by omega
  have y0 : ((o : Int) == 240) = false := by simp; omega
  have y1 : ((o : Int) == 245) = false := by simp; omega
  go_enter Hvah.func75, Hvah.ntmps75
  go_wp2_with (first | ((with_reducible (refine Veil.out ?_; apply wl_storeC one32i (v := Value.slice none 0 0))); (case hx => rfl); (case hy => rfl); (case h1 => rfl); (case hB => exact hB); (case hi => decide); rintro W1 b1 m1; have hX1 := hX _ b1 m1) | (go_at_call 159; refine (HC _ hX1).mono ?_; rintro e w2 ⟨rfl, hQ⟩))
  (first | go_end0 | refine post_void rfl rfl ?_)
  exact ⟨rfl, hQ⟩
end
end Go.Proofs.YgvahwGreat
