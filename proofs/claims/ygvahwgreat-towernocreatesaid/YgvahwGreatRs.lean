import Derived.Test.YgvahwGreatNv
namespace Go.Proofs.YgvahwGreat
open Go.RowKit
set_option linter.unusedSimpArgs false

theorem ones_u4r : Ones #[.int .u64 0, .int .u64 0, .int .u64 0, .int .u64 0] := fun v hv => by
  simp only [List.mem_cons, List.not_mem_nil, or_false, or_self] at hv
  subst hv; rfl
theorem ones_u20 : Ones #[.int .u8 0, .int .u8 0, .int .u8 0, .int .u8 0, .int .u8 0, .int .u8 0, .int .u8 0, .int .u8 0, .int .u8 0, .int .u8 0, .int .u8 0, .int .u8 0, .int .u8 0, .int .u8 0, .int .u8 0, .int .u8 0, .int .u8 0, .int .u8 0, .int .u8 0, .int .u8 0] := fun v hv => by
  simp only [List.mem_cons, List.not_mem_nil, or_false, or_self] at hv
  subst hv; rfl
theorem onet74r : OneT 87 := oneT_of (by kernel_rfl) (by kernel_rfl)
section
variable {w : World} {g : Nat} {c : Nat → Value}
set_option maxRecDepth 100000 in
set_option maxHeartbeats 6400000 in
theorem eRestW (hB : Blk w g 27024 105 c) (hp : c 0 = .pointer (some ⟨g, 2435, none⟩)) (E : (Nat → Value) → World → Prop)
    (HE : Calls Hvah.prog 128 #[.pointer (some ⟨g, 2435, none⟩)] w fun e w' => e = .returned (.tuple #[]) ∧ ∃ c', Blk w' g 27024 105 c' ∧ E c' w') :
    Calls Hvah.prog 49 #[.pointer (some ⟨g, 0, none⟩)] w fun e w2 => e = .returned (.tuple #[]) ∧ ∃ c' w1 c2, E c' w1 ∧ Blk w2 g 27024 105 c2 ∧ (∀ i, 2435 ≤ i → c2 i = c' i) ∧ Mod (· = g) w1 w2 := by
  go_enter Hvah.func49, Hvah.ntmps49
  go_upto_region 1 with (first
    | ((with_reducible (refine Veil.out ?_; apply wl_loadB onet60v)); (case hx => rfl); (case hB => exact hB); (case hi => decide); rw [hp])
    | (go_at_call 128; refine HE.mono ?_; rintro e w1 ⟨rfl, c', b1, hE1⟩))
  clear hB HE
  go_wp2_with (first | ((with_reducible (refine Veil.out ?_; apply wl_storeC one5i)); (case hx => rfl); (case hy => rfl); (case h1 => rfl); (case hB => with_reducible assumption); (case hi => decide); rintro W9 b9 m9) | ((with_reducible (refine Veil.out ?_; apply wl_storeC one26i)); (case hx => rfl); (case hy => rfl); (case h1 => rfl); (case hB => with_reducible assumption); (case hi => decide); rintro W9 b9 m9) | ((with_reducible (refine Veil.out ?_; apply wl_storeC one32i)); (case hx => rfl); (case hy => rfl); (case h1 => rfl); (case hB => with_reducible assumption); (case hi => decide); rintro W9 b9 m9) | ((with_reducible (refine Veil.out ?_; apply wl_storeC onet74r)); (case hx => rfl); (case hy => rfl); (case h1 => rfl); (case hB => with_reducible assumption); (case hi => decide); rintro W9 b9 m9) | ((with_reducible (refine Veil.out ?_; apply wl_storeRow rt66 (r := #[.int .u64 0, .int .u64 0, .int .u64 0, .int .u64 0]))); (case hx => rfl); (case hy => rfl); (case hr => rfl); (case h1 => exact ones_u4r); (case hB => with_reducible assumption); (case hi => decide); rintro W9 b9 m9) | ((with_reducible (refine Veil.out ?_; apply wl_storeRow rt25 (r := #[.int .u8 0, .int .u8 0, .int .u8 0, .int .u8 0, .int .u8 0, .int .u8 0, .int .u8 0, .int .u8 0, .int .u8 0, .int .u8 0, .int .u8 0, .int .u8 0, .int .u8 0, .int .u8 0, .int .u8 0, .int .u8 0, .int .u8 0, .int .u8 0, .int .u8 0, .int .u8 0]))); (case hx => rfl); (case hy => rfl); (case hr => rfl); (case h1 => exact ones_u20); (case hB => with_reducible assumption); (case hi => decide); rintro W9 b9 m9))
  go_end0
  refine ⟨rfl, c', w1, _, hE1, by with_reducible assumption, fun i hi => ?_, by (repeat (first | with_reducible assumption | refine Mod.trans ?_ (by with_reducible assumption)))⟩
  repeat (first | rw [updv_ne _ _ (by omega)] | rw [layv_out _ _ _ (Or.inr (by simp; omega))])
end
end Go.Proofs.YgvahwGreat
