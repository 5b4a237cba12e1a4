import Derived.Test.YgvahwGreatYpL
namespace Go.Proofs.YgvahwGreat
open Go.RowKit
theorem av4 : Value.agg #[.int .u8 0, .int .u8 0, .int .u8 0, .int .u8 0, .int .u8 0, .int .u8 0, .int .u8 0, .int .u8 0, .int .u8 0, .int .u8 0, .int .u8 0, .int .u8 0, .int .u8 0, .int .u8 0, .int .u8 0, .int .u8 0, .int .u8 0, .int .u8 0, .int .u8 0, .int .u8 4] = .agg (av 4) := by kernel_rfl
theorem av5 : Value.agg #[.int .u8 0, .int .u8 0, .int .u8 0, .int .u8 0, .int .u8 0, .int .u8 0, .int .u8 0, .int .u8 0, .int .u8 0, .int .u8 0, .int .u8 0, .int .u8 0, .int .u8 0, .int .u8 0, .int .u8 0, .int .u8 0, .int .u8 0, .int .u8 0, .int .u8 0, .int .u8 5] = .agg (av 5) := by kernel_rfl
section
attribute [local go_sem] run_eq_av av4 av5
set_option maxRecDepth 100000 in
set_option maxHeartbeats 1600000 in
theorem yNativeAt (a : Nat) (w : World) (ha : a < 2 ^ 160) : Calls Hvah.prog 63 #[.agg (av a)] w fun e w' => e = .returned (.int .u8 (preA a : Nat)) ∧ Ext w w' := by
  have hsa : (av a).size = 20 := av_size ha
  have HA := boxes1 w (av a) 31 _ (Ext.refl _)
  have h4 : (4 : Nat) < 2 ^ 160 := by decide
  have h5 : (5 : Nat) < 2 ^ 160 := by decide
  by_cases e4 : a = 4
  · subst e4
    have c19 := HA 19 (.int .u8 4) (by kernel_rfl)
    go_enter Hvah.func63, Hvah.ntmps63
    go_wp2_with (first | ((with_reducible (refine Veil.out ?_; apply wl_box)); (case hx => rfl)) | ((with_reducible (refine Veil.out ?_; apply wl_loadG rt25)); (case hw => first | rfl | simp [Region.wanted, yielded]); (case hx => rfl); (case hr => exact HA); (case hn => exact hsa)))
    go_ret
    exact ⟨rfl, (Ext.refl _).alloc _ _⟩
  · by_cases e5 : a = 5
    · subst e5
      have c19 := HA 19 (.int .u8 5) (by kernel_rfl)
      go_enter Hvah.func63, Hvah.ntmps63
      go_wp2_with (first | ((with_reducible (refine Veil.out ?_; apply wl_box)); (case hx => rfl)) | ((with_reducible (refine Veil.out ?_; apply wl_loadG rt25)); (case hw => first | rfl | simp [Region.wanted, yielded]); (case hx => rfl); (case hr => exact HA); (case hn => exact hsa)))
      go_ret
      exact ⟨rfl, (Ext.refl _).alloc _ _⟩
    · have e0 : preA a = 0 := by simp [preA, e4, e5]
      rw [e0]
      go_enter Hvah.func63, Hvah.ntmps63
      go_wp2_with (first | ((with_reducible (refine Veil.out ?_; apply wl_box)); (case hx => rfl)) | ((with_reducible (refine Veil.out ?_; apply wl_loadG rt25)); (case hw => first | rfl | simp [Region.wanted, yielded]); (case hx => rfl); (case hr => exact HA); (case hn => exact hsa)))
      go_ret
      exact ⟨rfl, (Ext.refl _).alloc _ _⟩
set_option maxRecDepth 100000 in
set_option maxHeartbeats 1600000 in
theorem mNativeAt (a : Nat) (w : World) (ha : a < 2 ^ 160) : Calls Hvah.prog 111 #[.agg (av a)] w fun e w' => e = .returned (.int .u8 (preA a : Nat)) ∧ Ext w w' := by
  have hsa : (av a).size = 20 := av_size ha
  have HA := boxes1 w (av a) 31 _ (Ext.refl _)
  have h4 : (4 : Nat) < 2 ^ 160 := by decide
  have h5 : (5 : Nat) < 2 ^ 160 := by decide
  by_cases e4 : a = 4
  · subst e4
    have c19 := HA 19 (.int .u8 4) (by kernel_rfl)
    go_enter Hvah.func111, Hvah.ntmps111
    go_wp2_with (first | ((with_reducible (refine Veil.out ?_; apply wl_box)); (case hx => rfl)) | ((with_reducible (refine Veil.out ?_; apply wl_loadG rt25)); (case hw => first | rfl | simp [Region.wanted, yielded]); (case hx => rfl); (case hr => exact HA); (case hn => exact hsa)))
    go_ret
    exact ⟨rfl, (Ext.refl _).alloc _ _⟩
  · by_cases e5 : a = 5
    · subst e5
      have c19 := HA 19 (.int .u8 5) (by kernel_rfl)
      go_enter Hvah.func111, Hvah.ntmps111
      go_wp2_with (first | ((with_reducible (refine Veil.out ?_; apply wl_box)); (case hx => rfl)) | ((with_reducible (refine Veil.out ?_; apply wl_loadG rt25)); (case hw => first | rfl | simp [Region.wanted, yielded]); (case hx => rfl); (case hr => exact HA); (case hn => exact hsa)))
      go_ret
      exact ⟨rfl, (Ext.refl _).alloc _ _⟩
    · have e0 : preA a = 0 := by simp [preA, e4, e5]
      rw [e0]
      go_enter Hvah.func111, Hvah.ntmps111
      go_wp2_with (first | ((with_reducible (refine Veil.out ?_; apply wl_box)); (case hx => rfl)) | ((with_reducible (refine Veil.out ?_; apply wl_loadG rt25)); (case hw => first | rfl | simp [Region.wanted, yielded]); (case hx => rfl); (case hr => exact HA); (case hn => exact hsa)))
      go_ret
      exact ⟨rfl, (Ext.refl _).alloc _ _⟩
end
end Go.Proofs.YgvahwGreat
