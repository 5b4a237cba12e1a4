import Derived.Test.YgvahwGreatMm
namespace Go.Proofs.YgvahwGreat
open Go.RowKit
set_option linter.unusedSimpArgs false
theorem z27 : zeroOf Hvah.prog 32 = some #[.int .u8 0, .int .u8 0, .int .u8 0, .int .u8 0, .int .u8 0, .int .u8 0, .int .u8 0, .int .u8 0, .int .u8 0, .int .u8 0, .int .u8 0, .int .u8 0, .int .u8 0, .int .u8 0, .int .u8 0, .int .u8 0, .int .u8 0, .int .u8 0, .int .u8 0, .int .u8 0, .int .u8 0, .int .u8 0, .int .u8 0, .int .u8 0, .int .u8 0, .int .u8 0, .int .u8 0, .int .u8 0, .int .u8 0, .int .u8 0, .int .u8 0, .int .u8 0] := by kernel_rfl
theorem z27_at {i : Nat} (hi : i < 32) : cf #[.int .u8 0, .int .u8 0, .int .u8 0, .int .u8 0, .int .u8 0, .int .u8 0, .int .u8 0, .int .u8 0, .int .u8 0, .int .u8 0, .int .u8 0, .int .u8 0, .int .u8 0, .int .u8 0, .int .u8 0, .int .u8 0, .int .u8 0, .int .u8 0, .int .u8 0, .int .u8 0, .int .u8 0, .int .u8 0, .int .u8 0, .int .u8 0, .int .u8 0, .int .u8 0, .int .u8 0, .int .u8 0, .int .u8 0, .int .u8 0, .int .u8 0, .int .u8 0] i = .int .u8 0 := by
  have : ∀ i : Fin 32, cf #[.int .u8 0, .int .u8 0, .int .u8 0, .int .u8 0, .int .u8 0, .int .u8 0, .int .u8 0, .int .u8 0, .int .u8 0, .int .u8 0, .int .u8 0, .int .u8 0, .int .u8 0, .int .u8 0, .int .u8 0, .int .u8 0, .int .u8 0, .int .u8 0, .int .u8 0, .int .u8 0, .int .u8 0, .int .u8 0, .int .u8 0, .int .u8 0, .int .u8 0, .int .u8 0, .int .u8 0, .int .u8 0, .int .u8 0, .int .u8 0, .int .u8 0, .int .u8 0] i.val = .int .u8 0 := by
    intro i
    match i with
    | ⟨0, _⟩ => rfl
    | ⟨1, _⟩ => rfl
    | ⟨2, _⟩ => rfl
    | ⟨3, _⟩ => rfl
    | ⟨4, _⟩ => rfl
    | ⟨5, _⟩ => rfl
    | ⟨6, _⟩ => rfl
    | ⟨7, _⟩ => rfl
    | ⟨8, _⟩ => rfl
    | ⟨9, _⟩ => rfl
    | ⟨10, _⟩ => rfl
    | ⟨11, _⟩ => rfl
    | ⟨12, _⟩ => rfl
    | ⟨13, _⟩ => rfl
    | ⟨14, _⟩ => rfl
    | ⟨15, _⟩ => rfl
    | ⟨16, _⟩ => rfl
    | ⟨17, _⟩ => rfl
    | ⟨18, _⟩ => rfl
    | ⟨19, _⟩ => rfl
    | ⟨20, _⟩ => rfl
    | ⟨21, _⟩ => rfl
    | ⟨22, _⟩ => rfl
    | ⟨23, _⟩ => rfl
    | ⟨24, _⟩ => rfl
    | ⟨25, _⟩ => rfl
    | ⟨26, _⟩ => rfl
    | ⟨27, _⟩ => rfl
    | ⟨28, _⟩ => rfl
    | ⟨29, _⟩ => rfl
    | ⟨30, _⟩ => rfl
    | ⟨31, _⟩ => rfl
    | ⟨k + 32, h⟩ => exact absurd h (by omega)
  exact this ⟨i, hi⟩
theorem beL_pad (a : Nat) (ha : a < 2 ^ 160) : beL 32 a = List.replicate 12 0 ++ beL 20 a := by
  have hP : a < P256 := Nat.lt_trans ha (by decide)
  refine bev_inj _ _ (digits_beL _ _) (fun d hd => ?_) (by rw [len32 hP, List.length_append, List.length_replicate, len20 ha]) ?_
  · rcases List.mem_append.1 hd with h | h
    · rw [List.eq_of_mem_replicate h]; decide
    · exact digits_beL _ _ d h
  · rw [bev_beL]
    have h1 := bev_beL 20 a
    unfold bev at h1 ⊢
    rw [List.reverse_append, List.reverse_replicate, val_append, h1]
    have : val (List.replicate 12 0) = 0 := rfl
    rw [this, Nat.mul_zero, Nat.add_zero]
theorem aw_row (a : Nat) (ha : a < 2 ^ 160) : rowOf (layv (cf #[.int .u8 0, .int .u8 0, .int .u8 0, .int .u8 0, .int .u8 0, .int .u8 0, .int .u8 0, .int .u8 0, .int .u8 0, .int .u8 0, .int .u8 0, .int .u8 0, .int .u8 0, .int .u8 0, .int .u8 0, .int .u8 0, .int .u8 0, .int .u8 0, .int .u8 0, .int .u8 0, .int .u8 0, .int .u8 0, .int .u8 0, .int .u8 0, .int .u8 0, .int .u8 0, .int .u8 0, .int .u8 0, .int .u8 0, .int .u8 0, .int .u8 0, .int .u8 0]) 12 (av a)) 0 32 = (bcells (beL 32 a)).toArray := by
  have hs := av_size ha
  have hP : a < P256 := Nat.lt_trans ha (by decide)
  refine ext_cf (by rw [rowOf_size]; simp [bcells_length, len32 hP]) (fun i hi => ?_)
  rw [rowOf_size] at hi
  rw [cf_rowOf _ _ _ hi, Nat.zero_add, beL_pad a ha]
  have e : (bcells (List.replicate 12 0 ++ beL 20 a)).toArray = (bcells (List.replicate 12 0)).toArray ++ av a := by simp [bcells, av]
  rw [e, cf_append]
  have h12 : (bcells (List.replicate 12 0)).toArray.size = 12 := by simp [bcells]
  rw [h12]
  by_cases h : i < 12
  · rw [if_pos h, layv_out _ _ _ (by omega), z27_at (by omega)]
    match i, h with
    | 0, _ => rfl
    | 1, _ => rfl
    | 2, _ => rfl
    | 3, _ => rfl
    | 4, _ => rfl
    | 5, _ => rfl
    | 6, _ => rfl
    | 7, _ => rfl
    | 8, _ => rfl
    | 9, _ => rfl
    | 10, _ => rfl
    | 11, _ => rfl
  · rw [if_neg h]
    obtain ⟨j, rfl⟩ : ∃ j, i = 12 + j := ⟨i - 12, by omega⟩
    rw [layv_in _ _ _ (by omega), Nat.add_sub_cancel_left]
section
set_option maxRecDepth 100000 in
set_option maxHeartbeats 6400000 in
theorem mAddrWord (a : Nat) (ha : a < 2 ^ 160) (w : World) : Calls Hvah.prog 266 #[.agg (av a)] w fun e w' => e = .returned (wv a) ∧ Ext w w' := by
  have hP : a < P256 := Nat.lt_trans ha (by decide)
  go_enter Hvah.func266, Hvah.ntmps266
  go_upto_region 2 with (first | ((with_reducible (refine Veil.out ?_; apply wl_boxA)); (case hx => rfl); (case hn => exact ha); rintro B1 W1 c1 e1 b1 a1 g1) | ((with_reducible (refine Veil.out ?_; apply wl_allocW)); rintro B2 W2 c2 e2 b2 a2 g2) | ((with_reducible (refine Veil.out ?_; apply wl_allocB z27)); (case hn => rfl); rintro B3 W3 e3 b3 g3))
  refine w_ext ?_
  rintro W0 hW0
  refine wp_region_held_drew (S := fun w' => Mod (fun x => x = B3) W0 w') (by kernel_rfl) (Mod.refl _ _).drew (fun hHeld => ?_)
  have HH : Hid (Mod (fun x => x = B3) W0 _) := hHeld
  clear hHeld
  refine wpAnyH_take (i := 0) (v := ?_) rfl (by kernel_rfl) (by kernel_rfl) (by kernel_rfl) (fun _ _ _ h => h) (Or.inl ⟨by rfl, ?_⟩) HH.out ?_
  rotate_left
  · intro w hSw; go_simp; try with_reducible rfl
  change wpAnyH _ _ _ _ _ _ _ (Act.put _ (some 4) _) _
  simp only [Act.put, List.setIfInBounds_toArray, List.set_cons_zero, List.set_cons_succ]
  refine wpAnyH_take (i := 1) (v := ?_) rfl (by kernel_rfl) (by kernel_rfl) (by kernel_rfl) (fun _ _ _ h => h) (Or.inl ⟨by rfl, ?_⟩) HH.out ?_
  rotate_left
  · intro w hSw; go_simp; try with_reducible rfl
  change wpAnyH _ _ _ _ _ _ _ (Act.put _ (some 5) _) _
  simp only [Act.put, List.setIfInBounds_toArray, List.set_cons_zero, List.set_cons_succ]
  refine wpAnyH_ready (rs := [2]) (by kernel_rfl) (by simp) ?_
  refine AllReadyH.cons rfl (fun K hK => ?_) AllReadyH.nil
  refine step_any rfl (op_copyR (k := 20) rfl (by kernel_rfl) u8map rfl rfl (Blk.ext b3 (by (repeat (first | with_reducible exact Ext.refl _ | with_reducible assumption | refine Ext.trans ?_ (by with_reducible assumption) | refine Ext.alloc ?_ _ _ | refine Ext.drew ?_ | refine Ext.drewN ?_ _)))) (Blk.ext b1 (by (repeat (first | with_reducible exact Ext.refl _ | with_reducible assumption | refine Ext.trans ?_ (by with_reducible assumption) | refine Ext.alloc ?_ _ _ | refine Ext.drew ?_ | refine Ext.drewN ?_ _)))) rfl (by decide) (by decide) (fun j hj => ?_) ?_)
  · rw [← cf_rowOf c1 0 20 (j := j) (by omega), rowOf_av a1 ha]; exact Ones.get (av_one a) (by rw [av_size ha]; omega)
  intro W5 b5 m5
  refine hK.out _ _ ?_ (fun hHeld => ?_)
  · exact HH.out.trans m5
  clear hK K HH
  have HH : Hid (Mod (fun x => x = B3) W0 _) := hHeld
  clear hHeld
  change wpAnyH _ _ _ _ _ _ _ (Act.put _ (some 6) _) _
  simp only [Act.put, List.setIfInBounds_toArray, List.set_cons_zero, List.set_cons_succ]
  refine wpAnyH_done (by kernel_rfl) ?_ _
  have hm : Mod (fun x => x = B3) W3 W5 := by (repeat (first | with_reducible exact Mod.refl _ _ | with_reducible assumption | refine Mod.trans ?_ (by with_reducible assumption) | refine Mod.trans_ext ?_ (by with_reducible assumption) | refine Mod.alloc ?_ _ _ | refine Mod.drew ?_ | refine Mod.drewN ?_ _))
  have hne : B2 ≠ B3 := by have q1 := b2.lt; have q2 := e3.size; omega
  replace b2 := (b2.ext e3).mod hm hne
  rw [show 20 * 1 = 20 from rfl, rowOf_av a1 ha] at b5
  have hE5 : Ext w W5 := Ext.trans_mod ((e1.trans e2).trans e3) hm (fun i hi => by have hi2 : i = B3 := hi; rw [hi2]; exact Nat.le_trans (Ext.size (e1.trans e2)) g3)
  have HF := fun W => uFromBytes (beL 32 a) W (len32 hP) (digits_beL _ _)
  rw [bev_beL] at HF
  go_wp2_with (first | ((with_reducible (refine Veil.out ?_; apply wl_loadRow rt27)); (case hx => rfl); (case hB => exact b5); (case hi => decide); rw [aw_row a ha]) | (go_at_call 92; refine (HF _).mono ?_; rintro e W6 ⟨rfl, he6⟩) | ((with_reducible (refine Veil.out ?_; apply wl_storeWB)); (case hx => rfl); (case hy => rfl); (case hB => exact b2.ext he6); (case hi => decide); rintro W7 c7 b7 a7 _ m7))
  refine post_W Hvah.results266 rfl b7 a7 (by decide) rfl ⟨rfl, ?_⟩
  refine Ext.trans_mod (hE5.trans he6) m7 (fun i hi => ?_)
  have hi2 : i = B2 := hi
  rw [hi2]
  exact Nat.le_trans e1.size g2
end
end Go.Proofs.YgvahwGreat
