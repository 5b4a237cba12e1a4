import Derived.Test.YgvahwGreatRowsO
import Derived.Test.YgvahwGreatMt
namespace Go.Proofs.YgvahwGreat
open Go.RowKit
set_option linter.unusedSimpArgs false
theorem RowIn.pre {w : World} {b o : Nat} {l : List Nat} (h : RowIn w b o (bcells l).toArray) (k : Nat) : RowIn w b o (bcells (l.take k)).toArray := fun i v hv => h i v (by
  simp only [bcells, List.getElem?_toArray, List.getElem?_map, Option.map_eq_some_iff] at hv ⊢
  obtain ⟨x, hx, rfl⟩ := hv
  refine ⟨x, ?_, rfl⟩
  rw [List.getElem?_take] at hx
  split at hx
  · exact hx
  · cases hx)
theorem cut_row (L : List Nat) (k : Nat) (hk : k = min L.length 32) : rowOf (layv (cf #[.int .u8 0, .int .u8 0, .int .u8 0, .int .u8 0, .int .u8 0, .int .u8 0, .int .u8 0, .int .u8 0, .int .u8 0, .int .u8 0, .int .u8 0, .int .u8 0, .int .u8 0, .int .u8 0, .int .u8 0, .int .u8 0, .int .u8 0, .int .u8 0, .int .u8 0, .int .u8 0, .int .u8 0, .int .u8 0, .int .u8 0, .int .u8 0, .int .u8 0, .int .u8 0, .int .u8 0, .int .u8 0, .int .u8 0, .int .u8 0, .int .u8 0, .int .u8 0]) 0 (bcells (L.take k)).toArray) 0 32 = (bcells ((L ++ List.replicate 32 0).take 32)).toArray := by
  have hs : (bcells (L.take k)).toArray.size = k := by simp [bcells_length]; omega
  refine ext_cf (by rw [rowOf_size]; simp [bcells_length]) (fun i hi => ?_)
  rw [rowOf_size] at hi
  rw [cf_rowOf _ _ _ hi, Nat.zero_add]
  have hR : ((L ++ List.replicate 32 0).take 32)[i]? = some (if i < k then L.getD i 0 else 0) := by
    rw [List.getElem?_take, if_pos hi]
    by_cases h : i < L.length
    · rw [List.getElem?_append_left h, if_pos (by omega)]; simp [List.getD, h]
    · rw [List.getElem?_append_right (by omega), if_neg (by omega), List.getElem?_replicate, if_pos (by omega)]
  have e2 : cf (bcells ((L ++ List.replicate 32 0).take 32)).toArray i = .int .u8 ((if i < k then L.getD i 0 else 0 : Nat) : Int) := cf_get (by simp only [bcells, List.getElem?_toArray, List.getElem?_map, hR, Option.map_some])
  rw [e2]
  by_cases h : i < k
  · have := layv_in (cf #[.int .u8 0, .int .u8 0, .int .u8 0, .int .u8 0, .int .u8 0, .int .u8 0, .int .u8 0, .int .u8 0, .int .u8 0, .int .u8 0, .int .u8 0, .int .u8 0, .int .u8 0, .int .u8 0, .int .u8 0, .int .u8 0, .int .u8 0, .int .u8 0, .int .u8 0, .int .u8 0, .int .u8 0, .int .u8 0, .int .u8 0, .int .u8 0, .int .u8 0, .int .u8 0, .int .u8 0, .int .u8 0, .int .u8 0, .int .u8 0, .int .u8 0, .int .u8 0]) 0 (bcells (L.take k)).toArray (j := i) (by rw [hs]; exact h)
    rw [Nat.zero_add] at this
    rw [this, if_pos h]
    have hL : (L.take k)[i]? = some (L.getD i 0) := by rw [List.getElem?_take, if_pos h]; simp [List.getD, show i < L.length by omega]
    exact cf_get (by simp only [bcells, List.getElem?_toArray, List.getElem?_map, hL, Option.map_some])
  · rw [layv_out _ _ _ (by rw [hs]; omega), z27_at hi, if_neg h]; rfl
section
variable {O : Nat → Prop} {w : World} {v : Value} {l : List Nat}
set_option maxRecDepth 100000 in
set_option maxHeartbeats 6400000 in
theorem mWord32 (h : NL O w v l) (off : Nat) (_ho : off < 18446744073709551616) : Calls Hvah.prog 305 #[v, .int .u64 off] w fun e w' => e = .returned (wv (bev (cutA l off 32))) ∧ Ext w w' := by
  have hdig : Digits (cutA l off 32) := fun d hd => by
    rcases List.mem_append.1 (List.mem_of_mem_take hd) with q | q
    · exact h.digits d (List.mem_of_mem_drop q)
    · rw [List.eq_of_mem_replicate q]; decide
  have hlen : (cutA l off 32).length = 32 := by simp [cutA]
  have HF := fun W => uFromBytes (cutA l off 32) W hlen hdig
  obtain ⟨o, cap, rfl, h1, h2, h3⟩ := h
  have hll : (l.length : Int) ≤ 140737488355328 := by omega
  have hlw : IntKind.u64.wrap (l.length : Int) = l.length := by rw [IntKind.wrap_u64]; omega
  by_cases hlt : off < l.length
  · have i1 : (off : Int) < l.length := by omega
    have i2 : (off : Int) ≤ l.length := by omega
    have i3 : (l.length : Int) ≤ cap := by omega
    have i4 : ¬ cap = off := by omega
    obtain ⟨b, off0, rfl, hb, hrow⟩ := h3.rowIn (fun q => by rw [q] at hlt; cases hlt)
    have hr := fun W (hW : Ext w W) => ((hrow off).ext hb hW).pre (min (l.drop off).length 32)
    have hrs : (bcells ((l.drop off).take (min (l.drop off).length 32))).toArray.size = min (l.length - off) 32 * 1 := by rw [List.size_toArray, bcells_length, List.length_take, List.length_drop]; omega
    have hcr := cut_row (l.drop off) (min (l.drop off).length 32) rfl
    go_enter Hvah.func305, Hvah.ntmps305
    go_upto_region 3 with (first | ((with_reducible (refine Veil.out ?_; apply wl_allocW)); rintro B2 W2 c2 e2 b2 a2 g2) | ((with_reducible (refine Veil.out ?_; apply wl_allocB (n := 32) z27)); (case hn => rfl); rintro B5 W5 e5 b5 g5))
    refine w_ext ?_
    rintro W0 hW0
    refine wp_region_held_drew (S := fun w' => Mod (fun x => x = B5) W0 w') (by kernel_rfl) (Mod.refl _ _).drew (fun hHeld => ?_)
    have HH : Hid (Mod (fun x => x = B5) W0 _) := hHeld
    clear hHeld
    refine wpAnyH_take (i := 0) (v := ?_) rfl (by kernel_rfl) (by kernel_rfl) (by kernel_rfl) (fun _ _ _ h => h) (Or.inl ⟨by rfl, ?_⟩) HH.out ?_
    rotate_left
    · intro w hSw; go_simp; try with_reducible rfl
    change wpAnyH _ _ _ _ _ _ _ (Act.put _ (some 11) _) _
    simp only [Act.put, List.setIfInBounds_toArray, List.set_cons_zero, List.set_cons_succ]
    refine wpAnyH_take (i := 1) (v := ?_) rfl (by kernel_rfl) (by kernel_rfl) (by kernel_rfl) (fun _ _ _ h => h) (Or.inl ⟨by rfl, ?_⟩) HH.out ?_
    rotate_left
    · intro w hSw; go_simp; try with_reducible rfl
    change wpAnyH _ _ _ _ _ _ _ (Act.put _ (some 12) _) _
    simp only [Act.put, List.setIfInBounds_toArray, List.set_cons_zero, List.set_cons_succ]
    refine wpAnyH_take (i := 2) (v := ?_) rfl (by kernel_rfl) (by kernel_rfl) (by kernel_rfl) (fun _ _ _ h => h) (Or.inl ⟨by rfl, ?_⟩) HH.out ?_
    rotate_left
    · intro w hSw; go_simp; try with_reducible rfl
    change wpAnyH _ _ _ _ _ _ _ (Act.put _ (some 13) _) _
    simp only [Act.put, List.setIfInBounds_toArray, List.set_cons_zero, List.set_cons_succ]
    refine wpAnyH_take (i := 3) (v := ?_) rfl (by kernel_rfl) (by kernel_rfl) (by kernel_rfl) (fun _ _ _ h => h) (Or.inl ⟨by rfl, ?_⟩) HH.out ?_
    rotate_left
    · intro w hSw; go_simp; try with_reducible rfl
    change wpAnyH _ _ _ _ _ _ _ (Act.put _ (some 14) _) _
    simp only [Act.put, List.setIfInBounds_toArray, List.set_cons_zero, List.set_cons_succ]
    refine wpAnyH_ready (rs := [4]) (by kernel_rfl) (by simp) ?_
    refine AllReadyH.cons rfl (fun K hK => ?_) AllReadyH.nil
    refine step_any rfl (op_copyS (k := min (l.length - off) 32) rfl (by kernel_rfl) u8map rfl rfl (b5.ext (by (repeat (first | with_reducible exact Ext.refl _ | with_reducible assumption | refine Ext.trans ?_ (by with_reducible assumption) | refine Ext.alloc ?_ _ _ | refine Ext.drew ?_ | refine Ext.drewN ?_ _)))) (hr _ (by (repeat (first | with_reducible exact Ext.refl _ | with_reducible assumption | refine Ext.trans ?_ (by with_reducible assumption) | refine Ext.alloc ?_ _ _ | refine Ext.drew ?_ | refine Ext.drewN ?_ _)))) rfl hrs (by omega) (bcells_ones _) ?_)
    intro W8 b8 m8
    refine hK.out _ _ ?_ (fun hHeld => ?_)
    · exact HH.out.trans m8
    clear hK K HH
    have HH : Hid (Mod (fun x => x = B5) W0 _) := hHeld
    clear hHeld
    change wpAnyH _ _ _ _ _ _ _ (Act.put _ (some 15) _) _
    simp only [Act.put, List.setIfInBounds_toArray, List.set_cons_zero, List.set_cons_succ]
    refine wpAnyH_done (by kernel_rfl) ?_ _
    have hm8 : Mod (fun x => x = B5) W5 W8 := by (repeat (first | with_reducible exact Mod.refl _ _ | with_reducible assumption | refine Mod.trans ?_ (by with_reducible assumption) | refine Mod.trans_ext ?_ (by with_reducible assumption) | refine Mod.alloc ?_ _ _ | refine Mod.drew ?_ | refine Mod.drewN ?_ _))
    have hne : B2 ≠ B5 := by have q1 := b2.lt; omega
    replace b2 := (b2.ext e5).mod hm8 hne
    have hE8 : Ext w W8 := Ext.trans_mod (e2.trans e5) hm8 (fun i hi => by have hi2 : i = B5 := hi; rw [hi2]; exact Nat.le_trans e2.size g5)
    go_wp2_with (first | ((with_reducible (refine Veil.out ?_; apply wl_loadRow rt27)); (case hx => rfl); (case hB => exact b8); (case hi => decide); rw [hcr]) | (go_at_call 92; refine (HF _).mono ?_; rintro e W6 ⟨rfl, he6⟩) | ((with_reducible (refine Veil.out ?_; apply wl_storeWB)); (case hx => rfl); (case hy => rfl); (case hB => exact b2.ext (by (repeat (first | with_reducible exact Ext.refl _ | with_reducible assumption | refine Ext.trans ?_ (by with_reducible assumption) | refine Ext.alloc ?_ _ _ | refine Ext.drew ?_ | refine Ext.drewN ?_ _)))); (case hi => decide); rintro W7 c7 b7 a7 _ m7))
    refine post_W Hvah.results305 rfl b7 a7 (by decide) rfl ⟨rfl, ?_⟩
    refine Ext.trans_mod (by (repeat (first | with_reducible exact Ext.refl _ | with_reducible assumption | refine Ext.trans ?_ (by with_reducible assumption) | refine Ext.alloc ?_ _ _ | refine Ext.drew ?_ | refine Ext.drewN ?_ _))) m7 (fun i hi => ?_)
    have hi2 : i = B2 := hi
    rw [hi2]
    exact g2
  · have i1 : ¬ (off : Int) < l.length := by omega
    have hz : cutA l off 32 = ([] ++ List.replicate 32 0).take 32 := by unfold cutA; rw [List.drop_of_length_le (by omega)]
    have hcr := cut_row [] 0 rfl
    have hcr2 : rowOf (cf #[.int .u8 0, .int .u8 0, .int .u8 0, .int .u8 0, .int .u8 0, .int .u8 0, .int .u8 0, .int .u8 0, .int .u8 0, .int .u8 0, .int .u8 0, .int .u8 0, .int .u8 0, .int .u8 0, .int .u8 0, .int .u8 0, .int .u8 0, .int .u8 0, .int .u8 0, .int .u8 0, .int .u8 0, .int .u8 0, .int .u8 0, .int .u8 0, .int .u8 0, .int .u8 0, .int .u8 0, .int .u8 0, .int .u8 0, .int .u8 0, .int .u8 0, .int .u8 0]) 0 32 = (bcells (cutA l off 32)).toArray := by
      rw [hz, ← hcr]
      congr 1
    clear hcr hz
    go_enter Hvah.func305, Hvah.ntmps305
    go_wp2_with (first | ((with_reducible (refine Veil.out ?_; apply wl_allocW)); rintro B2 W2 c2 e2 b2 a2 g2) | ((with_reducible (refine Veil.out ?_; apply wl_allocB (n := 32) z27)); (case hn => rfl); rintro B5 W5 e5 b5 g5) | ((with_reducible (refine Veil.out ?_; apply wl_loadRow rt27)); (case hx => rfl); (case hB => exact b5); (case hi => decide); rw [hcr2]) | (go_at_call 92; refine (HF _).mono ?_; rintro e W6 ⟨rfl, he6⟩) | ((with_reducible (refine Veil.out ?_; apply wl_storeWB)); (case hx => rfl); (case hy => rfl); (case hB => exact b2.ext (by (repeat (first | with_reducible exact Ext.refl _ | with_reducible assumption | refine Ext.trans ?_ (by with_reducible assumption) | refine Ext.alloc ?_ _ _ | refine Ext.drew ?_ | refine Ext.drewN ?_ _)))); (case hi => decide); rintro W7 c7 b7 a7 _ m7))
    refine post_W Hvah.results305 rfl b7 a7 (by decide) rfl ⟨rfl, ?_⟩
    refine Ext.trans_mod (by (repeat (first | with_reducible exact Ext.refl _ | with_reducible assumption | refine Ext.trans ?_ (by with_reducible assumption) | refine Ext.alloc ?_ _ _ | refine Ext.drew ?_ | refine Ext.drewN ?_ _))) m7 (fun i hi => ?_)
    have hi2 : i = B2 := hi
    rw [hi2]
    exact g2
end
end Go.Proofs.YgvahwGreat
