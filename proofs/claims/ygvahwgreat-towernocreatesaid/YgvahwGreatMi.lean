import Derived.Test.YgvahwGreatMh
namespace Go.Proofs.YgvahwGreat
open Go.RowKit
set_option linter.unusedSimpArgs false
section
variable {own : Nat → Nat} {w : World} {g : Nat} {c : Nat → Value} {V : EV} {st : ASt} {sn stale : List Nat} {s : Nat} {f : AFrame} {rest : List AFrame}
set_option maxRecDepth 100000 in
set_option maxHeartbeats 6400000 in
theorem mDyn241 (h : MRep own w g c V st (s :: sn) stale) (hst : st.frames = f :: rest) : Calls Hvah.prog 278 #[.pointer (some ⟨g, 0, none⟩), .pointer (some ⟨g, 1803 + rest.length * 65, none⟩), .int .u8 241] w fun e w' => e = .returned (.int .u64 (dynA st f 241 : Nat)) ∧ Ext w w' := by
  obtain ⟨hfr, hr7⟩ := h.frame hst
  have hx := fun i => hfr.ok.argLt i
  have hal : addrA (f.arg 1) < 2 ^ 160 := Nat.mod_lt _ (by decide)
  have he0 : dynA st f 241 = st.now.access (addrA (f.arg 1)) + (if f.arg 2 ≠ 0 then 9000 + (if st.now.empty (addrA (f.arg 1)) = true then 25000 else 0) else 0) := by simp [dynA]
  rw [he0]
  clear he0
  have HA1 := fun W (hW : Ext w W) => mArg (h.ext hW) hst 1 (by decide)
  have HA2 := fun W (hW : Ext w W) => mArg (h.ext hW) hst 2 (by decide)
  have HAc := fun W (hW : Ext w W) => mAccess (h.ext hW) (f.arg 1) (hx 1)
  have HEm := fun W (hW : Ext w W) => vIsEmpty (h.v.ext hW) hal
  rw [h.abs] at HEm
  have hb1 : st.now.access (addrA (f.arg 1)) ≤ 2600 := by unfold AW.access; split <;> omega
  obtain ⟨zb, hzb⟩ : ∃ b, Hid (decide (f.arg 2 = 0) = b) := ⟨_, rfl⟩
  have HZ : ∀ W, Calls Hvah.prog 87 #[wv (f.arg 2)] W fun e w' => e = .returned (.bool zb) ∧ Ext W w' := fun W => by rw [← hzb.out]; exact uIsZero _ W (hx 2)
  generalize st.now.access (addrA (f.arg 1)) = k at *
  generalize st.now.empty (addrA (f.arg 1)) = em at *
  have hw1 : IntKind.u64.wrap ((k : Int) + 9000) = ((k + 9000 : Nat) : Int) := by rw [IntKind.wrap_u64]; omega
  have hw2 : IntKind.u64.wrap (((k + 9000 : Nat) : Int) + 25000) = ((k + 34000 : Nat) : Int) := by rw [IntKind.wrap_u64]; omega
  cases zb with
  | true =>
    have hb0 : f.arg 2 = 0 := by simpa using hzb.out
    rw [if_neg (fun q => q hb0)]
    clear hb0
    go_enter Hvah.func278, Hvah.ntmps278
    go_wp2_with (first | (go_at_call_of 273 (Value.int IntKind.i64 1); refine (HA1 _ (by (repeat (first | with_reducible exact Ext.refl _ | with_reducible assumption | refine Ext.trans ?_ (by with_reducible assumption) | refine Ext.alloc ?_ _ _ | refine Ext.drew ?_ | refine Ext.drewN ?_ _)))).mono ?_; rintro e w1 ⟨rfl, he⟩) | (go_at_call_of 273 (Value.int IntKind.i64 2); refine (HA2 _ (by (repeat (first | with_reducible exact Ext.refl _ | with_reducible assumption | refine Ext.trans ?_ (by with_reducible assumption) | refine Ext.alloc ?_ _ _ | refine Ext.drew ?_ | refine Ext.drewN ?_ _)))).mono ?_; rintro e w1 ⟨rfl, he⟩) | (go_at_call 376; refine (HAc _ (by (repeat (first | with_reducible exact Ext.refl _ | with_reducible assumption | refine Ext.trans ?_ (by with_reducible assumption) | refine Ext.alloc ?_ _ _ | refine Ext.drew ?_ | refine Ext.drewN ?_ _)))).mono ?_; rintro e w1 ⟨rfl, he⟩) | ((with_reducible (refine Veil.out ?_; apply wl_allocW)); rintro B2 W2 c2 e2 b2 a2 g2) | ((with_reducible (refine Veil.out ?_; apply wl_storeWB)); (case hx => rfl); (case hy => rfl); (case hB => exact b2); (case hi => decide); rintro W3 c3 b3 a3 _ m3; have hE3 : Ext w W3 := Ext.trans_mod (by (repeat (first | with_reducible exact Ext.refl _ | with_reducible assumption | refine Ext.trans ?_ (by with_reducible assumption) | refine Ext.alloc ?_ _ _ | refine Ext.drew ?_ | refine Ext.drewN ?_ _))) m3 (fun i hi => by have hi2 : i = B2 := hi; rw [hi2]; exact Nat.le_trans (Ext.size (by (repeat (first | with_reducible exact Ext.refl _ | with_reducible assumption | refine Ext.trans ?_ (by with_reducible assumption) | refine Ext.alloc ?_ _ _ | refine Ext.drew ?_ | refine Ext.drewN ?_ _)))) g2)) | ((with_reducible (refine Veil.out ?_; apply wl_loadWB)); (case hx => rfl); (case hB => exact b3); (case hW => exact a3); (case hi => decide)) | (go_at_call 87; refine (HZ _).mono ?_; rintro e w4 ⟨rfl, he4⟩))
    go_ret
    exact ⟨rfl, by (repeat (first | with_reducible exact Ext.refl _ | with_reducible assumption | refine Ext.trans ?_ (by with_reducible assumption) | refine Ext.alloc ?_ _ _ | refine Ext.drew ?_ | refine Ext.drewN ?_ _))⟩
  | false =>
    have hb0 : f.arg 2 ≠ 0 := by simpa using hzb.out
    rw [if_pos hb0]
    clear hb0
    cases em with
    | true =>
      rw [if_pos rfl]
      rw [show k + (9000 + 25000) = k + 34000 by omega]
      go_enter Hvah.func278, Hvah.ntmps278
      go_upto_region 45 with (first | (go_at_call_of 273 (Value.int IntKind.i64 1); refine (HA1 _ (by (repeat (first | with_reducible exact Ext.refl _ | with_reducible assumption | refine Ext.trans ?_ (by with_reducible assumption) | refine Ext.alloc ?_ _ _ | refine Ext.drew ?_ | refine Ext.drewN ?_ _)))).mono ?_; rintro e w1 ⟨rfl, he⟩) | (go_at_call_of 273 (Value.int IntKind.i64 2); refine (HA2 _ (by (repeat (first | with_reducible exact Ext.refl _ | with_reducible assumption | refine Ext.trans ?_ (by with_reducible assumption) | refine Ext.alloc ?_ _ _ | refine Ext.drew ?_ | refine Ext.drewN ?_ _)))).mono ?_; rintro e w1 ⟨rfl, he⟩) | (go_at_call 376; refine (HAc _ (by (repeat (first | with_reducible exact Ext.refl _ | with_reducible assumption | refine Ext.trans ?_ (by with_reducible assumption) | refine Ext.alloc ?_ _ _ | refine Ext.drew ?_ | refine Ext.drewN ?_ _)))).mono ?_; rintro e w1 ⟨rfl, he⟩) | ((with_reducible (refine Veil.out ?_; apply wl_allocW)); rintro B2 W2 c2 e2 b2 a2 g2) | ((with_reducible (refine Veil.out ?_; apply wl_storeWB)); (case hx => rfl); (case hy => rfl); (case hB => exact b2); (case hi => decide); rintro W3 c3 b3 a3 _ m3; have hE3 : Ext w W3 := Ext.trans_mod (by (repeat (first | with_reducible exact Ext.refl _ | with_reducible assumption | refine Ext.trans ?_ (by with_reducible assumption) | refine Ext.alloc ?_ _ _ | refine Ext.drew ?_ | refine Ext.drewN ?_ _))) m3 (fun i hi => by have hi2 : i = B2 := hi; rw [hi2]; exact Nat.le_trans (Ext.size (by (repeat (first | with_reducible exact Ext.refl _ | with_reducible assumption | refine Ext.trans ?_ (by with_reducible assumption) | refine Ext.alloc ?_ _ _ | refine Ext.drew ?_ | refine Ext.drewN ?_ _)))) g2)) | ((with_reducible (refine Veil.out ?_; apply wl_loadWB)); (case hx => rfl); (case hB => exact b3); (case hW => exact a3); (case hi => decide)) | (go_at_call 87; refine (HZ _).mono ?_; rintro e w4 ⟨rfl, he4⟩))
      refine w_ext ?_
      rintro W0 hW0
      have h0 := h.ext (show Ext w W0 by (repeat (first | with_reducible exact Ext.refl _ | with_reducible assumption | refine Ext.trans ?_ (by with_reducible assumption) | refine Ext.alloc ?_ _ _ | refine Ext.drew ?_ | refine Ext.drewN ?_ _)))
      refine wp_region_held_drew (S := fun w' => Ext W0 w') (by kernel_rfl) (Ext.refl _).drew (fun hHeld => ?_)
      have HH : Hid (Ext W0 _) := hHeld
      clear hHeld
      refine wpAnyH_take (i := 0) (v := ?_) rfl (by kernel_rfl) (by kernel_rfl) (by kernel_rfl) (fun _ _ _ h => h) (Or.inl ⟨by rfl, ?_⟩) HH.out ?_
      rotate_left
      · intro w hSw; go_simp; try with_reducible rfl
      change wpAnyH _ _ _ _ _ _ _ (Act.put _ (some 140) _) _
      simp only [Act.put, List.setIfInBounds_toArray, List.set_cons_zero, List.set_cons_succ]
      refine wpAnyH_take (i := 1) (v := ?_) rfl (by kernel_rfl) (by kernel_rfl) (by kernel_rfl) (fun _ _ _ h => h) (Or.inl ⟨by rfl, ?_⟩) HH.out ?_
      rotate_left
      · intro w hSw; go_simp; try with_reducible rfl
      change wpAnyH _ _ _ _ _ _ _ (Act.put _ (some 141) _) _
      simp only [Act.put, List.setIfInBounds_toArray, List.set_cons_zero, List.set_cons_succ]
      refine wpAnyH_take (i := 2) (v := ?_) rfl (by kernel_rfl) (by kernel_rfl) (by kernel_rfl) (fun _ _ _ h => h) (Or.inl ⟨by rfl, ?_⟩) HH.out ?_
      rotate_left
      · intro w hSw; go_simp; try with_reducible rfl
      change wpAnyH _ _ _ _ _ _ _ (Act.put _ (some 142) _) _
      simp only [Act.put, List.setIfInBounds_toArray, List.set_cons_zero, List.set_cons_succ]
      refine wpAnyH_take (i := 3) (v := ?_) rfl (by kernel_rfl) (by kernel_rfl) (by kernel_rfl) (fun _ _ _ h => h) (Or.inl ⟨by rfl, ?_⟩) HH.out ?_
      rotate_left
      · intro w hSw; go_simp; try with_reducible rfl
      change wpAnyH _ _ _ _ _ _ _ (Act.put _ (some 143) _) _
      simp only [Act.put, List.setIfInBounds_toArray, List.set_cons_zero, List.set_cons_succ]
      refine wpAnyH_take (i := 4) (v := ?_) rfl (by kernel_rfl) (by kernel_rfl) (by kernel_rfl) (fun _ _ _ h => h) (Or.inl ⟨by rfl, ?_⟩) HH.out ?_
      rotate_left
      · intro w hSw; go_simp; try with_reducible rfl
      change wpAnyH _ _ _ _ _ _ _ (Act.put _ (some 144) _) _
      simp only [Act.put, List.setIfInBounds_toArray, List.set_cons_zero, List.set_cons_succ]
      refine wpAnyH_take (i := 5) (v := ?_) rfl (by kernel_rfl) (by kernel_rfl) (by kernel_rfl) (fun _ _ _ h => h) (Or.inl ⟨by rfl, ?_⟩) HH.out ?_
      rotate_left
      · intro w hSw; go_simp; try with_reducible rfl
      change wpAnyH _ _ _ _ _ _ _ (Act.put _ (some 145) _) _
      simp only [Act.put, List.setIfInBounds_toArray, List.set_cons_zero, List.set_cons_succ]
      refine wpAnyH_take (i := 6) rfl (by kernel_rfl) (by kernel_rfl) (by kernel_rfl) (fun _ _ _ h => h) (yieldsIf_load1 (by rfl) _ _ rfl _ _ rfl onet60 _ (fun w hSw => by rw [(h0.v.blk.ext hSw).cell (by decide), h0.m.ptr])) HH.out ?_
      change wpAnyH _ _ _ _ _ _ _ (Act.put _ (some 146) _) _
      simp only [Act.put, List.setIfInBounds_toArray, List.set_cons_zero, List.set_cons_succ]
      refine wpAnyH_take (i := 7) (v := ?_) rfl (by kernel_rfl) (by kernel_rfl) (by kernel_rfl) (fun _ _ _ h => h) (Or.inl ⟨by rfl, ?_⟩) HH.out ?_
      rotate_left
      · intro w hSw; go_simp; try with_reducible rfl
      change wpAnyH _ _ _ _ _ _ _ (Act.put _ (some 147) _) _
      simp only [Act.put, List.setIfInBounds_toArray, List.set_cons_zero, List.set_cons_succ]
      refine wpAnyH_take (i := 8) (v := ?_) rfl (by kernel_rfl) (by kernel_rfl) (by kernel_rfl) (fun _ _ _ h => h) (Or.inl ⟨by rfl, ?_⟩) HH.out ?_
      rotate_left
      · intro w hSw; go_simp; try with_reducible rfl
      change wpAnyH _ _ _ _ _ _ _ (Act.put _ (some 148) _) _
      simp only [Act.put, List.setIfInBounds_toArray, List.set_cons_zero, List.set_cons_succ]
      refine wpAnyH_ready (rs := [9]) (by kernel_rfl) (by simp) ?_
      refine AllReadyH.cons rfl (fun K hK => ?_) AllReadyH.nil
      go_simp
      go_at_call 273; refine (HA1 _ (by (repeat (first | with_reducible exact Ext.refl _ | with_reducible assumption | refine Ext.trans ?_ (by with_reducible assumption) | refine Ext.alloc ?_ _ _ | refine Ext.drew ?_ | refine Ext.drewN ?_ _)))).mono ?_; rintro e w1 ⟨rfl, he⟩
      refine hK.out _ _ ?_ (fun hHeld => ?_)
      · first | exact HH.out.trans hmY | exact HH.out.trans he | exact HH.out
      clear hK K HH
      have HH : Hid (Ext W0 _) := hHeld
      clear hHeld
      refine wpAnyH_ready (rs := [10]) (by kernel_rfl) (by simp) ?_
      refine AllReadyH.cons rfl (fun K hK => ?_) AllReadyH.nil
      go_simp
      go_at_call 302; refine (mAddrOf _ (hx 1) _).mono ?_; rintro e w1 ⟨rfl, he⟩
      refine hK.out _ _ ?_ (fun hHeld => ?_)
      · first | exact HH.out.trans hmY | exact HH.out.trans he | exact HH.out
      clear hK K HH
      have HH : Hid (Ext W0 _) := hHeld
      clear hHeld
      refine wpAnyH_ready (rs := [11]) (by kernel_rfl) (by simp) ?_
      refine AllReadyH.cons rfl (fun K hK => ?_) AllReadyH.nil
      go_simp
      go_at_call 304; refine (HEm _ (by (repeat (first | with_reducible exact Ext.refl _ | with_reducible assumption | refine Ext.trans ?_ (by with_reducible assumption) | refine Ext.alloc ?_ _ _ | refine Ext.drew ?_ | refine Ext.drewN ?_ _)))).mono ?_; rintro e w1 ⟨rfl, he⟩
      refine hK.out _ _ ?_ (fun hHeld => ?_)
      · first | exact HH.out.trans hmY | exact HH.out.trans he | exact HH.out
      clear hK K HH
      have HH : Hid (Ext W0 _) := hHeld
      clear hHeld
      refine wpAnyH_take (i := 12) (v := ?_) rfl (by kernel_rfl) (by kernel_rfl) (by kernel_rfl) (fun _ _ _ h => h) (Or.inl ⟨by rfl, ?_⟩) HH.out ?_
      rotate_left
      · intro w hSw; go_simp; try with_reducible rfl
      change wpAnyH _ _ _ _ _ _ _ (Act.put _ (some 152) _) _
      simp only [Act.put, List.setIfInBounds_toArray, List.set_cons_zero, List.set_cons_succ]
      refine wpAnyH_done (by kernel_rfl) ?_ _
      go_wp2
      go_ret
      exact ⟨rfl, by (repeat (first | with_reducible exact Ext.refl _ | with_reducible assumption | refine Ext.trans ?_ (by with_reducible assumption) | refine Ext.alloc ?_ _ _ | refine Ext.drew ?_ | refine Ext.drewN ?_ _))⟩
    | false =>
      rw [if_neg (by decide), Nat.add_zero]
      go_enter Hvah.func278, Hvah.ntmps278
      go_upto_region 45 with (first | (go_at_call_of 273 (Value.int IntKind.i64 1); refine (HA1 _ (by (repeat (first | with_reducible exact Ext.refl _ | with_reducible assumption | refine Ext.trans ?_ (by with_reducible assumption) | refine Ext.alloc ?_ _ _ | refine Ext.drew ?_ | refine Ext.drewN ?_ _)))).mono ?_; rintro e w1 ⟨rfl, he⟩) | (go_at_call_of 273 (Value.int IntKind.i64 2); refine (HA2 _ (by (repeat (first | with_reducible exact Ext.refl _ | with_reducible assumption | refine Ext.trans ?_ (by with_reducible assumption) | refine Ext.alloc ?_ _ _ | refine Ext.drew ?_ | refine Ext.drewN ?_ _)))).mono ?_; rintro e w1 ⟨rfl, he⟩) | (go_at_call 376; refine (HAc _ (by (repeat (first | with_reducible exact Ext.refl _ | with_reducible assumption | refine Ext.trans ?_ (by with_reducible assumption) | refine Ext.alloc ?_ _ _ | refine Ext.drew ?_ | refine Ext.drewN ?_ _)))).mono ?_; rintro e w1 ⟨rfl, he⟩) | ((with_reducible (refine Veil.out ?_; apply wl_allocW)); rintro B2 W2 c2 e2 b2 a2 g2) | ((with_reducible (refine Veil.out ?_; apply wl_storeWB)); (case hx => rfl); (case hy => rfl); (case hB => exact b2); (case hi => decide); rintro W3 c3 b3 a3 _ m3; have hE3 : Ext w W3 := Ext.trans_mod (by (repeat (first | with_reducible exact Ext.refl _ | with_reducible assumption | refine Ext.trans ?_ (by with_reducible assumption) | refine Ext.alloc ?_ _ _ | refine Ext.drew ?_ | refine Ext.drewN ?_ _))) m3 (fun i hi => by have hi2 : i = B2 := hi; rw [hi2]; exact Nat.le_trans (Ext.size (by (repeat (first | with_reducible exact Ext.refl _ | with_reducible assumption | refine Ext.trans ?_ (by with_reducible assumption) | refine Ext.alloc ?_ _ _ | refine Ext.drew ?_ | refine Ext.drewN ?_ _)))) g2)) | ((with_reducible (refine Veil.out ?_; apply wl_loadWB)); (case hx => rfl); (case hB => exact b3); (case hW => exact a3); (case hi => decide)) | (go_at_call 87; refine (HZ _).mono ?_; rintro e w4 ⟨rfl, he4⟩))
      refine w_ext ?_
      rintro W0 hW0
      have h0 := h.ext (show Ext w W0 by (repeat (first | with_reducible exact Ext.refl _ | with_reducible assumption | refine Ext.trans ?_ (by with_reducible assumption) | refine Ext.alloc ?_ _ _ | refine Ext.drew ?_ | refine Ext.drewN ?_ _)))
      refine wp_region_held_drew (S := fun w' => Ext W0 w') (by kernel_rfl) (Ext.refl _).drew (fun hHeld => ?_)
      have HH : Hid (Ext W0 _) := hHeld
      clear hHeld
      refine wpAnyH_take (i := 0) (v := ?_) rfl (by kernel_rfl) (by kernel_rfl) (by kernel_rfl) (fun _ _ _ h => h) (Or.inl ⟨by rfl, ?_⟩) HH.out ?_
      rotate_left
      · intro w hSw; go_simp; try with_reducible rfl
      change wpAnyH _ _ _ _ _ _ _ (Act.put _ (some 140) _) _
      simp only [Act.put, List.setIfInBounds_toArray, List.set_cons_zero, List.set_cons_succ]
      refine wpAnyH_take (i := 1) (v := ?_) rfl (by kernel_rfl) (by kernel_rfl) (by kernel_rfl) (fun _ _ _ h => h) (Or.inl ⟨by rfl, ?_⟩) HH.out ?_
      rotate_left
      · intro w hSw; go_simp; try with_reducible rfl
      change wpAnyH _ _ _ _ _ _ _ (Act.put _ (some 141) _) _
      simp only [Act.put, List.setIfInBounds_toArray, List.set_cons_zero, List.set_cons_succ]
      refine wpAnyH_take (i := 2) (v := ?_) rfl (by kernel_rfl) (by kernel_rfl) (by kernel_rfl) (fun _ _ _ h => h) (Or.inl ⟨by rfl, ?_⟩) HH.out ?_
      rotate_left
      · intro w hSw; go_simp; try with_reducible rfl
      change wpAnyH _ _ _ _ _ _ _ (Act.put _ (some 142) _) _
      simp only [Act.put, List.setIfInBounds_toArray, List.set_cons_zero, List.set_cons_succ]
      refine wpAnyH_take (i := 3) (v := ?_) rfl (by kernel_rfl) (by kernel_rfl) (by kernel_rfl) (fun _ _ _ h => h) (Or.inl ⟨by rfl, ?_⟩) HH.out ?_
      rotate_left
      · intro w hSw; go_simp; try with_reducible rfl
      change wpAnyH _ _ _ _ _ _ _ (Act.put _ (some 143) _) _
      simp only [Act.put, List.setIfInBounds_toArray, List.set_cons_zero, List.set_cons_succ]
      refine wpAnyH_take (i := 4) (v := ?_) rfl (by kernel_rfl) (by kernel_rfl) (by kernel_rfl) (fun _ _ _ h => h) (Or.inl ⟨by rfl, ?_⟩) HH.out ?_
      rotate_left
      · intro w hSw; go_simp; try with_reducible rfl
      change wpAnyH _ _ _ _ _ _ _ (Act.put _ (some 144) _) _
      simp only [Act.put, List.setIfInBounds_toArray, List.set_cons_zero, List.set_cons_succ]
      refine wpAnyH_take (i := 5) (v := ?_) rfl (by kernel_rfl) (by kernel_rfl) (by kernel_rfl) (fun _ _ _ h => h) (Or.inl ⟨by rfl, ?_⟩) HH.out ?_
      rotate_left
      · intro w hSw; go_simp; try with_reducible rfl
      change wpAnyH _ _ _ _ _ _ _ (Act.put _ (some 145) _) _
      simp only [Act.put, List.setIfInBounds_toArray, List.set_cons_zero, List.set_cons_succ]
      refine wpAnyH_take (i := 6) rfl (by kernel_rfl) (by kernel_rfl) (by kernel_rfl) (fun _ _ _ h => h) (yieldsIf_load1 (by rfl) _ _ rfl _ _ rfl onet60 _ (fun w hSw => by rw [(h0.v.blk.ext hSw).cell (by decide), h0.m.ptr])) HH.out ?_
      change wpAnyH _ _ _ _ _ _ _ (Act.put _ (some 146) _) _
      simp only [Act.put, List.setIfInBounds_toArray, List.set_cons_zero, List.set_cons_succ]
      refine wpAnyH_take (i := 7) (v := ?_) rfl (by kernel_rfl) (by kernel_rfl) (by kernel_rfl) (fun _ _ _ h => h) (Or.inl ⟨by rfl, ?_⟩) HH.out ?_
      rotate_left
      · intro w hSw; go_simp; try with_reducible rfl
      change wpAnyH _ _ _ _ _ _ _ (Act.put _ (some 147) _) _
      simp only [Act.put, List.setIfInBounds_toArray, List.set_cons_zero, List.set_cons_succ]
      refine wpAnyH_take (i := 8) (v := ?_) rfl (by kernel_rfl) (by kernel_rfl) (by kernel_rfl) (fun _ _ _ h => h) (Or.inl ⟨by rfl, ?_⟩) HH.out ?_
      rotate_left
      · intro w hSw; go_simp; try with_reducible rfl
      change wpAnyH _ _ _ _ _ _ _ (Act.put _ (some 148) _) _
      simp only [Act.put, List.setIfInBounds_toArray, List.set_cons_zero, List.set_cons_succ]
      refine wpAnyH_ready (rs := [9]) (by kernel_rfl) (by simp) ?_
      refine AllReadyH.cons rfl (fun K hK => ?_) AllReadyH.nil
      go_simp
      go_at_call 273; refine (HA1 _ (by (repeat (first | with_reducible exact Ext.refl _ | with_reducible assumption | refine Ext.trans ?_ (by with_reducible assumption) | refine Ext.alloc ?_ _ _ | refine Ext.drew ?_ | refine Ext.drewN ?_ _)))).mono ?_; rintro e w1 ⟨rfl, he⟩
      refine hK.out _ _ ?_ (fun hHeld => ?_)
      · first | exact HH.out.trans hmY | exact HH.out.trans he | exact HH.out
      clear hK K HH
      have HH : Hid (Ext W0 _) := hHeld
      clear hHeld
      refine wpAnyH_ready (rs := [10]) (by kernel_rfl) (by simp) ?_
      refine AllReadyH.cons rfl (fun K hK => ?_) AllReadyH.nil
      go_simp
      go_at_call 302; refine (mAddrOf _ (hx 1) _).mono ?_; rintro e w1 ⟨rfl, he⟩
      refine hK.out _ _ ?_ (fun hHeld => ?_)
      · first | exact HH.out.trans hmY | exact HH.out.trans he | exact HH.out
      clear hK K HH
      have HH : Hid (Ext W0 _) := hHeld
      clear hHeld
      refine wpAnyH_ready (rs := [11]) (by kernel_rfl) (by simp) ?_
      refine AllReadyH.cons rfl (fun K hK => ?_) AllReadyH.nil
      go_simp
      go_at_call 304; refine (HEm _ (by (repeat (first | with_reducible exact Ext.refl _ | with_reducible assumption | refine Ext.trans ?_ (by with_reducible assumption) | refine Ext.alloc ?_ _ _ | refine Ext.drew ?_ | refine Ext.drewN ?_ _)))).mono ?_; rintro e w1 ⟨rfl, he⟩
      refine hK.out _ _ ?_ (fun hHeld => ?_)
      · first | exact HH.out.trans hmY | exact HH.out.trans he | exact HH.out
      clear hK K HH
      have HH : Hid (Ext W0 _) := hHeld
      clear hHeld
      refine wpAnyH_take (i := 12) (v := ?_) rfl (by kernel_rfl) (by kernel_rfl) (by kernel_rfl) (fun _ _ _ h => h) (Or.inl ⟨by rfl, ?_⟩) HH.out ?_
      rotate_left
      · intro w hSw; go_simp; try with_reducible rfl
      change wpAnyH _ _ _ _ _ _ _ (Act.put _ (some 152) _) _
      simp only [Act.put, List.setIfInBounds_toArray, List.set_cons_zero, List.set_cons_succ]
      refine wpAnyH_done (by kernel_rfl) ?_ _
      go_wp2
      go_ret
      exact ⟨rfl, by (repeat (first | with_reducible exact Ext.refl _ | with_reducible assumption | refine Ext.trans ?_ (by with_reducible assumption) | refine Ext.alloc ?_ _ _ | refine Ext.drew ?_ | refine Ext.drewN ?_ _))⟩
set_option maxRecDepth 100000 in
set_option maxHeartbeats 6400000 in
theorem mDyn242 (h : MRep own w g c V st (s :: sn) stale) (hst : st.frames = f :: rest) : Calls Hvah.prog 278 #[.pointer (some ⟨g, 0, none⟩), .pointer (some ⟨g, 1803 + rest.length * 65, none⟩), .int .u8 242] w fun e w' => e = .returned (.int .u64 (dynA st f 242 : Nat)) ∧ Ext w w' := by
  obtain ⟨hfr, hr7⟩ := h.frame hst
  have hx := fun i => hfr.ok.argLt i
  have hal : addrA (f.arg 1) < 2 ^ 160 := Nat.mod_lt _ (by decide)
  have he0 : dynA st f 242 = st.now.access (addrA (f.arg 1)) + (if f.arg 2 ≠ 0 then 9000 + (if False then 25000 else 0) else 0) := by simp [dynA]
  rw [he0]
  clear he0
  have HA1 := fun W (hW : Ext w W) => mArg (h.ext hW) hst 1 (by decide)
  have HA2 := fun W (hW : Ext w W) => mArg (h.ext hW) hst 2 (by decide)
  have HAc := fun W (hW : Ext w W) => mAccess (h.ext hW) (f.arg 1) (hx 1)
  have HEm := fun W (hW : Ext w W) => vIsEmpty (h.v.ext hW) hal
  rw [h.abs] at HEm
  have hb1 : st.now.access (addrA (f.arg 1)) ≤ 2600 := by unfold AW.access; split <;> omega
  obtain ⟨zb, hzb⟩ : ∃ b, Hid (decide (f.arg 2 = 0) = b) := ⟨_, rfl⟩
  have HZ : ∀ W, Calls Hvah.prog 87 #[wv (f.arg 2)] W fun e w' => e = .returned (.bool zb) ∧ Ext W w' := fun W => by rw [← hzb.out]; exact uIsZero _ W (hx 2)
  generalize st.now.access (addrA (f.arg 1)) = k at *
  generalize st.now.empty (addrA (f.arg 1)) = em at *
  have hw1 : IntKind.u64.wrap ((k : Int) + 9000) = ((k + 9000 : Nat) : Int) := by rw [IntKind.wrap_u64]; omega
  have hw2 : IntKind.u64.wrap (((k + 9000 : Nat) : Int) + 25000) = ((k + 34000 : Nat) : Int) := by rw [IntKind.wrap_u64]; omega
  cases zb with
  | true =>
    have hb0 : f.arg 2 = 0 := by simpa using hzb.out
    rw [if_neg (fun q => q hb0)]
    clear hb0
    go_enter Hvah.func278, Hvah.ntmps278
    go_wp2_with (first | (go_at_call_of 273 (Value.int IntKind.i64 1); refine (HA1 _ (by (repeat (first | with_reducible exact Ext.refl _ | with_reducible assumption | refine Ext.trans ?_ (by with_reducible assumption) | refine Ext.alloc ?_ _ _ | refine Ext.drew ?_ | refine Ext.drewN ?_ _)))).mono ?_; rintro e w1 ⟨rfl, he⟩) | (go_at_call_of 273 (Value.int IntKind.i64 2); refine (HA2 _ (by (repeat (first | with_reducible exact Ext.refl _ | with_reducible assumption | refine Ext.trans ?_ (by with_reducible assumption) | refine Ext.alloc ?_ _ _ | refine Ext.drew ?_ | refine Ext.drewN ?_ _)))).mono ?_; rintro e w1 ⟨rfl, he⟩) | (go_at_call 376; refine (HAc _ (by (repeat (first | with_reducible exact Ext.refl _ | with_reducible assumption | refine Ext.trans ?_ (by with_reducible assumption) | refine Ext.alloc ?_ _ _ | refine Ext.drew ?_ | refine Ext.drewN ?_ _)))).mono ?_; rintro e w1 ⟨rfl, he⟩) | ((with_reducible (refine Veil.out ?_; apply wl_allocW)); rintro B2 W2 c2 e2 b2 a2 g2) | ((with_reducible (refine Veil.out ?_; apply wl_storeWB)); (case hx => rfl); (case hy => rfl); (case hB => exact b2); (case hi => decide); rintro W3 c3 b3 a3 _ m3; have hE3 : Ext w W3 := Ext.trans_mod (by (repeat (first | with_reducible exact Ext.refl _ | with_reducible assumption | refine Ext.trans ?_ (by with_reducible assumption) | refine Ext.alloc ?_ _ _ | refine Ext.drew ?_ | refine Ext.drewN ?_ _))) m3 (fun i hi => by have hi2 : i = B2 := hi; rw [hi2]; exact Nat.le_trans (Ext.size (by (repeat (first | with_reducible exact Ext.refl _ | with_reducible assumption | refine Ext.trans ?_ (by with_reducible assumption) | refine Ext.alloc ?_ _ _ | refine Ext.drew ?_ | refine Ext.drewN ?_ _)))) g2)) | ((with_reducible (refine Veil.out ?_; apply wl_loadWB)); (case hx => rfl); (case hB => exact b3); (case hW => exact a3); (case hi => decide)) | (go_at_call 87; refine (HZ _).mono ?_; rintro e w4 ⟨rfl, he4⟩))
    go_ret
    exact ⟨rfl, by (repeat (first | with_reducible exact Ext.refl _ | with_reducible assumption | refine Ext.trans ?_ (by with_reducible assumption) | refine Ext.alloc ?_ _ _ | refine Ext.drew ?_ | refine Ext.drewN ?_ _))⟩
  | false =>
    have hb0 : f.arg 2 ≠ 0 := by simpa using hzb.out
    rw [if_pos hb0]
    clear hb0
    rw [if_neg (fun q => q), Nat.add_zero]
    go_enter Hvah.func278, Hvah.ntmps278
    go_upto_region 45 with (first | (go_at_call_of 273 (Value.int IntKind.i64 1); refine (HA1 _ (by (repeat (first | with_reducible exact Ext.refl _ | with_reducible assumption | refine Ext.trans ?_ (by with_reducible assumption) | refine Ext.alloc ?_ _ _ | refine Ext.drew ?_ | refine Ext.drewN ?_ _)))).mono ?_; rintro e w1 ⟨rfl, he⟩) | (go_at_call_of 273 (Value.int IntKind.i64 2); refine (HA2 _ (by (repeat (first | with_reducible exact Ext.refl _ | with_reducible assumption | refine Ext.trans ?_ (by with_reducible assumption) | refine Ext.alloc ?_ _ _ | refine Ext.drew ?_ | refine Ext.drewN ?_ _)))).mono ?_; rintro e w1 ⟨rfl, he⟩) | (go_at_call 376; refine (HAc _ (by (repeat (first | with_reducible exact Ext.refl _ | with_reducible assumption | refine Ext.trans ?_ (by with_reducible assumption) | refine Ext.alloc ?_ _ _ | refine Ext.drew ?_ | refine Ext.drewN ?_ _)))).mono ?_; rintro e w1 ⟨rfl, he⟩) | ((with_reducible (refine Veil.out ?_; apply wl_allocW)); rintro B2 W2 c2 e2 b2 a2 g2) | ((with_reducible (refine Veil.out ?_; apply wl_storeWB)); (case hx => rfl); (case hy => rfl); (case hB => exact b2); (case hi => decide); rintro W3 c3 b3 a3 _ m3; have hE3 : Ext w W3 := Ext.trans_mod (by (repeat (first | with_reducible exact Ext.refl _ | with_reducible assumption | refine Ext.trans ?_ (by with_reducible assumption) | refine Ext.alloc ?_ _ _ | refine Ext.drew ?_ | refine Ext.drewN ?_ _))) m3 (fun i hi => by have hi2 : i = B2 := hi; rw [hi2]; exact Nat.le_trans (Ext.size (by (repeat (first | with_reducible exact Ext.refl _ | with_reducible assumption | refine Ext.trans ?_ (by with_reducible assumption) | refine Ext.alloc ?_ _ _ | refine Ext.drew ?_ | refine Ext.drewN ?_ _)))) g2)) | ((with_reducible (refine Veil.out ?_; apply wl_loadWB)); (case hx => rfl); (case hB => exact b3); (case hW => exact a3); (case hi => decide)) | (go_at_call 87; refine (HZ _).mono ?_; rintro e w4 ⟨rfl, he4⟩))
    refine w_ext ?_
    rintro W0 hW0
    have h0 := h.ext (show Ext w W0 by (repeat (first | with_reducible exact Ext.refl _ | with_reducible assumption | refine Ext.trans ?_ (by with_reducible assumption) | refine Ext.alloc ?_ _ _ | refine Ext.drew ?_ | refine Ext.drewN ?_ _)))
    refine wp_region_held_drew (S := fun w' => Ext W0 w') (by kernel_rfl) (Ext.refl _).drew (fun hHeld => ?_)
    have HH : Hid (Ext W0 _) := hHeld
    clear hHeld
    refine wpAnyH_take (i := 0) (v := ?_) rfl (by kernel_rfl) (by kernel_rfl) (by kernel_rfl) (fun _ _ _ h => h) (Or.inl ⟨by rfl, ?_⟩) HH.out ?_
    rotate_left
    · intro w hSw; go_simp; try with_reducible rfl
    change wpAnyH _ _ _ _ _ _ _ (Act.put _ (some 140) _) _
    simp only [Act.put, List.setIfInBounds_toArray, List.set_cons_zero, List.set_cons_succ]
    refine wpAnyH_take (i := 1) (v := ?_) rfl (by kernel_rfl) (by kernel_rfl) (by kernel_rfl) (fun _ _ _ h => h) (Or.inl ⟨by rfl, ?_⟩) HH.out ?_
    rotate_left
    · intro w hSw; go_simp; try with_reducible rfl
    change wpAnyH _ _ _ _ _ _ _ (Act.put _ (some 141) _) _
    simp only [Act.put, List.setIfInBounds_toArray, List.set_cons_zero, List.set_cons_succ]
    refine wpAnyH_take (i := 2) (v := ?_) rfl (by kernel_rfl) (by kernel_rfl) (by kernel_rfl) (fun _ _ _ h => h) (Or.inl ⟨by rfl, ?_⟩) HH.out ?_
    rotate_left
    · intro w hSw; go_simp; try with_reducible rfl
    change wpAnyH _ _ _ _ _ _ _ (Act.put _ (some 142) _) _
    simp only [Act.put, List.setIfInBounds_toArray, List.set_cons_zero, List.set_cons_succ]
    refine wpAnyH_take (i := 3) (v := undef) rfl (by kernel_rfl) (by kernel_rfl) (by kernel_rfl) (fun _ _ _ h => h) (Or.inr ⟨by rfl, rfl⟩) HH.out ?_
    change wpAnyH _ _ _ _ _ _ _ (Act.put _ (some 143) _) _
    simp only [Act.put, List.setIfInBounds_toArray, List.set_cons_zero, List.set_cons_succ]
    refine wpAnyH_take (i := 4) (v := undef) rfl (by kernel_rfl) (by kernel_rfl) (by kernel_rfl) (fun _ _ _ h => h) (Or.inr ⟨by rfl, rfl⟩) HH.out ?_
    change wpAnyH _ _ _ _ _ _ _ (Act.put _ (some 144) _) _
    simp only [Act.put, List.setIfInBounds_toArray, List.set_cons_zero, List.set_cons_succ]
    refine wpAnyH_take (i := 5) (v := undef) rfl (by kernel_rfl) (by kernel_rfl) (by kernel_rfl) (fun _ _ _ h => h) (Or.inr ⟨by rfl, rfl⟩) HH.out ?_
    change wpAnyH _ _ _ _ _ _ _ (Act.put _ (some 145) _) _
    simp only [Act.put, List.setIfInBounds_toArray, List.set_cons_zero, List.set_cons_succ]
    refine wpAnyH_take (i := 6) (v := undef) rfl (by kernel_rfl) (by kernel_rfl) (by kernel_rfl) (fun _ _ _ h => h) (Or.inr ⟨by rfl, rfl⟩) HH.out ?_
    change wpAnyH _ _ _ _ _ _ _ (Act.put _ (some 146) _) _
    simp only [Act.put, List.setIfInBounds_toArray, List.set_cons_zero, List.set_cons_succ]
    refine wpAnyH_take (i := 7) (v := undef) rfl (by kernel_rfl) (by kernel_rfl) (by kernel_rfl) (fun _ _ _ h => h) (Or.inr ⟨by rfl, rfl⟩) HH.out ?_
    change wpAnyH _ _ _ _ _ _ _ (Act.put _ (some 147) _) _
    simp only [Act.put, List.setIfInBounds_toArray, List.set_cons_zero, List.set_cons_succ]
    refine wpAnyH_take (i := 8) (v := undef) rfl (by kernel_rfl) (by kernel_rfl) (by kernel_rfl) (fun _ _ _ h => h) (Or.inr ⟨by rfl, rfl⟩) HH.out ?_
    change wpAnyH _ _ _ _ _ _ _ (Act.put _ (some 148) _) _
    simp only [Act.put, List.setIfInBounds_toArray, List.set_cons_zero, List.set_cons_succ]
    refine wpAnyH_take (i := 9) (v := undef) rfl (by kernel_rfl) (by kernel_rfl) (by kernel_rfl) (fun _ _ _ h => h) (Or.inr ⟨by rfl, rfl⟩) HH.out ?_
    change wpAnyH _ _ _ _ _ _ _ (Act.put _ (some 149) _) _
    simp only [Act.put, List.setIfInBounds_toArray, List.set_cons_zero, List.set_cons_succ]
    refine wpAnyH_take (i := 10) (v := undef) rfl (by kernel_rfl) (by kernel_rfl) (by kernel_rfl) (fun _ _ _ h => h) (Or.inr ⟨by rfl, rfl⟩) HH.out ?_
    change wpAnyH _ _ _ _ _ _ _ (Act.put _ (some 150) _) _
    simp only [Act.put, List.setIfInBounds_toArray, List.set_cons_zero, List.set_cons_succ]
    refine wpAnyH_take (i := 11) (v := undef) rfl (by kernel_rfl) (by kernel_rfl) (by kernel_rfl) (fun _ _ _ h => h) (Or.inr ⟨by rfl, rfl⟩) HH.out ?_
    change wpAnyH _ _ _ _ _ _ _ (Act.put _ (some 151) _) _
    simp only [Act.put, List.setIfInBounds_toArray, List.set_cons_zero, List.set_cons_succ]
    refine wpAnyH_take (i := 12) (v := ?_) rfl (by kernel_rfl) (by kernel_rfl) (by kernel_rfl) (fun _ _ _ h => h) (Or.inl ⟨by rfl, ?_⟩) HH.out ?_
    rotate_left
    · intro w hSw; go_simp; try with_reducible rfl
    change wpAnyH _ _ _ _ _ _ _ (Act.put _ (some 152) _) _
    simp only [Act.put, List.setIfInBounds_toArray, List.set_cons_zero, List.set_cons_succ]
    refine wpAnyH_done (by kernel_rfl) ?_ _
    go_wp2
    go_ret
    exact ⟨rfl, by (repeat (first | with_reducible exact Ext.refl _ | with_reducible assumption | refine Ext.trans ?_ (by with_reducible assumption) | refine Ext.alloc ?_ _ _ | refine Ext.drew ?_ | refine Ext.drewN ?_ _))⟩
set_option maxRecDepth 100000 in
set_option maxHeartbeats 6400000 in
theorem mDynF (o : Nat) (ho : o < 256) (h10 : o ≠ 10) (h32 : o ≠ 32) (h55 : o ≠ 55) (h57 : o ≠ 57) (h62 : o ≠ 62) (h94 : o ≠ 94) (h49 : o ≠ 49) (h59 : o ≠ 59) (h63 : o ≠ 63) (h60 : o ≠ 60) (h160 : o ≠ 160) (h161 : o ≠ 161) (h162 : o ≠ 162) (h163 : o ≠ 163) (h164 : o ≠ 164) (h84 : o ≠ 84) (h85 : o ≠ 85) (h240 : o ≠ 240) (h245 : o ≠ 245) (h244 : o ≠ 244) (h250 : o ≠ 250) (h255 : o ≠ 255) (h241 : o ≠ 241) (h242 : o ≠ 242) {g k : Nat} {w : World} (st : ASt) (f : AFrame) : Calls Hvah.prog 278 #[.pointer (some ⟨g, 0, none⟩), .pointer (some ⟨g, k, none⟩), .int .u8 o] w fun e w' => e = .returned (.int .u64 (dynA st f o : Nat)) ∧ Ext w w' := by
  have he0 : dynA st f o = 0 := by
    unfold dynA
    repeat (first | rw [if_neg (by omega)])
  rw [he0]
  clear he0
  have i10 : ((o : Int) == 10) = false := by rw [beq_eq_false_iff_ne]; omega
  have i32 : ((o : Int) == 32) = false := by rw [beq_eq_false_iff_ne]; omega
  have i55 : ((o : Int) == 55) = false := by rw [beq_eq_false_iff_ne]; omega
  have i57 : ((o : Int) == 57) = false := by rw [beq_eq_false_iff_ne]; omega
  have i62 : ((o : Int) == 62) = false := by rw [beq_eq_false_iff_ne]; omega
  have i94 : ((o : Int) == 94) = false := by rw [beq_eq_false_iff_ne]; omega
  have i49 : ((o : Int) == 49) = false := by rw [beq_eq_false_iff_ne]; omega
  have i59 : ((o : Int) == 59) = false := by rw [beq_eq_false_iff_ne]; omega
  have i63 : ((o : Int) == 63) = false := by rw [beq_eq_false_iff_ne]; omega
  have i60 : ((o : Int) == 60) = false := by rw [beq_eq_false_iff_ne]; omega
  have i160 : ((o : Int) == 160) = false := by rw [beq_eq_false_iff_ne]; omega
  have i161 : ((o : Int) == 161) = false := by rw [beq_eq_false_iff_ne]; omega
  have i162 : ((o : Int) == 162) = false := by rw [beq_eq_false_iff_ne]; omega
  have i163 : ((o : Int) == 163) = false := by rw [beq_eq_false_iff_ne]; omega
  have i164 : ((o : Int) == 164) = false := by rw [beq_eq_false_iff_ne]; omega
  have i84 : ((o : Int) == 84) = false := by rw [beq_eq_false_iff_ne]; omega
  have i85 : ((o : Int) == 85) = false := by rw [beq_eq_false_iff_ne]; omega
  have i240 : ((o : Int) == 240) = false := by rw [beq_eq_false_iff_ne]; omega
  have i245 : ((o : Int) == 245) = false := by rw [beq_eq_false_iff_ne]; omega
  have i244 : ((o : Int) == 244) = false := by rw [beq_eq_false_iff_ne]; omega
  have i250 : ((o : Int) == 250) = false := by rw [beq_eq_false_iff_ne]; omega
  have i255 : ((o : Int) == 255) = false := by rw [beq_eq_false_iff_ne]; omega
  have i241 : ((o : Int) == 241) = false := by rw [beq_eq_false_iff_ne]; omega
  have i242 : ((o : Int) == 242) = false := by rw [beq_eq_false_iff_ne]; omega
  go_enter Hvah.func278, Hvah.ntmps278
  go_wp2
  go_ret
  exact ⟨rfl, by (repeat (first | with_reducible exact Ext.refl _ | with_reducible assumption | refine Ext.trans ?_ (by with_reducible assumption) | refine Ext.alloc ?_ _ _ | refine Ext.drew ?_ | refine Ext.drewN ?_ _))⟩
/-- The lengths that the price hangs on are small. -/
def lensOK (f : AFrame) (o : Nat) : Prop := (o = 32 ∨ (160 ≤ o ∧ o ≤ 164) → f.arg 1 ≤ 717280) ∧ (o = 55 ∨ o = 57 ∨ o = 62 ∨ o = 94 ∨ o = 240 ∨ o = 245 → f.arg 2 ≤ 717280) ∧ (o = 60 → f.arg 3 ≤ 717280)
theorem mDynamic (h : MRep own w g c V st (s :: sn) stale) (hst : st.frames = f :: rest) (o : Nat) (ho : o < 256) (hl : lensOK f o) : Calls Hvah.prog 278 #[.pointer (some ⟨g, 0, none⟩), .pointer (some ⟨g, 1803 + rest.length * 65, none⟩), .int .u8 o] w fun e w' => e = .returned (.int .u64 (dynA st f o : Nat)) ∧ Ext w w' := by
  by_cases h10 : o = 10
  · subst h10; exact mDyn10 h hst
  by_cases h32 : o = 32
  · subst h32; exact mDyn32 h hst (hl.1 (by omega))
  by_cases h55 : o = 55
  · subst h55; exact mDyn55 h hst (hl.2.1 (by omega))
  by_cases h57 : o = 57
  · subst h57; exact mDyn57 h hst (hl.2.1 (by omega))
  by_cases h62 : o = 62
  · subst h62; exact mDyn62 h hst (hl.2.1 (by omega))
  by_cases h94 : o = 94
  · subst h94; exact mDyn94 h hst (hl.2.1 (by omega))
  by_cases h49 : o = 49
  · subst h49; exact mDyn49 h hst
  by_cases h59 : o = 59
  · subst h59; exact mDyn59 h hst
  by_cases h63 : o = 63
  · subst h63; exact mDyn63 h hst
  by_cases h60 : o = 60
  · subst h60; exact mDyn60 h hst (hl.2.2 rfl)
  by_cases h160 : o = 160
  · subst h160; exact mDyn160 h hst (hl.1 (by omega))
  by_cases h161 : o = 161
  · subst h161; exact mDyn161 h hst (hl.1 (by omega))
  by_cases h162 : o = 162
  · subst h162; exact mDyn162 h hst (hl.1 (by omega))
  by_cases h163 : o = 163
  · subst h163; exact mDyn163 h hst (hl.1 (by omega))
  by_cases h164 : o = 164
  · subst h164; exact mDyn164 h hst (hl.1 (by omega))
  by_cases h84 : o = 84
  · subst h84; exact mDyn84 h hst
  by_cases h85 : o = 85
  · subst h85; exact mDyn85 h hst
  by_cases h240 : o = 240
  · subst h240; exact mDyn240 h hst (hl.2.1 (by omega))
  by_cases h245 : o = 245
  · subst h245; exact mDyn245 h hst (hl.2.1 (by omega))
  by_cases h244 : o = 244
  · subst h244; exact mDyn244 h hst
  by_cases h250 : o = 250
  · subst h250; exact mDyn250 h hst
  by_cases h255 : o = 255
  · subst h255; exact mDyn255 h hst
  by_cases h241 : o = 241
  · subst h241; exact mDyn241 h hst
  by_cases h242 : o = 242
  · subst h242; exact mDyn242 h hst
  exact mDynF o ho h10 h32 h55 h57 h62 h94 h49 h59 h63 h60 h160 h161 h162 h163 h164 h84 h85 h240 h245 h244 h250 h255 h241 h242 st f
end
end Go.Proofs.YgvahwGreat
