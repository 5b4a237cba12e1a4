import Derived.Test.YgvahwGreatRowsN
namespace Go.Proofs.YgvahwGreat
open Go.RowKit
set_option linter.unusedSimpArgs false
theorem onet60 : OneT 73 := oneT_of (by kernel_rfl) (by kernel_rfl)
section
variable {own : Nat → Nat} {w : World} {g : Nat} {c : Nat → Value} {V : EV} {st : ASt} {sn stale : List Nat} {s : Nat} {f : AFrame} {rest : List AFrame}
set_option maxRecDepth 100000 in
set_option maxHeartbeats 6400000 in
theorem mAccess (h : MRep own w g c V st sn stale) (x : Nat) (hx : x < P256) : Calls Hvah.prog 376 #[.pointer (some ⟨g, 0, none⟩), wv x] w fun e w' => e = .returned (.int .u64 (st.now.access (addrA x) : Nat)) ∧ Ext w w' := by
  have hal : addrA x < 2 ^ 160 := Nat.mod_lt _ (by decide)
  have hac : st.now.access (addrA x) = if (V.acct (addrA x)).warm then 100 else 2600 := by rw [← h.abs]; rfl
  have HW := fun W (hW : Ext w W) => vIsWarm (h.v.ext hW) hal
  rw [hac]
  clear hac
  generalize (V.acct (addrA x)).warm = wm at HW ⊢
  cases wm
  · go_enter Hvah.func376, Hvah.ntmps376
    go_upto_region 1 with (first | ((with_reducible (refine Veil.out ?_; apply wl_boxW)); (case hx => rfl); rintro B1 W1 c1 e1 b1 a1 g1))
    refine w_ext ?_
    rintro W0 hW0
    have h0 := h.ext (show Ext w W0 by (repeat (first | with_reducible exact Ext.refl _ | with_reducible assumption | refine Ext.trans ?_ (by with_reducible assumption) | refine Ext.alloc ?_ _ _ | refine Ext.drew ?_ | refine Ext.drewN ?_ _)))
    refine wp_region_held_drew (S := fun w' => Ext W0 w') (by kernel_rfl) (Ext.refl _).drew (fun hHeld => ?_)
    have HH : Hid (Ext W0 _) := hHeld
    clear hHeld
    refine wpAnyH_take (i := 0) (v := ?_) rfl (by kernel_rfl) (by kernel_rfl) (by kernel_rfl) (fun _ _ _ h => h) (Or.inl ⟨by rfl, ?_⟩) HH.out ?_
    rotate_left
    · intro w hSw; go_simp; try with_reducible rfl
    change wpAnyH _ _ _ _ _ _ _ (Act.put _ (some 5) _) _
    simp only [Act.put, List.setIfInBounds_toArray, List.set_cons_zero, List.set_cons_succ]
    refine wpAnyH_take (i := 1) (v := ?_) rfl (by kernel_rfl) (by kernel_rfl) (by kernel_rfl) (fun _ _ _ h => h) (Or.inl ⟨by rfl, ?_⟩) HH.out ?_
    rotate_left
    · intro w hSw; go_simp; try with_reducible rfl
    change wpAnyH _ _ _ _ _ _ _ (Act.put _ (some 6) _) _
    simp only [Act.put, List.setIfInBounds_toArray, List.set_cons_zero, List.set_cons_succ]
    refine wpAnyH_take (i := 2) (v := ?_) rfl (by kernel_rfl) (by kernel_rfl) (by kernel_rfl) (fun _ _ _ h => h) (Or.inl ⟨by rfl, ?_⟩) HH.out ?_
    rotate_left
    · intro w hSw; go_simp; try with_reducible rfl
    change wpAnyH _ _ _ _ _ _ _ (Act.put _ (some 7) _) _
    simp only [Act.put, List.setIfInBounds_toArray, List.set_cons_zero, List.set_cons_succ]
    refine wpAnyH_take (i := 3) rfl (by kernel_rfl) (by kernel_rfl) (by kernel_rfl) (fun _ _ _ h => h) (yieldsIf_load1 (by rfl) _ _ rfl _ _ rfl onet60 _ (fun w hSw => by rw [(h0.v.blk.ext hSw).cell (by decide), h0.m.ptr])) HH.out ?_
    change wpAnyH _ _ _ _ _ _ _ (Act.put _ (some 8) _) _
    simp only [Act.put, List.setIfInBounds_toArray, List.set_cons_zero, List.set_cons_succ]
    refine wpAnyH_take (i := 4) rfl (by kernel_rfl) (by kernel_rfl) (by kernel_rfl) (fun _ _ _ h => h) (yields_W (by rfl) rfl rfl (fun w hSw => Blk.ext (by with_reducible assumption) (Ext.trans (by (repeat (first | with_reducible exact Ext.refl _ | with_reducible assumption | refine Ext.trans ?_ (by with_reducible assumption) | refine Ext.alloc ?_ _ _ | refine Ext.drew ?_ | refine Ext.drewN ?_ _))) hSw)) (by with_reducible assumption) (by decide)) HH.out ?_
    change wpAnyH _ _ _ _ _ _ _ (Act.put _ (some 9) _) _
    simp only [Act.put, List.setIfInBounds_toArray, List.set_cons_zero, List.set_cons_succ]
    refine wpAnyH_ready (rs := [5]) (by kernel_rfl) (by simp) ?_
    refine AllReadyH.cons rfl (fun K hK => ?_) AllReadyH.nil
    go_simp
    go_at_call 302; refine (mAddrOf _ (by first | with_reducible assumption | exact hfa _) _).mono ?_; rintro e w1 ⟨rfl, he⟩
    refine hK.out _ _ ?_ (fun hHeld => ?_)
    · first | exact HH.out.trans hmY | exact HH.out.trans he | exact HH.out
    clear hK K HH
    have HH : Hid (Ext W0 _) := hHeld
    clear hHeld
    refine wpAnyH_ready (rs := [6]) (by kernel_rfl) (by simp) ?_
    refine AllReadyH.cons rfl (fun K hK => ?_) AllReadyH.nil
    go_simp
    go_at_call 181; refine (HW _ (by (repeat (first | with_reducible exact Ext.refl _ | with_reducible assumption | refine Ext.trans ?_ (by with_reducible assumption) | refine Ext.alloc ?_ _ _ | refine Ext.drew ?_ | refine Ext.drewN ?_ _)))).mono ?_; rintro e w1 ⟨rfl, he⟩
    refine hK.out _ _ ?_ (fun hHeld => ?_)
    · first | exact HH.out.trans hmY | exact HH.out.trans he | exact HH.out
    clear hK K HH
    have HH : Hid (Ext W0 _) := hHeld
    clear hHeld
    refine wpAnyH_done (by kernel_rfl) ?_ _
    go_wp2
    go_ret
    exact ⟨rfl, by (repeat (first | with_reducible exact Ext.refl _ | with_reducible assumption | refine Ext.trans ?_ (by with_reducible assumption) | refine Ext.alloc ?_ _ _ | refine Ext.drew ?_ | refine Ext.drewN ?_ _))⟩
  · go_enter Hvah.func376, Hvah.ntmps376
    go_upto_region 1 with (first | ((with_reducible (refine Veil.out ?_; apply wl_boxW)); (case hx => rfl); rintro B1 W1 c1 e1 b1 a1 g1))
    refine w_ext ?_
    rintro W0 hW0
    have h0 := h.ext (show Ext w W0 by (repeat (first | with_reducible exact Ext.refl _ | with_reducible assumption | refine Ext.trans ?_ (by with_reducible assumption) | refine Ext.alloc ?_ _ _ | refine Ext.drew ?_ | refine Ext.drewN ?_ _)))
    refine wp_region_held_drew (S := fun w' => Ext W0 w') (by kernel_rfl) (Ext.refl _).drew (fun hHeld => ?_)
    have HH : Hid (Ext W0 _) := hHeld
    clear hHeld
    refine wpAnyH_take (i := 0) (v := ?_) rfl (by kernel_rfl) (by kernel_rfl) (by kernel_rfl) (fun _ _ _ h => h) (Or.inl ⟨by rfl, ?_⟩) HH.out ?_
    rotate_left
    · intro w hSw; go_simp; try with_reducible rfl
    change wpAnyH _ _ _ _ _ _ _ (Act.put _ (some 5) _) _
    simp only [Act.put, List.setIfInBounds_toArray, List.set_cons_zero, List.set_cons_succ]
    refine wpAnyH_take (i := 1) (v := ?_) rfl (by kernel_rfl) (by kernel_rfl) (by kernel_rfl) (fun _ _ _ h => h) (Or.inl ⟨by rfl, ?_⟩) HH.out ?_
    rotate_left
    · intro w hSw; go_simp; try with_reducible rfl
    change wpAnyH _ _ _ _ _ _ _ (Act.put _ (some 6) _) _
    simp only [Act.put, List.setIfInBounds_toArray, List.set_cons_zero, List.set_cons_succ]
    refine wpAnyH_take (i := 2) (v := ?_) rfl (by kernel_rfl) (by kernel_rfl) (by kernel_rfl) (fun _ _ _ h => h) (Or.inl ⟨by rfl, ?_⟩) HH.out ?_
    rotate_left
    · intro w hSw; go_simp; try with_reducible rfl
    change wpAnyH _ _ _ _ _ _ _ (Act.put _ (some 7) _) _
    simp only [Act.put, List.setIfInBounds_toArray, List.set_cons_zero, List.set_cons_succ]
    refine wpAnyH_take (i := 3) rfl (by kernel_rfl) (by kernel_rfl) (by kernel_rfl) (fun _ _ _ h => h) (yieldsIf_load1 (by rfl) _ _ rfl _ _ rfl onet60 _ (fun w hSw => by rw [(h0.v.blk.ext hSw).cell (by decide), h0.m.ptr])) HH.out ?_
    change wpAnyH _ _ _ _ _ _ _ (Act.put _ (some 8) _) _
    simp only [Act.put, List.setIfInBounds_toArray, List.set_cons_zero, List.set_cons_succ]
    refine wpAnyH_take (i := 4) rfl (by kernel_rfl) (by kernel_rfl) (by kernel_rfl) (fun _ _ _ h => h) (yields_W (by rfl) rfl rfl (fun w hSw => Blk.ext (by with_reducible assumption) (Ext.trans (by (repeat (first | with_reducible exact Ext.refl _ | with_reducible assumption | refine Ext.trans ?_ (by with_reducible assumption) | refine Ext.alloc ?_ _ _ | refine Ext.drew ?_ | refine Ext.drewN ?_ _))) hSw)) (by with_reducible assumption) (by decide)) HH.out ?_
    change wpAnyH _ _ _ _ _ _ _ (Act.put _ (some 9) _) _
    simp only [Act.put, List.setIfInBounds_toArray, List.set_cons_zero, List.set_cons_succ]
    refine wpAnyH_ready (rs := [5]) (by kernel_rfl) (by simp) ?_
    refine AllReadyH.cons rfl (fun K hK => ?_) AllReadyH.nil
    go_simp
    go_at_call 302; refine (mAddrOf _ (by first | with_reducible assumption | exact hfa _) _).mono ?_; rintro e w1 ⟨rfl, he⟩
    refine hK.out _ _ ?_ (fun hHeld => ?_)
    · first | exact HH.out.trans hmY | exact HH.out.trans he | exact HH.out
    clear hK K HH
    have HH : Hid (Ext W0 _) := hHeld
    clear hHeld
    refine wpAnyH_ready (rs := [6]) (by kernel_rfl) (by simp) ?_
    refine AllReadyH.cons rfl (fun K hK => ?_) AllReadyH.nil
    go_simp
    go_at_call 181; refine (HW _ (by (repeat (first | with_reducible exact Ext.refl _ | with_reducible assumption | refine Ext.trans ?_ (by with_reducible assumption) | refine Ext.alloc ?_ _ _ | refine Ext.drew ?_ | refine Ext.drewN ?_ _)))).mono ?_; rintro e w1 ⟨rfl, he⟩
    refine hK.out _ _ ?_ (fun hHeld => ?_)
    · first | exact HH.out.trans hmY | exact HH.out.trans he | exact HH.out
    clear hK K HH
    have HH : Hid (Ext W0 _) := hHeld
    clear hHeld
    refine wpAnyH_done (by kernel_rfl) ?_ _
    go_wp2
    go_ret
    exact ⟨rfl, by (repeat (first | with_reducible exact Ext.refl _ | with_reducible assumption | refine Ext.trans ?_ (by with_reducible assumption) | refine Ext.alloc ?_ _ _ | refine Ext.drew ?_ | refine Ext.drewN ?_ _))⟩
end
end Go.Proofs.YgvahwGreat
