import Derived.Test.YgvahwGreatMp
namespace Go.Proofs.YgvahwGreat
open Go.RowKit
set_option linter.unusedSimpArgs false
section
variable {own : Nat → Nat} {w : World} {g : Nat} {c : Nat → Value} {V : EV} {st : ASt} {sn stale : List Nat} {s : Nat} {f : AFrame} {rest : List AFrame}
/-- The top memory. -/
theorem MRep.top1 (h : MRep own w g c V st (s :: sn) stale) (hst : st.frames = f :: rest) : ∃ lo n cap b o cc l, TopM own w c rest.length lo (lo + f.mem.length) n cap b o cc l ∧ ∀ off k, off + k ≤ f.mem.length → (l.drop (lo + off)).take k = (f.mem.drop off).take k := by
  have hm := h.m.mem
  rw [hst, List.map_cons] at hm
  obtain ⟨cap, b, o, cc, ht⟩ := hm.open_
  rw [List.length_map] at ht
  refine ⟨_, _, cap, b, o, cc, _, ht, fun off k hk => ?_⟩
  rw [lowB, List.append_assoc, ← List.drop_drop, List.drop_left, List.drop_append_of_le_length (by omega), List.take_append_of_le_length (by rw [List.length_drop]; omega)]
theorem mMLen (h : MRep own w g c V st (s :: sn) stale) (hst : st.frames = f :: rest) : Calls Hvah.prog 277 #[.pointer (some ⟨g, 1, none⟩)] w fun e w' => e = .returned (.int .u32 (f.mem.length : Nat)) ∧ Ext w w' := by
  obtain ⟨lo, n, cap, b, o, cc, l, ht, _⟩ := h.top1 hst
  have := tLen ht h.v.blk
  rwa [Nat.add_sub_cancel_left] at this
theorem mMRead (h : MRep own w g c V st (s :: sn) stale) (hst : st.frames = f :: rest) (off k : Nat) (hk : 0 < k) (hf : off + k ≤ f.mem.length) : Calls Hvah.prog 390 #[.pointer (some ⟨g, 1, none⟩), .int .u32 off, .int .u32 k] w fun e w' => ∃ r, e = .returned r ∧ NL (Mu own) w' r (readA f.mem off k) ∧ Ext w w' := by
  obtain ⟨lo, n, cap, b, o, cc, l, ht, hq⟩ := h.top1 hst
  have := tRead ht h.v.blk h.v.small hk (by omega : off + k ≤ lo + f.mem.length - lo)
  have e : readA f.mem off k = (l.drop (lo + off)).take k := by
    rw [hq off k hf]
    unfold readA cutA
    rw [if_neg (by omega), List.take_append_of_le_length (by rw [List.length_drop]; omega)]
  rw [e]; exact this
theorem mMLoad (h : MRep own w g c V st (s :: sn) stale) (hst : st.frames = f :: rest) (off : Nat) (hf : off + 32 ≤ f.mem.length) : Calls Hvah.prog 310 #[.pointer (some ⟨g, 1, none⟩), .int .u32 off] w fun e w' => e = .returned (.tuple #[.agg (bcells ((f.mem.drop off).take 32)).toArray, .bool true]) ∧ Ext w w' := by
  obtain ⟨lo, n, cap, b, o, cc, l, ht, hq⟩ := h.top1 hst
  have := tLoad32 ht h.v.blk (by omega : off + 32 ≤ lo + f.mem.length - lo)
  rwa [hq off 32 hf] at this
theorem readA_len (m : List Nat) (off k : Nat) : (readA m off k).length = k := by
  unfold readA cutA
  split
  · rename_i h; subst h; rfl
  · simp
set_option maxRecDepth 100000 in
set_option maxHeartbeats 6400000 in
theorem mRead (h : MRep own w g c V st (s :: sn) stale) (hst : st.frames = f :: rest) (a b : Nat) (ha : a < P256) (hb : b < P256) (hf : b ≠ 0 → a + b ≤ f.mem.length) : Calls Hvah.prog 301 #[.pointer (some ⟨g, 0, none⟩), wv a, wv b] w fun e w' => ∃ r, e = .returned (.tuple #[r, .bool true]) ∧ NL (Mu own) w' r (readA f.mem a b) ∧ Ext w w' := by
  have hml := (h.frame hst).1.ok.mLen
  obtain ⟨zb, hzb⟩ : ∃ z, Hid (decide (b = 0) = z) := ⟨_, rfl⟩
  have HZ : ∀ W, Calls Hvah.prog 87 #[wv b] W fun e w' => e = .returned (.bool zb) ∧ Ext W w' := fun W => by rw [← hzb.out]; exact uIsZero b W hb
  cases zb with
  | true =>
    have hz0 : readA f.mem a b = [] := by have : b = 0 := by simpa using hzb.out
                                          rw [this]; rfl
    go_enter Hvah.func301, Hvah.ntmps301
    go_wp2_with (first | ((with_reducible (refine Veil.out ?_; apply wl_boxW)); (case hx => rfl); rintro B1 W1 c1 e1 b1 a1 g1) | ((with_reducible (refine Veil.out ?_; apply wl_loadWB)); (case hx => rfl); (case hB => exact Blk.ext (by with_reducible assumption) (by (repeat (first | with_reducible exact Ext.refl _ | with_reducible assumption | refine Ext.trans ?_ (by with_reducible assumption) | refine Ext.alloc ?_ _ _ | refine Ext.drew ?_ | refine Ext.drewN ?_ _)))); (case hW => with_reducible assumption); (case hi => decide)) | (go_at_call 87; refine (HZ _).mono ?_; rintro e w4 ⟨rfl, he4⟩))
    go_ret2
    exact ⟨_, rfl, by rw [hz0]; exact NL.nil, by (repeat (first | with_reducible exact Ext.refl _ | with_reducible assumption | refine Ext.trans ?_ (by with_reducible assumption) | refine Ext.alloc ?_ _ _ | refine Ext.drew ?_ | refine Ext.drewN ?_ _))⟩
  | false =>
    have hb0 : b ≠ 0 := by simpa using hzb.out
    have hf2 := hf hb0
    have HS1 := fun W => mSmall a W ha
    have HS2 := fun W => mSmall b W hb
    rw [show min a 4294967295 = a by omega] at HS1
    rw [show min b 4294967295 = b by omega] at HS2
    have HRd := fun W (hW : Ext w W) => mMRead (h.ext hW) hst a b (by omega) hf2
    go_enter Hvah.func301, Hvah.ntmps301
    go_upto_region 3 with (first | ((with_reducible (refine Veil.out ?_; apply wl_boxW)); (case hx => rfl); rintro B1 W1 c1 e1 b1 a1 g1) | ((with_reducible (refine Veil.out ?_; apply wl_loadWB)); (case hx => rfl); (case hB => exact Blk.ext (by with_reducible assumption) (by (repeat (first | with_reducible exact Ext.refl _ | with_reducible assumption | refine Ext.trans ?_ (by with_reducible assumption) | refine Ext.alloc ?_ _ _ | refine Ext.drew ?_ | refine Ext.drewN ?_ _)))); (case hW => with_reducible assumption); (case hi => decide)) | (go_at_call 87; refine (HZ _).mono ?_; rintro e w4 ⟨rfl, he4⟩))
    refine w_ext ?_
    rintro W0 hW0
    have h0 := h.ext (show Ext w W0 by (repeat (first | with_reducible exact Ext.refl _ | with_reducible assumption | refine Ext.trans ?_ (by with_reducible assumption) | refine Ext.alloc ?_ _ _ | refine Ext.drew ?_ | refine Ext.drewN ?_ _)))
    refine wp_region_held_drew (S := fun w' => Ext W0 w') (by kernel_rfl) (Ext.refl _).drew (fun hHeld => ?_)
    have HH : Hid (Ext W0 _) := hHeld
    clear hHeld
    refine wpAnyH_take (i := 0) (v := ?_) rfl (by kernel_rfl) (by kernel_rfl) (by kernel_rfl) (fun _ _ _ h => h) (Or.inl ⟨by rfl, ?_⟩) HH.out ?_
    rotate_left
    · intro w hSw; go_simp; try with_reducible rfl
    change wpAnyH _ _ _ _ _ _ _ (Act.put _ (some 11) _) _
    simp only [Act.put, List.setIfInBounds_toArray, List.set_cons_zero, List.set_cons_succ]
    refine wpAnyH_take (i := 1) (v := ?_) rfl (by kernel_rfl) (by kernel_rfl) (by kernel_rfl) (fun _ _ _ h => h) (Or.inl ⟨by rfl, ?_⟩) HH.out ?_
    rotate_left
    · intro w hSw; go_simp; try with_reducible rfl
    change wpAnyH _ _ _ _ _ _ _ (Act.put _ (some 12) _) _
    simp only [Act.put, List.setIfInBounds_toArray, List.set_cons_zero, List.set_cons_succ]
    refine wpAnyH_take (i := 2) (v := ?_) rfl (by kernel_rfl) (by kernel_rfl) (by kernel_rfl) (fun _ _ _ h => h) (Or.inl ⟨by rfl, ?_⟩) HH.out ?_
    rotate_left
    · intro w hSw; go_simp; try with_reducible rfl
    change wpAnyH _ _ _ _ _ _ _ (Act.put _ (some 13) _) _
    simp only [Act.put, List.setIfInBounds_toArray, List.set_cons_zero, List.set_cons_succ]
    refine wpAnyH_take (i := 3) rfl (by kernel_rfl) (by kernel_rfl) (by kernel_rfl) (fun _ _ _ h => h) (yields_W (by rfl) rfl rfl (fun w hSw => Blk.ext (by with_reducible assumption) (Ext.trans (by (repeat (first | with_reducible exact Ext.refl _ | with_reducible assumption | refine Ext.trans ?_ (by with_reducible assumption) | refine Ext.alloc ?_ _ _ | refine Ext.drew ?_ | refine Ext.drewN ?_ _))) hSw)) (by with_reducible assumption) (by decide)) HH.out ?_
    change wpAnyH _ _ _ _ _ _ _ (Act.put _ (some 14) _) _
    simp only [Act.put, List.setIfInBounds_toArray, List.set_cons_zero, List.set_cons_succ]
    refine wpAnyH_take (i := 5) rfl (by kernel_rfl) (by kernel_rfl) (by kernel_rfl) (fun _ _ _ h => h) (yields_W (by rfl) rfl rfl (fun w hSw => Blk.ext (by with_reducible assumption) (Ext.trans (by (repeat (first | with_reducible exact Ext.refl _ | with_reducible assumption | refine Ext.trans ?_ (by with_reducible assumption) | refine Ext.alloc ?_ _ _ | refine Ext.drew ?_ | refine Ext.drewN ?_ _))) hSw)) (by with_reducible assumption) (by decide)) HH.out ?_
    change wpAnyH _ _ _ _ _ _ _ (Act.put _ (some 16) _) _
    simp only [Act.put, List.setIfInBounds_toArray, List.set_cons_zero, List.set_cons_succ]
    refine wpAnyH_ready (rs := [4]) (by kernel_rfl) (by simp) ?_
    refine AllReadyH.cons rfl (fun K hK => ?_) AllReadyH.nil
    go_simp
    go_at_call 308; refine (HS1 _).mono ?_; rintro e w1 ⟨rfl, he⟩
    refine hK.out _ _ ?_ (fun hHeld => ?_)
    · first | exact HH.out.trans hmY | exact HH.out.trans he | exact HH.out
    clear hK K HH
    have HH : Hid (Ext W0 _) := hHeld
    clear hHeld
    refine wpAnyH_ready (rs := [6]) (by kernel_rfl) (by simp) ?_
    refine AllReadyH.cons rfl (fun K hK => ?_) AllReadyH.nil
    go_simp
    go_at_call 308; refine (HS2 _).mono ?_; rintro e w1 ⟨rfl, he⟩
    refine hK.out _ _ ?_ (fun hHeld => ?_)
    · first | exact HH.out.trans hmY | exact HH.out.trans he | exact HH.out
    clear hK K HH
    have HH : Hid (Ext W0 _) := hHeld
    clear hHeld
    refine wpAnyH_ready (rs := [7]) (by kernel_rfl) (by simp) ?_
    refine AllReadyH.cons rfl (fun K hK => ?_) AllReadyH.nil
    go_simp
    go_at_call 390; refine (HRd _ (by (repeat (first | with_reducible exact Ext.refl _ | with_reducible assumption | refine Ext.trans ?_ (by with_reducible assumption) | refine Ext.alloc ?_ _ _ | refine Ext.drew ?_ | refine Ext.drewN ?_ _)))).mono ?_; rintro e w5 ⟨r, rfl, hr, he⟩
    refine hK.out _ _ ?_ (fun hHeld => ?_)
    · first | exact HH.out.trans hmY | exact HH.out.trans he | exact HH.out
    clear hK K HH
    have HH : Hid (Ext W0 _) := hHeld
    clear hHeld
    refine wpAnyH_take (i := 8) (v := ?_) rfl (by kernel_rfl) (by kernel_rfl) (by kernel_rfl) (fun _ _ _ h => h) (Or.inl ⟨by rfl, ?_⟩) HH.out ?_
    rotate_left
    · intro w hSw; go_simp; try with_reducible rfl
    change wpAnyH _ _ _ _ _ _ _ (Act.put _ (some 8) _) _
    simp only [Act.put, List.setIfInBounds_toArray, List.set_cons_zero, List.set_cons_succ]
    refine wpAnyH_done (by kernel_rfl) ?_ _
    obtain ⟨o, cap, rfl, hr1, hr2, hr3⟩ := hr
    have hne : readA f.mem a b ≠ [] := fun q => by have := readA_len f.mem a b; rw [q] at this; simp at this; omega
    obtain ⟨bb, oo, rfl, _, _, _⟩ := hr3.spot hne
    have hnil := fun W => Lib.run_eql_slice_nil (P := Hvah.prog) W 23 5 (some ⟨bb, oo, none⟩) (readA f.mem a b).length cap 0 0 Hvah.underlying23
    go_wp2
    go_ret2
    exact ⟨_, rfl, ⟨_, cap, rfl, hr1, hr2, hr3⟩, by (repeat (first | with_reducible exact Ext.refl _ | with_reducible assumption | refine Ext.trans ?_ (by with_reducible assumption) | refine Ext.alloc ?_ _ _ | refine Ext.drew ?_ | refine Ext.drewN ?_ _))⟩
end
end Go.Proofs.YgvahwGreat
