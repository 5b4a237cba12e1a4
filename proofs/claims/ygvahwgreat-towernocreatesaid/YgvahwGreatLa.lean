import Derived.Test.YgvahwGreatIg
namespace Go.Proofs.YgvahwGreat
open Go.RowKit
set_option linter.unusedSimpArgs false

theorem BS.str {O : Nat → Prop} {w : World} {p : Option Addr} {l : List Nat} {cap : Nat} (h : BS O w p l) : (convert 23 9 (.slice p l.length cap)).run Hvah.prog w = .ok (.string (sN l)) w := by
  by_cases hl : l = []
  · subst hl
    show (convert 23 9 (.slice p 0 cap)).run Hvah.prog w = _
    rw [run_convert_bytes_string w 23 9 5 p 0 cap under32' under5 under9]
    cases p <;> simp [Conv.bytesToString] <;> rfl
  · obtain ⟨b, off, rfl, _, _, hc⟩ := h.spot hl
    exact row_str rfl (fun i v hv => by
      have hi := (Array.getElem?_eq_some_iff.1 hv).1
      simp only [bcells, List.size_toArray, List.length_map] at hi
      rw [hc i hi]
      rw [← hv]
      simp [bcells, hi])
set_option maxRecDepth 100000 in
set_option maxHeartbeats 6400000 in
theorem lEqualBytes {O O' : Nat → Prop} {w : World} {v v' : Value} {l : List Nat} (h : NLx O w v l) (h' : NLx O' w v' l) : Calls Hvah.prog 50 #[v, v'] w fun e w' => e = .returned (.bool true) ∧ w' = w := by
  obtain ⟨p, c, rfl, _, _, hb⟩ := h
  obtain ⟨p', c', rfl, _, _, hb'⟩ := h'
  have q1 := hb.str (cap := c)
  have q2 := hb'.str (cap := c')
  clear hb hb'
  generalize l.length = n at *
  generalize sN l = s at *
  go_enter Hvah.func50, Hvah.ntmps50
  go_wp2
  go_ret
  exact ⟨by simp, rfl⟩
/-- A row of bytes as a slice. -/
theorem nlx_row {w : World} {b o : Nat} {l : List Nat} (hR : RowIn w b o (bcells l).toArray) (hb : b < w.heap.size) (hd : Digits l) (cap : Nat) (hc : l.length ≤ cap) (hc2 : cap ≤ 9223372036854775807) : NLx (fun _ => False) w (.slice (some ⟨b, o, none⟩) l.length cap) l :=
  ⟨_, cap, rfl, hc, hc2, hd, fun _ => ⟨b, o, rfl, fun h => h, hb, fun i hi => hR i _ (by simp [bcells, hi])⟩⟩
theorem nlx_bw {w : World} {b o x : Nat} (hx : x < P256) (hR : RowIn w b o (bw x)) (hb : b < w.heap.size) : NLx (fun _ => False) w (.slice (some ⟨b, o, none⟩) 32 32) (beL 32 x) := by
  have := nlx_row hR hb (digits_beL 32 x) 32 (by rw [len32 hx]; decide) (by decide)
  rwa [len32 hx] at this
theorem nlx_av {w : World} {b o x : Nat} (hx : x < 2 ^ 160) (hR : RowIn w b o (av x)) (hb : b < w.heap.size) : NLx (fun _ => False) w (.slice (some ⟨b, o, none⟩) 20 20) (beL 20 x) := by
  have := nlx_row hR hb (digits_beL 20 x) 20 (by rw [len20 hx]; decide) (by decide)
  rwa [len20 hx] at this
set_option maxRecDepth 100000 in
set_option maxHeartbeats 6400000 in
theorem lWordsMeet {O O' : Nat → Prop} {w : World} {v v' : Value} {l : List Nat} (h : WL O w v l) (h' : WL O' w v' l) : Calls Hvah.prog 51 #[v, v'] w fun e w' => e = .returned (.bool true) ∧ Ext w w' := by
  obtain ⟨vo, vc, hv, hv1, hv2⟩ := h.slice
  obtain ⟨vo', vc', hv', hv1', hv2'⟩ := h'.slice
  subst hv
  subst hv'
  obtain ⟨n, hn⟩ : ∃ n, Hid (l.length = n) := ⟨_, rfl⟩
  have hnn : (n : Int) ≤ 9223372036854775807 := by have := hn.out; omega
  rw [show (Value.slice vo l.length vc) = .slice vo n vc by rw [hn.out], show (Value.slice vo' l.length vc') = .slice vo' n vc' by rw [hn.out]]
  rw [hn.out] at hv1 hv1'
  go_enter Hvah.func51, Hvah.ntmps51
  go_upto_region 4 with (fail)
  try simp only [Act.put]
  go_loopw [13] (fun iv wr => ∃ (i : Nat), iv = .int .i64 (i : Nat) ∧ i ≤ n ∧ Ext w wr) (fun iv _ => n - (intOf iv).toNat)
  case atStart => exact ⟨0, rfl, Nat.zero_le _, Ext.refl _⟩
  case round =>
    obtain ⟨i, rfl, hi, he⟩ := hrel
    rcases Nat.lt_or_ge i n with hlt | hge
    · have z1 : (i : Int) < n := by omega
      have hil : i < l.length := by have := hn.out; omega
      rcases h with ⟨rfl, _⟩ | ⟨b, off, cap, hv, _, _, _, hb, hrow⟩
      · simp at hil
      rcases h' with ⟨rfl, _⟩ | ⟨b', off', cap', hv', _, _, _, hb', hrow'⟩
      · simp at hil
      injection hv with hv1 hv2 hv3
      clear hv2
      subst hv1
      subst hv3
      injection hv' with hv1 hv2 hv3
      clear hv2
      subst hv1
      subst hv3
      obtain ⟨hxl, hR⟩ := hrow i hil
      obtain ⟨_, hR'⟩ := hrow' i hil
      generalize l[i] = x at *
      clear hrow hrow'
      have HE := fun W (hW : Ext wr W) => lEqualBytes (nlx_bw hxl (RowIn.ext hR hb (he.trans hW)) (Nat.lt_of_lt_of_le hb (he.trans hW).size)) (nlx_bw hxl (RowIn.ext hR' hb' (he.trans hW)) (Nat.lt_of_lt_of_le hb' (he.trans hW).size))
      obtain ⟨i1, hi1⟩ : ∃ z : Nat, Hid ((i + 1 : Nat) = z) := ⟨_, rfl⟩
      have j1 : IntKind.i64.wrap ((i : Int) + 1) = (i1 : Int) := by rw [IntKind.wrap_i64, ← hi1.out]; omega
      go_upto_region 6 with (fail)
      refine w_ext ?_
      rintro W0 hW0
      refine wp_region_held_drew (S := fun w' => Ext W0 w') (by kernel_rfl) (Ext.refl _).drew (fun hHeld => ?_)
      have HH : Hid (Ext W0 _) := hHeld
      clear hHeld
      refine wpAnyH_take (i := 0) (v := ?_) rfl (by kernel_rfl) (by kernel_rfl) (by kernel_rfl) (fun _ _ _ h => h) (Or.inl ⟨by rfl, ?_⟩) HH.out ?_
      rotate_left
      · intro w hSw; go_simp; try with_reducible rfl
      change wpAnyH _ _ _ _ _ _ _ (Act.put _ (some 16) _) _
      simp only [Act.put, List.setIfInBounds_toArray, List.set_cons_zero, List.set_cons_succ]
      refine wpAnyH_take (i := 1) (v := ?_) rfl (by kernel_rfl) (by kernel_rfl) (by kernel_rfl) (fun _ _ _ h => h) (Or.inl ⟨by rfl, ?_⟩) HH.out ?_
      rotate_left
      · intro w hSw; go_simp; try with_reducible rfl
      change wpAnyH _ _ _ _ _ _ _ (Act.put _ (some 17) _) _
      simp only [Act.put, List.setIfInBounds_toArray, List.set_cons_zero, List.set_cons_succ]
      refine wpAnyH_take (i := 2) (v := ?_) rfl (by kernel_rfl) (by kernel_rfl) (by kernel_rfl) (fun _ _ _ h => h) (Or.inl ⟨by rfl, ?_⟩) HH.out ?_
      rotate_left
      · intro w hSw; go_simp; try with_reducible rfl
      change wpAnyH _ _ _ _ _ _ _ (Act.put _ (some 18) _) _
      simp only [Act.put, List.setIfInBounds_toArray, List.set_cons_zero, List.set_cons_succ]
      refine wpAnyH_take (i := 3) (v := ?_) rfl (by kernel_rfl) (by kernel_rfl) (by kernel_rfl) (fun _ _ _ h => h) (Or.inl ⟨by rfl, ?_⟩) HH.out ?_
      rotate_left
      · intro w hSw; go_simp; try with_reducible rfl
      change wpAnyH _ _ _ _ _ _ _ (Act.put _ (some 19) _) _
      simp only [Act.put, List.setIfInBounds_toArray, List.set_cons_zero, List.set_cons_succ]
      refine wpAnyH_take (i := 4) (v := ?_) rfl (by kernel_rfl) (by kernel_rfl) (by kernel_rfl) (fun _ _ _ h => h) (Or.inl ⟨by rfl, ?_⟩) HH.out ?_
      rotate_left
      · intro w hSw; go_simp; try with_reducible rfl
      change wpAnyH _ _ _ _ _ _ _ (Act.put _ (some 20) _) _
      simp only [Act.put, List.setIfInBounds_toArray, List.set_cons_zero, List.set_cons_succ]
      refine wpAnyH_take (i := 5) (v := ?_) rfl (by kernel_rfl) (by kernel_rfl) (by kernel_rfl) (fun _ _ _ h => h) (Or.inl ⟨by rfl, ?_⟩) HH.out ?_
      rotate_left
      · intro w hSw; go_simp; try with_reducible rfl
      change wpAnyH _ _ _ _ _ _ _ (Act.put _ (some 21) _) _
      simp only [Act.put, List.setIfInBounds_toArray, List.set_cons_zero, List.set_cons_succ]
      refine wpAnyH_take (i := 6) (v := ?_) rfl (by kernel_rfl) (by kernel_rfl) (by kernel_rfl) (fun _ _ _ h => h) (Or.inl ⟨by rfl, ?_⟩) HH.out ?_
      rotate_left
      · intro w hSw; go_simp; try with_reducible rfl
      change wpAnyH _ _ _ _ _ _ _ (Act.put _ (some 22) _) _
      simp only [Act.put, List.setIfInBounds_toArray, List.set_cons_zero, List.set_cons_succ]
      refine wpAnyH_take (i := 7) (v := ?_) rfl (by kernel_rfl) (by kernel_rfl) (by kernel_rfl) (fun _ _ _ h => h) (Or.inl ⟨by rfl, ?_⟩) HH.out ?_
      rotate_left
      · intro w hSw; go_simp; try with_reducible rfl
      change wpAnyH _ _ _ _ _ _ _ (Act.put _ (some 23) _) _
      simp only [Act.put, List.setIfInBounds_toArray, List.set_cons_zero, List.set_cons_succ]
      refine wpAnyH_ready (rs := [8]) (by kernel_rfl) (by simp) ?_
      refine AllReadyH.cons rfl (fun K hK => ?_) AllReadyH.nil
      go_simp
      go_at_call 50; refine (HE _ (hW0.trans HH.out)).mono ?_; rintro e w1 ⟨rfl, hww⟩; replace hww := hww.symm; subst hww
      refine hK.out _ _ ?_ (fun hHeld => ?_)
      · first | exact HH.out.trans hmY | exact HH.out.trans he | exact HH.out
      clear hK K HH
      have HH : Hid (Ext W0 _) := hHeld
      clear hHeld
      refine wpAnyH_take (i := 9) (v := ?_) rfl (by kernel_rfl) (by kernel_rfl) (by kernel_rfl) (fun _ _ _ h => h) (Or.inl ⟨by rfl, ?_⟩) HH.out ?_
      rotate_left
      · intro w hSw; go_simp; try with_reducible rfl
      change wpAnyH _ _ _ _ _ _ _ (Act.put _ (some 25) _) _
      simp only [Act.put, List.setIfInBounds_toArray, List.set_cons_zero, List.set_cons_succ]
      refine wpAnyH_done (by kernel_rfl) ?_ _

      have HH9 := HH.out
      go_wp2
      go_roundw
      case rel => exact ⟨i1, rfl, by have := hi1.out; omega, by (repeat (first | with_reducible exact Ext.refl _ | with_reducible assumption | refine Ext.trans ?_ (by with_reducible assumption) | refine Ext.alloc ?_ _ _ | refine Ext.drew ?_ | refine Ext.drewN ?_ _))⟩
      case measure => have q1 := hi1.out; simp [intOf]; omega
    · have z1 : ¬ (i : Int) < n := by omega
      go_wp2
      go_ret
      exact ⟨rfl, he⟩
end Go.Proofs.YgvahwGreat
