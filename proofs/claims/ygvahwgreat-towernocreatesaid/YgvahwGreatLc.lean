import Derived.Test.YgvahwGreatLb
namespace Go.Proofs.YgvahwGreat
open Go.RowKit
set_option linter.unusedSimpArgs false

theorem rt114i : RowT 58 55 := rowT_of (by kernel_rfl) (by kernel_rfl)
theorem rt118i : RowT 127 64 := rowT_of (by kernel_rfl) (by kernel_rfl)
def z114a : Array Value := #[.int .u8 0, .int .u8 0, .int .u8 0, .int .u8 0, .int .u8 0, .int .u8 0, .int .u8 0, .int .u8 0, .int .u8 0, .int .u8 0, .int .u8 0, .int .u8 0, .int .u8 0, .int .u8 0, .int .u8 0, .int .u8 0, .int .u8 0, .int .u8 0, .int .u8 0, .int .u8 0, .int .u64 0, .int .u8 0, .int .u8 0, .int .u8 0, .int .u8 0, .int .u8 0, .int .u8 0, .int .u8 0, .int .u8 0, .int .u8 0, .int .u8 0, .int .u8 0, .int .u8 0, .int .u8 0, .int .u8 0, .int .u8 0, .int .u8 0, .int .u8 0, .int .u8 0, .int .u8 0, .int .u8 0, .int .u8 0, .int .u8 0, .int .u8 0, .int .u8 0, .int .u8 0, .int .u8 0, .int .u8 0, .int .u8 0, .int .u8 0, .int .u8 0, .int .u8 0, .int .u8 0, .slice none 0 0, .slice none 0 0]
def z118a : Array Value := #[.int .u8 0, .int .u8 0, .int .u8 0, .int .u8 0, .int .u8 0, .int .u8 0, .int .u8 0, .int .u8 0, .int .u8 0, .int .u8 0, .int .u8 0, .int .u8 0, .int .u8 0, .int .u8 0, .int .u8 0, .int .u8 0, .int .u8 0, .int .u8 0, .int .u8 0, .int .u8 0, .int .u8 0, .int .u8 0, .int .u8 0, .int .u8 0, .int .u8 0, .int .u8 0, .int .u8 0, .int .u8 0, .int .u8 0, .int .u8 0, .int .u8 0, .int .u8 0, .int .u8 0, .int .u8 0, .int .u8 0, .int .u8 0, .int .u8 0, .int .u8 0, .int .u8 0, .int .u8 0, .int .u8 0, .int .u8 0, .int .u8 0, .int .u8 0, .int .u8 0, .int .u8 0, .int .u8 0, .int .u8 0, .int .u8 0, .int .u8 0, .int .u8 0, .int .u8 0, .int .u8 0, .int .u8 0, .int .u8 0, .int .u8 0, .int .u8 0, .int .u8 0, .int .u8 0, .int .u8 0, .int .u8 0, .int .u8 0, .int .u8 0, .int .u8 0]
theorem z114 : zeroOf Hvah.prog 58 = some z114a := by kernel_rfl
theorem z118 : zeroOf Hvah.prog 127 = some z118a := by kernel_rfl
theorem z114s : z114a.size = 55 := rfl
theorem z118s : z118a.size = 64 := rfl
theorem bat_one {c : Nat → Value} {o a : Nat} (h : BAt c o a) (ha : a < P256) (q : Nat) (hq : q < 32) : (c (o + q)).oneCell' = true := by
  have h1 := get_cf (r := bw a) (i := q) (by rw [bwS ha]; exact hq)
  rw [h q _ h1]
  exact Ones.get (bwO a) (by rw [bwS ha]; exact hq)
theorem NLx.one' {O : Nat → Prop} {w : World} {v : Value} {l : List Nat} (h : NLx O w v l) : v.oneCell' = true := by obtain ⟨_, _, rfl, _⟩ := h; rfl
theorem EL.one' {α : Type} {sz : Nat} {R : (Nat → Value) → Nat → α → Prop} {O : Nat → Prop} {w : World} {v : Value} {l : List α} (h : EL sz R O w v l) : v.oneCell' = true := by
  obtain ⟨_, _, rfl, _⟩ := h.slice; rfl
theorem ia_ones {O : Nat → Prop} {w : World} {c : Nat → Value} {o : Nat} {x : IAcct} (h : IAcC O w c o x) : Ones (rowOf c o 55) := ones_of (fun q hq => by
  rw [rowOf_size] at hq
  rw [cf_rowOf _ _ _ hq]
  rcases (show q < 20 ∨ q = 20 ∨ (21 ≤ q ∧ q < 53) ∨ q = 53 ∨ q = 54 by omega) with hh | rfl | hh | rfl | rfl
  · exact aat_one h.addr h.aLt q hh
  · rw [h.nonce]; rfl
  · have := bat_one h.bal h.bLt (q - 21) (by omega)
    rwa [show o + 21 + (q - 21) = o + q by omega] at this
  · exact h.code.one'
  · exact h.slots.one')
theorem is_ones {c : Nat → Value} {o : Nat} {x : Nat × Nat} (h : ISlC c o x) : Ones (rowOf c o 64) := ones_of (fun q hq => by
  rw [rowOf_size] at hq
  rw [cf_rowOf _ _ _ hq]
  rcases (show q < 32 ∨ (32 ≤ q ∧ q < 64) by omega) with hh | hh
  · exact bat_one h.key h.kLt q hh
  · have := bat_one h.val h.vLt (q - 32) (by omega)
    rwa [show o + 32 + (q - 32) = o + q by omega] at this)
theorem lay_get {c z : Nat → Value} {o n : Nat} (j : Nat) (hj : j < n) : layv z 0 (rowOf c o n) j = c (o + j) := by
  have := layv_in z 0 (rowOf c o n) (j := j) (by rw [rowOf_size]; exact hj)
  rw [Nat.zero_add] at this
  rw [this, cf_rowOf _ _ _ hj]
theorem ia_lay {O : Nat → Prop} {w : World} {c z : Nat → Value} {o : Nat} {x : IAcct} (h : IAcC O w c o x) : IAcC O w (layv z 0 (rowOf c o 55)) 0 x := by
  refine ⟨fun j u hu => ?_, h.aLt, ?_, h.nLt, fun j u hu => ?_, h.bLt, ?_, ?_⟩
  · have hj := (Array.getElem?_eq_some_iff.1 hu).1
    rw [av_size h.aLt] at hj
    rw [Nat.zero_add, lay_get j (by omega)]
    exact h.addr j u hu
  · rw [Nat.zero_add, lay_get 20 (by decide)]; exact h.nonce
  · have hj := (Array.getElem?_eq_some_iff.1 hu).1
    rw [bwS h.bLt] at hj
    rw [Nat.zero_add, lay_get (21 + j) (by omega), ← Nat.add_assoc]
    exact h.bal j u hu
  · rw [Nat.zero_add, lay_get 53 (by decide)]; exact h.code
  · rw [Nat.zero_add, lay_get 54 (by decide)]; exact h.slots
theorem is_lay {c z : Nat → Value} {o : Nat} {x : Nat × Nat} (h : ISlC c o x) : ISlC (layv z 0 (rowOf c o 64)) 0 x := by
  refine ⟨fun j u hu => ?_, h.kLt, fun j u hu => ?_, h.vLt⟩
  · have hj := (Array.getElem?_eq_some_iff.1 hu).1
    rw [bwS h.kLt] at hj
    rw [Nat.zero_add, lay_get j (by omega)]
    exact h.key j u hu
  · have hj := (Array.getElem?_eq_some_iff.1 hu).1
    rw [bwS h.vLt] at hj
    rw [Nat.zero_add, lay_get (32 + j) (by omega), ← Nat.add_assoc]
    exact h.val j u hu
section
variable {O O' : Nat → Prop} {w : World} {v v' : Value} {l : List IAcct}
set_option maxRecDepth 100000 in
set_option maxHeartbeats 6400000 in
theorem lWorldsMeet (h1 : EL 55 (IAcC O w) O w v l) (h2 : EL 55 (IAcC O' w) O' w v' l) : Calls Hvah.prog 28 #[v, v'] w fun e w' => e = .returned (.bool true) ∧ Ext w w' := by
  obtain ⟨lo, lc, hl1, hl1a, hl1b⟩ := h1.slice
  obtain ⟨lo', lc', hl2, hl2a, hl2b⟩ := h2.slice
  obtain ⟨n, hn⟩ : ∃ n, Hid (l.length = n) := ⟨_, rfl⟩
  have hnn : (n : Int) ≤ 9223372036854775807 := by have := hn.out; omega
  rw [hn.out] at hl1 hl2 hl1a hl2a
  rw [hl1] at h1
  rw [hl2] at h2
  subst hl1
  subst hl2
  go_enter Hvah.func28, Hvah.ntmps28
  go_upto_region 4 with (fail)
  try simp only [Act.put]
  go_loopw [18] (fun iv wr => ∃ (i : Nat), iv = .int .i64 (i : Nat) ∧ i ≤ n ∧ Ext w wr) (fun iv _ => n - (intOf iv).toNat)
  case atStart => exact ⟨0, rfl, Nat.zero_le _, Ext.refl _⟩
  case round =>
    obtain ⟨i, rfl, hi, e1⟩ := hrel
    rcases Nat.lt_or_ge i n with hlt | hge
    · have z1 : (i : Int) < n := by omega
      have hil : i < l.length := by have := hn.out; omega
      rcases h1 with ⟨q, _⟩ | ⟨b, off, cap, cs, hv, _, _, _, hb, hcell, hrow⟩
      · rw [q] at hil; simp at hil
      rcases h2 with ⟨q, _⟩ | ⟨b', off', cap', cs', hv', _, _, _, hb', hcell', hrow'⟩
      · rw [q] at hil; simp at hil
      injection hv with hv1 hv2 hv3
      clear hv2
      subst hv1
      subst hv3
      injection hv' with hv1 hv2 hv3
      clear hv2
      subst hv1
      subst hv3
      have hri := (hrow i hil).ext e1
      have hri' := (hrow' i hil).ext e1
      have hR : RowIn wr b (off + i * 55) (rowOf cs (i * 55) 55) := RowIn.ext (el_row hcell hil) hb e1
      have hR' : RowIn wr b' (off' + i * 55) (rowOf cs' (i * 55) 55) := RowIn.ext (el_row hcell' hil) hb' e1
      generalize l[i] = g at *
      clear hrow hrow' hcell hcell'
      have hb1 : b' < wr.heap.size := Nat.lt_of_lt_of_le hb' e1.size
      obtain ⟨i1, hi1⟩ : ∃ z : Nat, Hid ((i + 1 : Nat) = z) := ⟨_, rfl⟩
      have j1 : IntKind.i64.wrap ((i : Int) + 1) = (i1 : Int) := by rw [IntKind.wrap_i64, ← hi1.out]; omega
      go_upto_region 6 with (first | ((with_reducible (refine Veil.out ?_; apply wl_loadR rt114i b (off + i * 55) (rowOf cs (i * 55) 55) (rowOf_size _ _ _))); (case hx => rfl); (case hr => exact hR)) | ((with_reducible (refine Veil.out ?_; apply wl_allocB z114)); (case hn => exact z114s); rintro L W4 e4 b4 g4) | ((with_reducible (refine Veil.out ?_; apply wl_storeRow rt114i)); (case hx => rfl); (case hy => rfl); (case hr => exact rowOf_size _ _ _); (case h1 => exact ia_ones hri); (case hB => exact b4); (case hi => decide); rintro W5 b5 m5))
      have eA : Ext wr W5 := Ext.trans_mod e4 m5 (fun q hq => by have hq2 : q = L := hq; rw [hq2]; exact g4)
      have l7 := (ia_lay (z := cf z114a) hri).ext eA
      generalize layv (cf z114a) 0 (rowOf cs (i * 55) 55) = c7 at b5 l7
      have hR5 := RowIn.ext hR' hb1 eA
      go_upto_region 7 with (first | ((with_reducible (refine Veil.out ?_; apply wl_loadR rt114i b' (off' + i * 55) (rowOf cs' (i * 55) 55) (rowOf_size _ _ _))); (case hx => rfl); (case hr => exact hR5)) | ((with_reducible (refine Veil.out ?_; apply wl_allocB z114)); (case hn => exact z114s); rintro L' W6 e6 b6 g6) | ((with_reducible (refine Veil.out ?_; apply wl_storeRow rt114i)); (case hx => rfl); (case hy => rfl); (case hr => exact rowOf_size _ _ _); (case h1 => exact ia_ones hri'); (case hB => exact b6); (case hi => decide); rintro W7 b8 m7))
      have eB : Ext W5 W7 := Ext.trans_mod e6 m7 (fun q hq => by have hq2 : q = L' := hq; rw [hq2]; exact g6)
      have l8 := (ia_lay (z := cf z114a) hri').ext (eA.trans eB)
      generalize layv (cf z114a) 0 (rowOf cs' (i * 55) 55) = c8 at b8 l8
      have b7 := b5.ext eB
      replace l7 := l7.ext eB
      have hn1 := l7.nonce
      have hn2 := l8.nonce
      have C1 := l7.code
      have C2 := l8.code
      have S1 := l7.slots
      have S2 := l8.slots
      rw [Nat.zero_add] at hn1 hn2 C1 C2 S1 S2
      obtain ⟨cv1, hc1⟩ : ∃ z, c7 53 = z := ⟨_, rfl⟩
      obtain ⟨cv2, hc2⟩ : ∃ z, c8 53 = z := ⟨_, rfl⟩
      rw [hc1] at C1
      rw [hc2] at C2
      obtain ⟨so, sc, hs1, hs1a, hs1b⟩ := S1.slice
      obtain ⟨so', sc', hs2, hs2a, hs2b⟩ := S2.slice
      obtain ⟨sn, hsn⟩ : ∃ n, Hid (g.slots.length = n) := ⟨_, rfl⟩
      have hsnn : (sn : Int) ≤ 9223372036854775807 := by have := hsn.out; omega
      rw [hsn.out] at hs1 hs2 hs1a hs2a
      rw [hs1] at S1
      rw [hs2] at S2
      have HA := fun W (hW : Ext W7 W) => lEqualBytes (nlx_av l7.aLt (l7.addr.row l7.aLt (b7.ext hW) (by decide)) (b7.ext hW).lt) (nlx_av l8.aLt (l8.addr.row l8.aLt (b8.ext hW) (by decide)) (b8.ext hW).lt)
      have HB := fun W (hW : Ext W7 W) => lEqualBytes (nlx_bw l7.bLt (l7.bal.row l7.bLt (b7.ext hW) (by decide)) (b7.ext hW).lt) (nlx_bw l8.bLt (l8.bal.row l8.bLt (b8.ext hW) (by decide)) (b8.ext hW).lt)
      have HC := fun W (hW : Ext W7 W) => lEqualBytes (C1.ext hW) (C2.ext hW)
      have eW : Ext w W7 := e1.trans (eA.trans eB)
      clear hR hR' hR5 hri hri' m5 m7 e4 e6 eA eB l7 l8 b5 b4 b6 C1 C2
      refine w_ext ?_
      rintro W0 hW0
      refine wp_region_held_drew (S := fun w' => Ext W0 w') (by kernel_rfl) (Ext.refl _).drew (fun hHeld => ?_)
      have HH : Hid (Ext W0 _) := hHeld
      clear hHeld
      refine wpAnyH_take (i := 0) (v := ?_) rfl (by kernel_rfl) (by kernel_rfl) (by kernel_rfl) (fun _ _ _ h => h) (Or.inl ⟨by rfl, ?_⟩) HH.out ?_
      rotate_left
      · intro w hSw; go_simp; try with_reducible rfl
      change wpAnyH _ _ _ _ _ _ _ (Act.put _ (some 27) _) _
      simp only [Act.put, List.setIfInBounds_toArray, List.set_cons_zero, List.set_cons_succ]
      refine wpAnyH_take (i := 1) (v := ?_) rfl (by kernel_rfl) (by kernel_rfl) (by kernel_rfl) (fun _ _ _ h => h) (Or.inl ⟨by rfl, ?_⟩) HH.out ?_
      rotate_left
      · intro w hSw; go_simp; try with_reducible rfl
      change wpAnyH _ _ _ _ _ _ _ (Act.put _ (some 28) _) _
      simp only [Act.put, List.setIfInBounds_toArray, List.set_cons_zero, List.set_cons_succ]
      refine wpAnyH_take (i := 2) (v := ?_) rfl (by kernel_rfl) (by kernel_rfl) (by kernel_rfl) (fun _ _ _ h => h) (Or.inl ⟨by rfl, ?_⟩) HH.out ?_
      rotate_left
      · intro w hSw; go_simp; try with_reducible rfl
      change wpAnyH _ _ _ _ _ _ _ (Act.put _ (some 29) _) _
      simp only [Act.put, List.setIfInBounds_toArray, List.set_cons_zero, List.set_cons_succ]
      refine wpAnyH_take (i := 3) (v := ?_) rfl (by kernel_rfl) (by kernel_rfl) (by kernel_rfl) (fun _ _ _ h => h) (Or.inl ⟨by rfl, ?_⟩) HH.out ?_
      rotate_left
      · intro w hSw; go_simp; try with_reducible rfl
      change wpAnyH _ _ _ _ _ _ _ (Act.put _ (some 30) _) _
      simp only [Act.put, List.setIfInBounds_toArray, List.set_cons_zero, List.set_cons_succ]
      refine wpAnyH_ready (rs := [4]) (by kernel_rfl) (by simp) ?_
      refine AllReadyH.cons rfl (fun K hK => ?_) AllReadyH.nil
      go_simp
      go_at_call 50; refine (HA _ (hW0.trans HH.out)).mono ?_; rintro e w1 ⟨rfl, hww⟩; replace hww := hww.symm; subst hww
      refine hK.out _ _ ?_ (fun hHeld => ?_)
      · first | exact HH.out.trans hmY | exact HH.out.trans he | exact HH.out
      clear hK K HH
      have HH : Hid (Ext W0 _) := hHeld
      clear hHeld
      refine wpAnyH_take (i := 5) (v := ?_) rfl (by kernel_rfl) (by kernel_rfl) (by kernel_rfl) (fun _ _ _ h => h) (Or.inl ⟨by rfl, ?_⟩) HH.out ?_
      rotate_left
      · intro w hSw; go_simp; try with_reducible rfl
      change wpAnyH _ _ _ _ _ _ _ (Act.put _ (some 32) _) _
      simp only [Act.put, List.setIfInBounds_toArray, List.set_cons_zero, List.set_cons_succ]
      refine wpAnyH_take (i := 6) (v := ?_) rfl (by kernel_rfl) (by kernel_rfl) (by kernel_rfl) (fun _ _ _ h => h) (Or.inl ⟨by rfl, ?_⟩) HH.out ?_
      rotate_left
      · intro w hSw; go_simp; try with_reducible rfl
      change wpAnyH _ _ _ _ _ _ _ (Act.put _ (some 33) _) _
      simp only [Act.put, List.setIfInBounds_toArray, List.set_cons_zero, List.set_cons_succ]
      refine wpAnyH_take (i := 7) (v := ?_) rfl (by kernel_rfl) (by kernel_rfl) (by kernel_rfl) (fun _ _ _ h => h) (Or.inl ⟨by rfl, ?_⟩) HH.out ?_
      rotate_left
      · intro w hSw; go_simp; try with_reducible rfl
      change wpAnyH _ _ _ _ _ _ _ (Act.put _ (some 34) _) _
      simp only [Act.put, List.setIfInBounds_toArray, List.set_cons_zero, List.set_cons_succ]
      refine wpAnyH_take (i := 8) rfl (by kernel_rfl) (by kernel_rfl) (by kernel_rfl) (fun _ _ _ h => h) (yieldsIf_load1 (by rfl) _ _ rfl _ _ rfl one26i _ (fun w hSw => by rw [(b7.ext (hW0.trans hSw)).cell (by decide), hn1])) HH.out ?_
      change wpAnyH _ _ _ _ _ _ _ (Act.put _ (some 35) _) _
      simp only [Act.put, List.setIfInBounds_toArray, List.set_cons_zero, List.set_cons_succ]
      refine wpAnyH_take (i := 9) (v := ?_) rfl (by kernel_rfl) (by kernel_rfl) (by kernel_rfl) (fun _ _ _ h => h) (Or.inl ⟨by rfl, ?_⟩) HH.out ?_
      rotate_left
      · intro w hSw; go_simp; try with_reducible rfl
      change wpAnyH _ _ _ _ _ _ _ (Act.put _ (some 36) _) _
      simp only [Act.put, List.setIfInBounds_toArray, List.set_cons_zero, List.set_cons_succ]
      refine wpAnyH_take (i := 10) rfl (by kernel_rfl) (by kernel_rfl) (by kernel_rfl) (fun _ _ _ h => h) (yieldsIf_load1 (by rfl) _ _ rfl _ _ rfl one26i _ (fun w hSw => by rw [(b8.ext (hW0.trans hSw)).cell (by decide), hn2])) HH.out ?_
      change wpAnyH _ _ _ _ _ _ _ (Act.put _ (some 37) _) _
      simp only [Act.put, List.setIfInBounds_toArray, List.set_cons_zero, List.set_cons_succ]
      refine wpAnyH_take (i := 11) (v := ?_) rfl (by kernel_rfl) (by kernel_rfl) (by kernel_rfl) (fun _ _ _ h => h) (Or.inl ⟨by rfl, ?_⟩) HH.out ?_
      rotate_left
      · intro w hSw; go_simp; try with_reducible rfl
      change wpAnyH _ _ _ _ _ _ _ (Act.put _ (some 38) _) _
      simp only [Act.put, List.setIfInBounds_toArray, List.set_cons_zero, List.set_cons_succ]
      refine wpAnyH_take (i := 12) (v := ?_) rfl (by kernel_rfl) (by kernel_rfl) (by kernel_rfl) (fun _ _ _ h => h) (Or.inl ⟨by rfl, ?_⟩) HH.out ?_
      rotate_left
      · intro w hSw; go_simp; try with_reducible rfl
      change wpAnyH _ _ _ _ _ _ _ (Act.put _ (some 39) _) _
      simp only [Act.put, List.setIfInBounds_toArray, List.set_cons_zero, List.set_cons_succ]
      refine wpAnyH_take (i := 13) (v := ?_) rfl (by kernel_rfl) (by kernel_rfl) (by kernel_rfl) (fun _ _ _ h => h) (Or.inl ⟨by rfl, ?_⟩) HH.out ?_
      rotate_left
      · intro w hSw; go_simp; try with_reducible rfl
      change wpAnyH _ _ _ _ _ _ _ (Act.put _ (some 40) _) _
      simp only [Act.put, List.setIfInBounds_toArray, List.set_cons_zero, List.set_cons_succ]
      refine wpAnyH_take (i := 14) (v := ?_) rfl (by kernel_rfl) (by kernel_rfl) (by kernel_rfl) (fun _ _ _ h => h) (Or.inl ⟨by rfl, ?_⟩) HH.out ?_
      rotate_left
      · intro w hSw; go_simp; try with_reducible rfl
      change wpAnyH _ _ _ _ _ _ _ (Act.put _ (some 41) _) _
      simp only [Act.put, List.setIfInBounds_toArray, List.set_cons_zero, List.set_cons_succ]
      refine wpAnyH_take (i := 15) (v := ?_) rfl (by kernel_rfl) (by kernel_rfl) (by kernel_rfl) (fun _ _ _ h => h) (Or.inl ⟨by rfl, ?_⟩) HH.out ?_
      rotate_left
      · intro w hSw; go_simp; try with_reducible rfl
      change wpAnyH _ _ _ _ _ _ _ (Act.put _ (some 42) _) _
      simp only [Act.put, List.setIfInBounds_toArray, List.set_cons_zero, List.set_cons_succ]
      refine wpAnyH_take (i := 16) (v := ?_) rfl (by kernel_rfl) (by kernel_rfl) (by kernel_rfl) (fun _ _ _ h => h) (Or.inl ⟨by rfl, ?_⟩) HH.out ?_
      rotate_left
      · intro w hSw; go_simp; try with_reducible rfl
      change wpAnyH _ _ _ _ _ _ _ (Act.put _ (some 43) _) _
      simp only [Act.put, List.setIfInBounds_toArray, List.set_cons_zero, List.set_cons_succ]
      refine wpAnyH_take (i := 17) (v := ?_) rfl (by kernel_rfl) (by kernel_rfl) (by kernel_rfl) (fun _ _ _ h => h) (Or.inl ⟨by rfl, ?_⟩) HH.out ?_
      rotate_left
      · intro w hSw; go_simp; try with_reducible rfl
      change wpAnyH _ _ _ _ _ _ _ (Act.put _ (some 44) _) _
      simp only [Act.put, List.setIfInBounds_toArray, List.set_cons_zero, List.set_cons_succ]
      refine wpAnyH_ready (rs := [18]) (by kernel_rfl) (by simp) ?_
      refine AllReadyH.cons rfl (fun K hK => ?_) AllReadyH.nil
      go_simp
      go_at_call 50; refine (HB _ (hW0.trans HH.out)).mono ?_; rintro e w1 ⟨rfl, hww⟩; replace hww := hww.symm; subst hww
      refine hK.out _ _ ?_ (fun hHeld => ?_)
      · first | exact HH.out.trans hmY | exact HH.out.trans he | exact HH.out
      clear hK K HH
      have HH : Hid (Ext W0 _) := hHeld
      clear hHeld
      refine wpAnyH_take (i := 19) (v := ?_) rfl (by kernel_rfl) (by kernel_rfl) (by kernel_rfl) (fun _ _ _ h => h) (Or.inl ⟨by rfl, ?_⟩) HH.out ?_
      rotate_left
      · intro w hSw; go_simp; try with_reducible rfl
      change wpAnyH _ _ _ _ _ _ _ (Act.put _ (some 46) _) _
      simp only [Act.put, List.setIfInBounds_toArray, List.set_cons_zero, List.set_cons_succ]
      refine wpAnyH_take (i := 20) (v := ?_) rfl (by kernel_rfl) (by kernel_rfl) (by kernel_rfl) (fun _ _ _ h => h) (Or.inl ⟨by rfl, ?_⟩) HH.out ?_
      rotate_left
      · intro w hSw; go_simp; try with_reducible rfl
      change wpAnyH _ _ _ _ _ _ _ (Act.put _ (some 47) _) _
      simp only [Act.put, List.setIfInBounds_toArray, List.set_cons_zero, List.set_cons_succ]
      refine wpAnyH_done (by kernel_rfl) ?_ _
      have HH9 := HH.out
      refine w_ext ?_
      rintro W9 hW9
      have e79 : Ext W7 W9 := hW0.trans (Ext.trans (by (repeat (first | with_reducible exact Ext.refl _ | with_reducible assumption | refine Ext.trans ?_ (by with_reducible assumption) | refine Ext.alloc ?_ _ _ | refine Ext.drew ?_ | refine Ext.drewN ?_ _))) hW9)
      replace b7 := b7.ext e79
      replace b8 := b8.ext e79
      have HC9 := HC W9 e79
      go_upto_region 12 with (first
        | ((with_reducible (refine Veil.out ?_; apply wl_loadB one32i (b := L))); (case hx => rfl); (case hB => exact b7); (case hi => decide); rw [hc1])
        | ((with_reducible (refine Veil.out ?_; apply wl_loadB one32i (b := L'))); (case hx => rfl); (case hB => exact b8); (case hi => decide); rw [hc2])
        | (go_at_call 50; refine HC9.mono ?_; rintro e w1 ⟨rfl, hww⟩; replace hww := hww.symm; subst hww)
        | ((with_reducible (refine Veil.out ?_; apply wlG_loadB one112i (b := L))); (case hw => go_simp); (case hx => rfl); (case hB => exact b7); (case hi => decide); rw [hs1])
        | ((with_reducible (refine Veil.out ?_; apply wlG_loadB one112i (b := L'))); (case hw => go_simp); (case hx => rfl); (case hB => exact b8); (case hi => decide); rw [hs2]))
      try simp only [Act.put]
      go_loopw [66] (fun iv wr => ∃ (k : Nat), iv = .int .i64 (k : Nat) ∧ k ≤ sn ∧ Ext W9 wr) (fun iv _ => sn - (intOf iv).toNat)
      case atStart => exact ⟨0, rfl, Nat.zero_le _, by first | exact Ext.refl _ | assumption⟩
      case round =>
      obtain ⟨k, rfl, hk, f1⟩ := hrel
      rcases Nat.lt_or_ge k sn with hlt2 | hge2
      · have z2 : (k : Int) < sn := by omega
        have hkl : k < g.slots.length := by have := hsn.out; omega
        rcases S1 with ⟨q, _⟩ | ⟨sb, sof, scap, ss, hv, _, _, _, hsb, scell, srow⟩
        · rw [q] at hkl; simp at hkl
        rcases S2 with ⟨q, _⟩ | ⟨sb', sof', scap', ss', hv', _, _, _, hsb', scell', srow'⟩
        · rw [q] at hkl; simp at hkl
        injection hv with hv1 hv2 hv3
        clear hv2
        subst hv1
        subst hv3
        injection hv' with hv1 hv2 hv3
        clear hv2
        subst hv1
        subst hv3
        have f0 : Ext W7 wr := e79.trans f1
        have hri := srow k hkl
        have hri' := srow' k hkl
        have hR : RowIn wr sb (sof + k * 64) (rowOf ss (k * 64) 64) := RowIn.ext (el_row scell hkl) hsb f0
        have hR' : RowIn wr sb' (sof' + k * 64) (rowOf ss' (k * 64) 64) := RowIn.ext (el_row scell' hkl) hsb' f0
        generalize (g.slots)[k] = y at *
        clear srow srow' scell scell'
        have hb2 : sb' < wr.heap.size := Nat.lt_of_lt_of_le hsb' f0.size
        obtain ⟨k1, hk1⟩ : ∃ z : Nat, Hid ((k + 1 : Nat) = z) := ⟨_, rfl⟩
        have j2 : IntKind.i64.wrap ((k : Int) + 1) = (k1 : Int) := by rw [IntKind.wrap_i64, ← hk1.out]; omega
        go_upto_region 14 with (first | ((with_reducible (refine Veil.out ?_; apply wl_loadR rt118i sb (sof + k * 64) (rowOf ss (k * 64) 64) (rowOf_size _ _ _))); (case hx => rfl); (case hr => exact hR)) | ((with_reducible (refine Veil.out ?_; apply wl_allocB z118)); (case hn => exact z118s); rintro M W4 e4 b4 g4) | ((with_reducible (refine Veil.out ?_; apply wl_storeRow rt118i)); (case hx => rfl); (case hy => rfl); (case hr => exact rowOf_size _ _ _); (case h1 => exact is_ones hri); (case hB => exact b4); (case hi => decide); rintro W5 b5 m5))
        have eA : Ext wr W5 := Ext.trans_mod e4 m5 (fun q hq => by have hq2 : q = M := hq; rw [hq2]; exact g4)
        have l9 := is_lay (z := cf z118a) hri
        generalize layv (cf z118a) 0 (rowOf ss (k * 64) 64) = c9 at b5 l9
        have hR5 := RowIn.ext hR' hb2 eA
        have b85 := b8.ext (f1.trans eA)
        go_upto_region 15 with (first | ((with_reducible (refine Veil.out ?_; apply wl_loadB one112i)); (case hx => rfl); (case hB => exact b85); (case hi => decide); rw [hs2]) | ((with_reducible (refine Veil.out ?_; apply wl_loadR rt118i sb' (sof' + k * 64) (rowOf ss' (k * 64) 64) (rowOf_size _ _ _))); (case hx => rfl); (case hr => exact hR5)) | ((with_reducible (refine Veil.out ?_; apply wl_allocB z118)); (case hn => exact z118s); rintro M' W6 e6 b6 g6) | ((with_reducible (refine Veil.out ?_; apply wl_storeRow rt118i)); (case hx => rfl); (case hy => rfl); (case hr => exact rowOf_size _ _ _); (case h1 => exact is_ones hri'); (case hB => exact b6); (case hi => decide); rintro W8 b10 m7))
        have eB : Ext W5 W8 := Ext.trans_mod e6 m7 (fun q hq => by have hq2 : q = M' := hq; rw [hq2]; exact g6)
        have l10 := is_lay (z := cf z118a) hri'
        generalize layv (cf z118a) 0 (rowOf ss' (k * 64) 64) = c10 at b10 l10
        have b9 := b5.ext eB
        have HK := fun W (hW : Ext W8 W) => lEqualBytes (nlx_bw l9.kLt (l9.key.row l9.kLt (b9.ext hW) (by decide)) (b9.ext hW).lt) (nlx_bw l10.kLt (l10.key.row l10.kLt (b10.ext hW) (by decide)) (b10.ext hW).lt)
        have HV := fun W (hW : Ext W8 W) => lEqualBytes (nlx_bw l9.vLt (l9.val.row l9.vLt (b9.ext hW) (by decide)) (b9.ext hW).lt) (nlx_bw l10.vLt (l10.val.row l10.vLt (b10.ext hW) (by decide)) (b10.ext hW).lt)
        have fW : Ext W9 W8 := f1.trans (eA.trans eB)
        clear hR hR' hR5 hri hri' m5 m7 e4 e6 eA eB l9 l10 b5 b4 b6
        refine w_ext ?_
        rintro W0 hW0
        refine wp_region_held_drew (S := fun w' => Ext W0 w') (by kernel_rfl) (Ext.refl _).drew (fun hHeld => ?_)
        have HH : Hid (Ext W0 _) := hHeld
        clear hHeld
        refine wpAnyH_take (i := 0) (v := ?_) rfl (by kernel_rfl) (by kernel_rfl) (by kernel_rfl) (fun _ _ _ h => h) (Or.inl ⟨by rfl, ?_⟩) HH.out ?_
        rotate_left
        · intro w hSw; go_simp; try with_reducible rfl
        change wpAnyH _ _ _ _ _ _ _ (Act.put _ (some 76) _) _
        simp only [Act.put, List.setIfInBounds_toArray, List.set_cons_zero, List.set_cons_succ]
        refine wpAnyH_take (i := 1) (v := ?_) rfl (by kernel_rfl) (by kernel_rfl) (by kernel_rfl) (fun _ _ _ h => h) (Or.inl ⟨by rfl, ?_⟩) HH.out ?_
        rotate_left
        · intro w hSw; go_simp; try with_reducible rfl
        change wpAnyH _ _ _ _ _ _ _ (Act.put _ (some 77) _) _
        simp only [Act.put, List.setIfInBounds_toArray, List.set_cons_zero, List.set_cons_succ]
        refine wpAnyH_take (i := 2) (v := ?_) rfl (by kernel_rfl) (by kernel_rfl) (by kernel_rfl) (fun _ _ _ h => h) (Or.inl ⟨by rfl, ?_⟩) HH.out ?_
        rotate_left
        · intro w hSw; go_simp; try with_reducible rfl
        change wpAnyH _ _ _ _ _ _ _ (Act.put _ (some 78) _) _
        simp only [Act.put, List.setIfInBounds_toArray, List.set_cons_zero, List.set_cons_succ]
        refine wpAnyH_take (i := 3) (v := ?_) rfl (by kernel_rfl) (by kernel_rfl) (by kernel_rfl) (fun _ _ _ h => h) (Or.inl ⟨by rfl, ?_⟩) HH.out ?_
        rotate_left
        · intro w hSw; go_simp; try with_reducible rfl
        change wpAnyH _ _ _ _ _ _ _ (Act.put _ (some 79) _) _
        simp only [Act.put, List.setIfInBounds_toArray, List.set_cons_zero, List.set_cons_succ]
        refine wpAnyH_ready (rs := [4]) (by kernel_rfl) (by simp) ?_
        refine AllReadyH.cons rfl (fun K hK => ?_) AllReadyH.nil
        go_simp
        go_at_call 50; refine (HK _ (hW0.trans HH.out)).mono ?_; rintro e w1 ⟨rfl, hww⟩; replace hww := hww.symm; subst hww
        refine hK.out _ _ ?_ (fun hHeld => ?_)
        · first | exact HH.out.trans hmY | exact HH.out.trans he | exact HH.out
        clear hK K HH
        have HH : Hid (Ext W0 _) := hHeld
        clear hHeld
        refine wpAnyH_take (i := 5) (v := ?_) rfl (by kernel_rfl) (by kernel_rfl) (by kernel_rfl) (fun _ _ _ h => h) (Or.inl ⟨by rfl, ?_⟩) HH.out ?_
        rotate_left
        · intro w hSw; go_simp; try with_reducible rfl
        change wpAnyH _ _ _ _ _ _ _ (Act.put _ (some 81) _) _
        simp only [Act.put, List.setIfInBounds_toArray, List.set_cons_zero, List.set_cons_succ]
        refine wpAnyH_take (i := 6) (v := ?_) rfl (by kernel_rfl) (by kernel_rfl) (by kernel_rfl) (fun _ _ _ h => h) (Or.inl ⟨by rfl, ?_⟩) HH.out ?_
        rotate_left
        · intro w hSw; go_simp; try with_reducible rfl
        change wpAnyH _ _ _ _ _ _ _ (Act.put _ (some 82) _) _
        simp only [Act.put, List.setIfInBounds_toArray, List.set_cons_zero, List.set_cons_succ]
        refine wpAnyH_take (i := 7) (v := ?_) rfl (by kernel_rfl) (by kernel_rfl) (by kernel_rfl) (fun _ _ _ h => h) (Or.inl ⟨by rfl, ?_⟩) HH.out ?_
        rotate_left
        · intro w hSw; go_simp; try with_reducible rfl
        change wpAnyH _ _ _ _ _ _ _ (Act.put _ (some 83) _) _
        simp only [Act.put, List.setIfInBounds_toArray, List.set_cons_zero, List.set_cons_succ]
        refine wpAnyH_take (i := 8) (v := ?_) rfl (by kernel_rfl) (by kernel_rfl) (by kernel_rfl) (fun _ _ _ h => h) (Or.inl ⟨by rfl, ?_⟩) HH.out ?_
        rotate_left
        · intro w hSw; go_simp; try with_reducible rfl
        change wpAnyH _ _ _ _ _ _ _ (Act.put _ (some 84) _) _
        simp only [Act.put, List.setIfInBounds_toArray, List.set_cons_zero, List.set_cons_succ]
        refine wpAnyH_take (i := 9) (v := ?_) rfl (by kernel_rfl) (by kernel_rfl) (by kernel_rfl) (fun _ _ _ h => h) (Or.inl ⟨by rfl, ?_⟩) HH.out ?_
        rotate_left
        · intro w hSw; go_simp; try with_reducible rfl
        change wpAnyH _ _ _ _ _ _ _ (Act.put _ (some 85) _) _
        simp only [Act.put, List.setIfInBounds_toArray, List.set_cons_zero, List.set_cons_succ]
        refine wpAnyH_take (i := 10) (v := ?_) rfl (by kernel_rfl) (by kernel_rfl) (by kernel_rfl) (fun _ _ _ h => h) (Or.inl ⟨by rfl, ?_⟩) HH.out ?_
        rotate_left
        · intro w hSw; go_simp; try with_reducible rfl
        change wpAnyH _ _ _ _ _ _ _ (Act.put _ (some 86) _) _
        simp only [Act.put, List.setIfInBounds_toArray, List.set_cons_zero, List.set_cons_succ]
        refine wpAnyH_ready (rs := [11]) (by kernel_rfl) (by simp) ?_
        refine AllReadyH.cons rfl (fun K hK => ?_) AllReadyH.nil
        go_simp
        go_at_call 50; refine (HV _ (hW0.trans HH.out)).mono ?_; rintro e w1 ⟨rfl, hww⟩; replace hww := hww.symm; subst hww
        refine hK.out _ _ ?_ (fun hHeld => ?_)
        · first | exact HH.out.trans hmY | exact HH.out.trans he | exact HH.out
        clear hK K HH
        have HH : Hid (Ext W0 _) := hHeld
        clear hHeld
        refine wpAnyH_take (i := 12) (v := ?_) rfl (by kernel_rfl) (by kernel_rfl) (by kernel_rfl) (fun _ _ _ h => h) (Or.inl ⟨by rfl, ?_⟩) HH.out ?_
        rotate_left
        · intro w hSw; go_simp; try with_reducible rfl
        change wpAnyH _ _ _ _ _ _ _ (Act.put _ (some 88) _) _
        simp only [Act.put, List.setIfInBounds_toArray, List.set_cons_zero, List.set_cons_succ]
        refine wpAnyH_take (i := 13) (v := ?_) rfl (by kernel_rfl) (by kernel_rfl) (by kernel_rfl) (fun _ _ _ h => h) (Or.inl ⟨by rfl, ?_⟩) HH.out ?_
        rotate_left
        · intro w hSw; go_simp; try with_reducible rfl
        change wpAnyH _ _ _ _ _ _ _ (Act.put _ (some 89) _) _
        simp only [Act.put, List.setIfInBounds_toArray, List.set_cons_zero, List.set_cons_succ]
        refine wpAnyH_done (by kernel_rfl) ?_ _
        have HH9 := HH.out
        go_wp2
        go_roundw
        case rel => exact ⟨k1, rfl, by have := hk1.out; omega, fW.trans (hW0.trans (by (repeat (first | with_reducible exact Ext.refl _ | with_reducible assumption | refine Ext.trans ?_ (by with_reducible assumption) | refine Ext.alloc ?_ _ _ | refine Ext.drew ?_ | refine Ext.drewN ?_ _))))⟩
        case measure => have q1 := hk1.out; simp [intOf]; omega
      · have z2 : ¬ (k : Int) < sn := by omega
        go_wp2
        go_roundw
        case rel => exact ⟨i1, rfl, by have := hi1.out; omega, eW.trans (e79.trans f1)⟩
        case measure => have q1 := hi1.out; simp [intOf]; omega
    · have z1 : ¬ (i : Int) < n := by omega
      go_wp2
      go_ret
      exact ⟨rfl, e1⟩
end
end Go.Proofs.YgvahwGreat
