import Derived.Test.YgvahwGreatNatB
namespace Go.Proofs.YgvahwGreat
open Go.RowKit

theorem set_mid (xs ys : List Nat) (k d e : Nat) (hk : xs.length = k) : (xs ++ e :: ys).set k d = (xs ++ [d]) ++ ys := by
  subst hk
  rw [List.set_append_right _ _ (Nat.le_refl _), Nat.sub_self]; simp

theorem take_arith (V A B P c d e r c' : Nat) (h : V + B = A + P * c) (hr : r + e + c = d + 256 * c') : V + P * r + (B + P * e) = (A + P * d) + P * 256 * c' := by
  have : P * r + P * e + P * c = P * d + P * (256 * c') := by rw [← Nat.mul_add, ← Nat.mul_add, ← Nat.mul_add, hr]
  rw [Nat.mul_assoc]
  omega

set_option maxHeartbeats 1600000 in
/-- nat.take: the row at g less b, in place. -/
theorem take_row (g : Nat) (A B : List Nat) (o : Option Addr) (cB : Nat) (w : World) (hrow : w.heap[g]? = some (.cells (bcells A).toArray 5 (0, 0))) (dA : Digits A) (hA : A.length ≤ 140737488355328)
    (hB : BS (· = g) w o B) (hBA : B.length ≤ A.length) :
    Calls Hvah.prog 225 #[.slice (some ⟨g, 0, none⟩) A.length A.length, .slice o B.length cB] w fun e w' => ∃ (A' : List Nat) (c : Nat), e = .returned (.int .u16 c) ∧ c ≤ 1 ∧ A'.length = A.length ∧ Digits A' ∧
      val A' + val B = val A + 256 ^ A.length * c ∧ w'.heap[g]? = some (.cells (bcells A').toArray 5 (0, 0)) ∧ Upd g w w' := by
  have dB := hB.lt
  go_enter Hvah.func225, Hvah.ntmps225
  go_wp2
  go_loopw [5, 11] (fun cy i wr => ∃ (k c : Nat) (xs : List Nat), k ≤ A.length ∧ i = .int .i64 k ∧ cy = .int .u16 c ∧ c ≤ 1 ∧ xs.length = k ∧ Digits xs ∧
      Hid (val xs + val (B.take k) = val (A.take k) + 256 ^ k * c) ∧ wr.heap[g]? = some (.cells (bcells (xs ++ A.drop k)).toArray 5 (0, 0)) ∧ Upd g w wr)
    (fun _ i _ => A.length - (intOf i).toNat)
  case atStart => exact ⟨0, 0, [], Nat.zero_le _, rfl, rfl, by omega, rfl, digits_nil, by simp [Hid, val], by simpa using hrow, Upd.refl _ _⟩
  case round =>
    obtain ⟨k, c, xs, hk, rfl, rfl, hc, hxl, hxd, hv, hr, hu⟩ := hrel
    by_cases hlt : k < A.length
    · have hdrop := List.drop_eq_getElem_cons hlt
      rw [hdrop] at hr
      have cr := cell_row hr k (by simp; omega)
      rw [show (xs ++ A[k] :: List.drop (k + 1) A)[k]'(by simp; omega) = A[k] by simp [List.getElem_append_right, hxl]] at cr
      have fr := frozen_row hr k
      have b1 := dA _ (List.getElem_mem hlt)
      have T1 : Hid (_ = _) := val_take_succ A k hlt
      have T2 : Hid (_ = _) := val_take_dig B k
      have HS : Hid (∀ d, (wr.setCell ⟨g, k, none⟩ (.int .u8 (d : Nat))).heap[g]? = some (.cells (bcells ((xs ++ [d]) ++ A.drop (k + 1))).toArray 5 (0, 0))) := fun d => by
        rw [heap_setByte hr k d, set_mid xs _ k d _ hxl]
      generalize A[k] = d1 at *
      clear hdrop hr
      by_cases hby : k < B.length
      · obtain ⟨b2, off2, rfl, hO2, hb2, hcell2⟩ := hB.spot (by intro e; rw [e] at hby; simp at hby)
        have c2 := (hu.cell (p := ⟨b2, off2 + k, none⟩) hO2).trans (hcell2 k hby)
        have b2 := dB _ (List.getElem_mem hby)
        have D2 : Hid (dig B k = B[k]) := by simp [Hid, dig, hby]
        generalize B[k] = d2 at *
        clear hcell2
        by_cases hbor : d1 < c + d2
        · go_wp2
          refine ⟨⟨k + 1, 1, xs ++ [d1 + 256 - (c + d2)], by omega, int_eq (by omega), int_eq (by omega), by omega, by simp [hxl], digits_snoc hxd (by omega), ?_, ?_, hu.setCell _ _⟩, by simp [intOf]; omega⟩
          · unfold Hid
            rw [T1.out, T2.out, D2.out, val_snoc, hxl, Nat.pow_succ]
            exact take_arith _ _ _ _ _ _ _ _ _ hv.out (by omega)
          · rw [show ((d1 : Int) + 256 - (c + d2) : Int) = ((d1 + 256 - (c + d2) : Nat) : Int) by omega]; exact HS.out _
        · go_wp2
          refine ⟨⟨k + 1, 0, xs ++ [d1 - (c + d2)], by omega, int_eq (by omega), int_eq (by omega), by omega, by simp [hxl], digits_snoc hxd (by omega), ?_, ?_, hu.setCell _ _⟩, by simp [intOf]; omega⟩
          · unfold Hid
            rw [T1.out, T2.out, D2.out, val_snoc, hxl, Nat.pow_succ]
            exact take_arith _ _ _ _ _ _ _ _ _ hv.out (by omega)
          · rw [show ((d1 : Int) - (c + d2) : Int) = ((d1 - (c + d2) : Nat) : Int) by omega]; exact HS.out _
      · have D2 : Hid (dig B k = 0) := by simp [Hid, dig, Nat.not_lt.1 hby]
        by_cases hbor : d1 < c
        · go_wp2
          refine ⟨⟨k + 1, 1, xs ++ [d1 + 256 - c], by omega, int_eq (by omega), int_eq (by omega), by omega, by simp [hxl], digits_snoc hxd (by omega), ?_, ?_, hu.setCell _ _⟩, by simp [intOf]; omega⟩
          · unfold Hid
            rw [T1.out, T2.out, D2.out, val_snoc, hxl, Nat.pow_succ]
            exact take_arith _ _ _ _ _ _ _ _ _ hv.out (by omega)
          · rw [show ((d1 : Int) + 256 - c : Int) = ((d1 + 256 - c : Nat) : Int) by omega]; exact HS.out _
        · go_wp2
          refine ⟨⟨k + 1, 0, xs ++ [d1 - c], by omega, int_eq (by omega), int_eq (by omega), by omega, by simp [hxl], digits_snoc hxd (by omega), ?_, ?_, hu.setCell _ _⟩, by simp [intOf]; omega⟩
          · unfold Hid
            rw [T1.out, T2.out, D2.out, val_snoc, hxl, Nat.pow_succ]
            exact take_arith _ _ _ _ _ _ _ _ _ hv.out (by omega)
          · rw [show ((d1 : Int) - c : Int) = ((d1 - c : Nat) : Int) by omega]; exact HS.out _
    · have : k = A.length := by omega
      subst this
      go_wp2
      go_ret
      refine ⟨xs, c, rfl, hc, hxl, hxd, ?_, ?_, hu⟩
      · have := hv.out
        rwa [List.take_of_length_le (Nat.le_refl _), List.take_of_length_le hBA] at this
      · simpa using hr

theorem NL.norm {O : Nat → Prop} {w : World} {v : Value} {l : List Nat} (h : NL O w v l) : NV O w v (val l) := ⟨l, h, rfl⟩
theorem NL.nv {O : Nat → Prop} {w : World} {v : Value} {x : Nat} (h : NL O w v (digs x)) : NV O w v x := ⟨_, h, val_digs x⟩

set_option maxHeartbeats 800000 in
/-- nat.Sub where a is below b. -/
theorem sub_under (O : Nat → Prop) (v u : Value) (x y : Nat) (w : World) (h : NV O w v x) (g : NV O w u y) (hlt : x < y) :
    Calls Hvah.prog 134 #[v, u] w fun e w' => e = .returned (.tuple #[.slice none 0 0, .bool false]) ∧ Ext w w' := by
  have hc : cmpI x y = -1 := by simp [cmpI, hlt]
  go_enter Hvah.func134, Hvah.ntmps134
  go_wp2_with (go_at_call 130; refine (cmp_nv O v u x y w h g).mono ?_; rintro e w' ⟨rfl, n, rfl⟩)
  go_ret2
  exact ⟨rfl, (Ext.refl _).drewN _⟩

theorem cmpI_ge (x y : Nat) (h : y ≤ x) : 0 ≤ cmpI x y ∧ cmpI x y ≤ 1 := by
  unfold cmpI
  split
  · omega
  · split <;> omega

set_option maxHeartbeats 400000 in
theorem take_nil (w : World) (o : Option Addr) (n c : Nat) :
    Calls Hvah.prog 225 #[.slice none 0 0, .slice o n c] w fun e w' => e = .returned (.int .u16 0) ∧ w' = w := by
  go_enter Hvah.func225, Hvah.ntmps225
  go_wp2
  go_loopw [5, 11] (fun cy i wr => i = .int .i64 0 ∧ cy = .int .u16 0 ∧ wr = w) (fun _ _ _ => 0)
  case atStart => exact ⟨rfl, rfl, rfl⟩
  case round =>
    obtain ⟨rfl, rfl, rfl⟩ := hrel
    go_wp2
    go_ret
    exact ⟨rfl, rfl⟩

theorem digs_length_mono {x y : Nat} (h : y ≤ x) : (digs y).length ≤ (digs x).length :=
  (digs_length_le y _).2 (Nat.lt_of_le_of_lt h ((digs_length_le x _).1 (Nat.le_refl _)))

theorem sub_val {x y c : Nat} {A' : List Nat} (hle : y ≤ x) (hl : A'.length = (digs x).length) (hd : Digits A') (hc : c ≤ 1) (hv : val A' + val (digs y) = val (digs x) + 256 ^ (digs x).length * c) : val A' = x - y := by
  rw [val_digs, val_digs] at hv
  have := val_lt A' hd
  rw [hl] at this
  rcases (show c = 0 ∨ c = 1 by omega) with rfl | rfl
  · omega
  · omega

set_option maxHeartbeats 800000 in
/-- nat.Sub where it can be done. -/
theorem sub_over (O : Nat → Prop) (v u : Value) (x y : Nat) (w : World) (hO : ∀ b, O b → b < w.heap.size) (h : NV O w v x) (g : NV O w u y) (hle : y ≤ x) :
    Calls Hvah.prog 134 #[v, u] w fun e w' => ∃ r, e = .returned (.tuple #[r, .bool true]) ∧ NL O w' r (digs (x - y)) ∧ Ext w w' := by
  obtain ⟨hc1, hc2⟩ := cmpI_ge x y hle
  by_cases hx : x = 0
  · subst hx
    have hy : y = 0 := by omega
    subst hy
    go_enter Hvah.func134, Hvah.ntmps134
    go_wp2_with (first
      | (go_at_call 130; refine (cmp_nv O v u _ _ w h g).mono ?_; rintro e w' ⟨rfl, n, rfl⟩)
      | (go_at_call 132; refine (norm_zero O v _ (h.ext ((Ext.refl _).drewN _))).mono ?_; rintro e w' ⟨rfl, rfl⟩)
      | (go_at_call 97; refine (trim_nv O u 0 _ (g.ext ((Ext.refl _).drewN _))).mono ?_; rintro e w' ⟨o, rfl, hbs, hlen, rfl⟩)
      | (go_at_call 225; refine (take_nil _ _ _ _).mono ?_; rintro e w' ⟨rfl, rfl⟩)
      | (go_at_call 98; refine (clip_nl O _ 0 _ NV.nil).mono ?_; rintro e w' ⟨r, rfl, hr, rfl⟩))
    go_ret2
    exact ⟨_, rfl, hr, (Ext.refl _).drewN _⟩
  · go_enter Hvah.func134, Hvah.ntmps134
    go_wp2_with (first
      | (go_at_call 130; refine (cmp_nv O v u _ _ w h g).mono ?_; rintro e w' ⟨rfl, n, rfl⟩)
      | (go_at_call 132; refine (norm_row O v x _ hx (h.ext ((Ext.refl _).drewN _))).mono ?_; rintro e w' ⟨rfl, hlx, hrow, hext⟩)
      | (go_at_call 97; refine (trim_nv (· = w.heap.size) u y _ (g.old (((Ext.refl _).drewN _).trans hext) (Nat.le_refl _))).mono ?_; rintro e w' ⟨o, rfl, hbs, hlen, rfl⟩)
      | (go_at_call 225; refine (take_row w.heap.size (digs x) (digs y) o _ _ hrow (digits_digs x) hlx hbs (digs_length_mono hle)).mono ?_; rintro e w2 ⟨A', c, rfl, hcc, hAl, hAd, hAv, hrow2, hupd⟩)
      | (go_at_call 98; refine (clip_nl O _ (x - y) w2 ⟨A', NL.row hrow2 hAd (fun hb => by have := hO _ hb; omega) hAl hlx, sub_val hle hAl hAd hcc hAv⟩).mono ?_; rintro e w3 ⟨r, rfl, hr, rfl⟩))
    go_ret2
    exact ⟨_, rfl, hr, (((Ext.refl _).drewN _).trans hext).upd hupd (Nat.le_refl _)⟩

end Go.Proofs.YgvahwGreat
