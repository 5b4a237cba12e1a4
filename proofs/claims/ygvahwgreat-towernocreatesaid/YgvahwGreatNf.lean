import Derived.Test.YgvahwGreatNe
import Derived.Test.YgvahwGreatTk
namespace Go.Proofs.YgvahwGreat
open Go.RowKit
set_option linter.unusedSimpArgs false
/-- The bytes laid from the end. -/
def rvL (l : List Nat) (m k : Nat) : List Nat := (List.range m).map fun j => if m - 1 - j < k then l.getD (m - 1 - j) 0 else 0
theorem rvL_len (l : List Nat) (m k : Nat) : (rvL l m k).length = m := by simp [rvL]
theorem rvL_set (l : List Nat) (m k : Nat) (hk : k < m) : (rvL l m k).set (m - 1 - k) (l.getD k 0) = rvL l m (k + 1) := by
  apply List.ext_getElem
  · simp [rvL]
  · intro i h1 h2
    rw [List.getElem_set]
    simp only [rvL, List.getElem_map, List.getElem_range]
    have hi : i < m := by simpa [rvL] using h2
    by_cases e : m - 1 - k = i
    · rw [if_pos e, if_pos (by omega), show m - 1 - i = k by omega]
    · rw [if_neg e]
      by_cases e2 : m - 1 - i < k
      · rw [if_pos e2, if_pos (by omega)]
      · rw [if_neg e2, if_neg (by omega)]
theorem rvL_zero (l : List Nat) (m : Nat) : rvL l m 0 = List.replicate m 0 := by
  apply List.ext_getElem
  · simp [rvL]
  · intro i h1 h2
    simp [rvL]
theorem rvL_full (l : List Nat) (hd : Digits l) (m : Nat) (_hl : l.length ≤ m) (hv : dl (val l) ≤ m) : rvL l m l.length = beL m (val l) := by
  have hget : ∀ i, l.getD i 0 = val l / 256 ^ i % 256 := val_digit l hd
  have he : rvL l m l.length = (List.range m).map fun j => val l / 256 ^ (m - 1 - j) % 256 := by
    unfold rvL
    apply List.map_congr_left
    intro j hj
    by_cases h : m - 1 - j < l.length
    · rw [if_pos h, hget]
    · rw [if_neg h, ← hget]
      simp only [List.getD, List.getElem?_eq_none (show l.length ≤ m - 1 - j by omega), Option.getD_none]
  rw [he]
  refine bev_inj _ _ ?_ (digits_beL _ _) (by rw [beL_length m _ hv]; simp) ?_
  · intro d hd
    simp only [List.mem_map] at hd
    obtain ⟨i, _, rfl⟩ := hd
    exact Nat.mod_lt _ (by decide)
  · rw [bev_beL]
    unfold bev
    have : ((List.range m).map fun j => val l / 256 ^ (m - 1 - j) % 256).reverse = dgL (fun i => val l / 256 ^ i % 256) m := by
      apply List.ext_getElem
      · simp [dgL]
      · intro i hi1 hi2
        have : i < m := by simpa using hi1
        simp only [dgL, List.getElem_reverse, List.getElem_map, List.getElem_range, List.length_map, List.length_range]
        rw [show m - 1 - (m - 1 - i) = i by omega]
    rw [this, val_dgL]
    exact Nat.mod_eq_of_lt ((dl_le_iff _ m).1 hv)
theorem cut_dig {L : List Nat} {O' : Nat → Prop} {w : World} {v : Value} (h : NL O' w v L) (o k : Nat) : Digits (cutA L o k) ∧ (cutA L o k).length = k := by
  refine ⟨fun d hd => ?_, by unfold cutA; simp⟩
  unfold cutA at hd
  rcases List.mem_append.1 (List.mem_of_mem_take hd) with hd | hd
  · exact h.digits d (List.mem_of_mem_drop hd)
  · rw [List.eq_of_mem_replicate hd]; decide
section
variable {O O' : Nat → Prop} {w : World} {v : Value} {L : List Nat}
set_option maxRecDepth 100000 in
set_option maxHeartbeats 6400000 in
theorem yNatRun4 (hO : Small O w) (h : NL O' w v L) : Calls Hvah.prog 144 #[.int .u8 4, v] w fun e w' => ∃ r, e = .returned r ∧ NL O w' r L ∧ Ext w w' := by
  go_enter Hvah.func144, Hvah.ntmps144
  go_wp2_with (first | (go_at_call 36; refine (yBytesOf2 hO h).mono ?_; rintro e w1 ⟨r, rfl, hr, he⟩))
  go_ret
  exact ⟨_, rfl, hr, he⟩
set_option maxRecDepth 100000 in
set_option maxHeartbeats 6400000 in
theorem yNatRun5n (hO : Small O w) (hin : NL O' w v L) (hn : natLens L = none) : Calls Hvah.prog 144 #[.int .u8 5, v] w fun e w' => ∃ r, e = .returned r ∧ NL O w' r [] ∧ Ext w w' := by
  have hL : Hid (lensV L = .tuple #[.int .u64 0, .int .u64 0, .int .u64 0, .bool false]) := by unfold Hid lensV; rw [hn]
  clear hn
  go_enter Hvah.func144, Hvah.ntmps144
  go_wp2_with (first | (go_at_call 228; refine (yLengths hO hin).mono ?_; rintro e w1 ⟨rfl, he⟩; rw [hL.out]))
  go_ret
  exact ⟨_, rfl, NL.nil, he⟩
set_option maxRecDepth 100000 in
set_option maxHeartbeats 6400000 in
theorem yNatRun5 (hO : Small O w) (hin : NL O' w v L) {b e m : Nat} (hn : natLens L = some (b, e, m)) : Calls Hvah.prog 144 #[.int .u8 5, v] w fun e' w' => ∃ r, e' = .returned r ∧ NL O w' r (beL m (dmod (natPart L 96 b ^ natPart L (96 + b) e) (natPart L (96 + b + e) m))) ∧ Ext w w' := by
  have hL : Hid (lensV L = .tuple #[.int .u64 (b : Nat), .int .u64 (e : Nat), .int .u64 (m : Nat), .bool true]) := by unfold Hid lensV; rw [hn]
  have hb64 : b ≤ 64 ∧ e ≤ 64 ∧ m ≤ 64 := by
    simp only [natLens] at hn
    split at hn
    · cases hn
    · rename_i hc
      injection hn with hn
      injection hn with e1 e2
      injection e2 with e2 e3
      omega
  obtain ⟨hb, he', hm⟩ := hb64
  clear hn
  have hbi : (b : Int) ≤ 64 := by omega
  have hei : (e : Int) ≤ 64 := by omega
  have hmi : (m : Int) ≤ 64 := by omega
  have HP1 : ∀ W, Ext w W → Calls Hvah.prog 230 #[v, .int .u64 96, .int .u64 (b : Nat)] W fun e w' => ∃ r, e = .returned r ∧ NL O w' r (cutA L 96 b) ∧ Ext W w' := fun W hW => yPart (hO.ext hW) (hin.ext hW) 96 b (by omega) (by omega)
  have HP2 : ∀ W, Ext w W → Calls Hvah.prog 230 #[v, .int .u64 (96 + (b : Int)), .int .u64 (e : Nat)] W fun e' w' => ∃ r, e' = .returned r ∧ NL O w' r (cutA L (96 + b) e) ∧ Ext W w' := fun W hW => by
    have := yPart (hO.ext hW) (hin.ext hW) (96 + b) e (by omega) (by omega)
    rwa [show ((96 + b : Nat) : Int) = 96 + (b : Int) by omega] at this
  have HP3 : ∀ W, Ext w W → Calls Hvah.prog 230 #[v, .int .u64 (96 + (b : Int) + (e : Int)), .int .u64 (m : Nat)] W fun e' w' => ∃ r, e' = .returned r ∧ NL O w' r (cutA L (96 + b + e) m) ∧ Ext W w' := fun W hW => by
    have := yPart (hO.ext hW) (hin.ext hW) (96 + b + e) m (by omega) (by omega)
    rwa [show ((96 + b + e : Nat) : Int) = 96 + (b : Int) + (e : Int) by omega] at this
  obtain ⟨g1, g1l⟩ := cut_dig hin 96 b
  obtain ⟨g2, g2l⟩ := cut_dig hin (96 + b) e
  obtain ⟨g3, g3l⟩ := cut_dig hin (96 + b + e) m
  have q1 := (dl_le_iff _ _).2 (bev_lt _ g1)
  have q2 := (dl_le_iff _ _).2 (bev_lt _ g2)
  have q3 := (dl_le_iff _ _).2 (bev_lt _ g3)
  rw [g1l] at q1
  rw [g2l] at q2
  rw [g3l] at q3
  unfold natPart
  obtain ⟨X1, hX1⟩ : ∃ X1, Hid (bev (cutA L 96 b) = X1) := ⟨_, rfl⟩
  obtain ⟨X2, hX2⟩ : ∃ X2, Hid (bev (cutA L (96 + b) e) = X2) := ⟨_, rfl⟩
  obtain ⟨X3, hX3⟩ : ∃ X3, Hid (bev (cutA L (96 + b + e) m) = X3) := ⟨_, rfl⟩
  rw [hX1.out, hX2.out, hX3.out]
  rw [hX1.out] at q1
  rw [hX2.out] at q2
  rw [hX3.out] at q3
  have hv2 := val_digs X2
  obtain ⟨P, hP⟩ : ∃ P, Hid (dmod (X1 ^ X2) X3 = P) := ⟨_, rfl⟩
  rw [hP.out]
  have hdP : dl P ≤ m := by rw [← hP.out]; exact dl_dmod q3
  have HMX := fun W v1 v2 v3 (hW : Ext w W) (k1 : NV O W v1 X1) (k2 : NL O W v2 (digs X2)) (k3 : NV O W v3 X3) => yModExpN (hO.ext hW) k1 k2 k3 (by omega) (by omega) (show (digs X2).length ≤ 1000 from Nat.le_trans q2 (by omega))
  rw [hv2, hP.out] at HMX
  have hfull := rvL_full (digs P) (digits_digs P) m hdP (by rw [val_digs]; exact hdP)
  rw [val_digs] at hfull
  have hPd := digits_digs P
  have hPl : (digs P).length ≤ m := hdP
  have HF : Hid (_ = _) := hfull
  clear hfull hv2 hdP q1 q2 q3 g1 g2 g3 g1l g2l g3l
  generalize hlp : digs P = l at *
  clear hlp
  have hll : (l.length : Int) ≤ 64 := by omega
  go_enter Hvah.func144, Hvah.ntmps144
  go_wp2_with (first
    | (go_at_call 228; refine (yLengths hO hin).mono ?_; rintro e w1 ⟨rfl, he1⟩; rw [hL.out])
    | (go_at_call 230; with_reducible refine (HP1 _ he1).mono ?_; rintro e w2 ⟨r2, rfl, hr2, he2⟩; have hE2 := he1.trans he2)
    | (go_at_call 230; with_reducible refine (HP2 _ hE3).mono ?_; rintro e w4 ⟨r4, rfl, hr4, he4⟩; have hE4 := hE3.trans he4; replace hr3 := hr3.ext he4)
    | (go_at_call 230; with_reducible refine (HP3 _ hE5).mono ?_; rintro e w6 ⟨r6, rfl, hr6, he6⟩; have hE6 := hE5.trans he6; replace hr3 := hr3.ext he6; replace hr5 := hr5.ext he6)
    | (go_at_call_of 43 r2; refine (fromBE2 O O _ _ _ (hO.ext hE2) hr2).mono ?_; rintro e w3 ⟨r3, rfl, hr3, he3⟩; replace hr3 := hr3.castd hX1.out; have hE3 := hE2.trans he3)
    | (go_at_call_of 43 r4; refine (fromBE2 O O _ _ _ (hO.ext hE4) hr4).mono ?_; rintro e w5 ⟨r5, rfl, hr5, he5⟩; replace hr5 := hr5.castd hX2.out; have hE5 := hE4.trans he5; replace hr3 := hr3.ext he5)
    | (go_at_call_of 43 r6; refine (fromBE2 O O _ _ _ (hO.ext hE6) hr6).mono ?_; rintro e w7 ⟨r7, rfl, hr7, he7⟩; replace hr7 := hr7.castd hX3.out; have hE7 := hE6.trans he7; replace hr3 := hr3.ext he7; replace hr5 := hr5.ext he7)
    | (go_at_call 231; refine (HMX _ _ _ _ hE7 hr3.nv hr5 hr7.nv).mono ?_; rintro e w8 ⟨r8, rfl, hr8, he8⟩; have hE8 := hE7.trans he8; obtain ⟨o8, c8, h81, h82, h83, h84⟩ := hr8; subst h81)
    | (at_make; refine wl_make_bytesK Hvah.underlying23 .u64 .u64 m rfl rfl (by omega) ?_))
  have HA : ∀ k W, k < l.length → Ext w8 W → ∃ b off, o8 = some ⟨b, off, none⟩ ∧ W.cell? ⟨b, off + k, none⟩ = some (.int .u8 ((l.getD k 0 : Nat) : Int)) := fun k W hk hW => by
    obtain ⟨b, off, e, _, hb, hc⟩ := h84.spot (fun q => by rw [q] at hk; cases hk)
    exact ⟨b, off, e, by rw [hW.rc _ _ hb, hc k hk]; simp [List.getD, hk]⟩
  go_loopw [55] (fun ix wr => ∃ k, k ≤ l.length ∧ ix = .int .i64 (k : Nat) ∧ Ext w8 wr ∧ wr.heap[w8.heap.size]? = some (.cells (bcells (rvL l m k)).toArray 5 (0, 0))) (fun ix _ => l.length - (intOf ix).toNat)
  case atStart => exact ⟨0, by omega, rfl, (Ext.refl _).alloc _ _, by rw [rvL_zero, heap_new]; rfl⟩
  case round =>
    obtain ⟨k, hk, rfl, hE, hC⟩ := hrel
    by_cases hlt : k < l.length
    · have hki : (k : Int) < l.length := by omega
      obtain ⟨bb, off, rfl, ck⟩ := HA k wr hlt hE
      have hlen := rvL_len l m k
      have kc := cell_row hC (m - 1 - k) (by rw [hlen]; omega)
      have kf := frozen_row hC (m - 1 - k)
      have hset := heap_setByte hC (m - 1 - k) (l.getD k 0)
      rw [rvL_set l m k (by omega)] at hset
      have hS := hE.setCell (p := ⟨w8.heap.size, m - 1 - k, none⟩) (Nat.le_refl _) (.int .u8 ((l.getD k 0 : Nat) : Int))
      generalize (rvL l m k)[m - 1 - k]'(by rw [hlen]; omega) = z at *
      generalize l.getD k 0 = D at *
      obtain ⟨t, ht⟩ : ∃ t, Hid (m - 1 - k = t) := ⟨_, rfl⟩
      rw [ht.out] at kc kf hset hS
      have i3 : (m : Int) - 1 - k = t := by have := ht.out; omega
      have i4 : (t : Int) < m := by have := ht.out; omega
      clear hC HA hlen
      go_wp2
      exact ⟨⟨k + 1, by omega, int_eq (by omega), hS, hset⟩, by simp [intOf]; omega⟩
    · have hkn : k = l.length := by omega
      have hki : ¬ (k : Int) < l.length := by omega
      rw [hkn, HF.out] at hC
      go_wp2
      go_ret
      refine ⟨_, rfl, ?_, hE8.trans hE⟩
      refine NL.row (t := 5) hC (digits_beL _ _) (fun hx => Nat.lt_irrefl _ (hO.ext hE8 _ hx)) (by rw [← HF.out, rvL_len]) (by omega)
end
end Go.Proofs.YgvahwGreat
