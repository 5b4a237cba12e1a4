import Derived.Test.YgvahwGreatYpN
namespace Go.Proofs.YgvahwGreat
open Go.RowKit
theorem cut_eq (L : List Nat) (off n : Nat) : (L.drop off).take n ++ (List.replicate n 0).drop ((L.drop off).take n).length = cutA L off n := by
  by_cases h : n ≤ L.length - off
  · rw [cut_all h]
    have e : ((L.drop off).take n).length = n := by simp; omega
    have e2 : (List.replicate n 0).drop n = ([] : List Nat) := List.drop_of_length_le (by simp)
    rw [e, e2, List.append_nil]
  · rw [cut_part (by omega), List.take_of_length_le (by simp; omega)]
    simp
section
variable {O O' : Nat → Prop} {w : World} {v nv ov : Value} {L : List Nat} {n off : Nat}
set_option maxRecDepth 100000 in
set_option maxHeartbeats 800000 in
theorem yCut (hO : Small O w) (h : NL O' w v L) (ho : NV O w ov off) (hn : NV O w nv n) (hnl : n ≤ 717280) : Calls Hvah.prog 155 #[v, ov, nv] w fun e w' => ∃ r, e = .returned r ∧ NL O w' r (cutA L off n) ∧ Ext w w' := by
  obtain ⟨o, c, rfl, hc, hm, hb⟩ := h
  have hd := hb.lt
  have HS := ySmall hn
  rw [if_pos (show n < 18446744073709551616 by omega)] at HS
  have hE0 : Ext w (w.alloc (.cells (zrow n) 5)) := (Ext.refl w).alloc _ _
  have HP := yPlace (ho.ext hE0) L.length (by omega)
  have hni : (n : Int) ≤ 717280 := by omega
  have hLi : (L.length : Int) ≤ 140737488355328 := by omega
  have hcut : ∀ d ∈ cutA L off n, d < 256 := fun d hq => by
    unfold cutA at hq
    rcases List.mem_append.1 (List.mem_of_mem_take hq) with hq | hq
    · exact hd d (List.mem_of_mem_drop hq)
    · rw [List.eq_of_mem_replicate hq]; decide
  have hcl : (cutA L off n).length = n := by unfold cutA; simp
  by_cases hlt : off < L.length
  · rw [if_pos hlt, decide_eq_true hlt] at HP
    have hoi : (off : Int) < L.length := by omega
    obtain ⟨sb, sof, rfl, _, hsb, hcell⟩ := hb.spot (fun e => by rw [e] at hlt; cases hlt)
    by_cases hn0 : n = 0
    · subst hn0
      have e0 : cutA L off 0 = [] := by simp [cutA]
      rw [e0]
      go_enter Hvah.func155, Hvah.ntmps155
      go_wp2_with (first
        | (go_at_call 34; refine HS.mono ?_; rintro e w1 ⟨rfl, rfl⟩)
        | (at_make; refine wl_make_bytesK Hvah.underlying23 .u64 .u64 0 rfl rfl (by decide) ?_)
        | (go_at_call 145; refine HP.mono ?_; rintro e w2 ⟨rfl, rfl⟩)
        | ((with_reducible (refine Veil.out ?_; apply wl_copy0 Hvah.underlying23)); (case hd => rfl); (case hs => rfl); (case hl => simp)))
      go_ret
      exact ⟨_, rfl, ⟨_, 0, rfl, by simp, by decide, by simp, fun q => absurd rfl q⟩, hE0⟩
    · have hne : (L.drop off).take n ≠ [] := fun q => by
        have := congrArg List.length q
        simp at this; omega
      have hsrc : ∀ W, Ext w W → ∃ b o, (some ⟨sb, sof + off, none⟩ : Option Addr) = some ⟨b, o, none⟩ ∧ ∀ (i : Nat) (h : i < ((L.drop off).take n).length), W.cell? ⟨b, o + i, none⟩ = some (.int .u8 (((L.drop off).take n)[i] : Int)) := fun W hW => ⟨sb, sof + off, rfl, fun i hi => by
        have hi2 : off + i < L.length := by simp at hi; omega
        rw [hW.rc _ _ hsb, Nat.add_assoc, hcell _ hi2]
        simp⟩
      have hlm : ((L.drop off).take n).length = min (L.length - off) n := by simp; omega
      have hcq := cut_eq L off n
      have hlf : ((L.drop off).take n).length ≤ n := by simp; omega
      generalize (L.drop off).take n = D at *
      go_enter Hvah.func155, Hvah.ntmps155
      go_wp2_with (first
        | (go_at_call 34; refine HS.mono ?_; rintro e w1 ⟨rfl, rfl⟩)
        | (at_make; refine wl_make_bytesK Hvah.underlying23 .u64 .u64 n rfl rfl (by omega) ?_)
        | (go_at_call 145; refine HP.mono ?_; rintro e w2 ⟨rfl, rfl⟩)
        | ((with_reducible (refine Veil.out ?_; apply wl_copy_bytes Hvah.underlying23 (L := List.replicate n 0) (t := 5) (l := D))); (case hd => rfl); (case hs => rfl); (case hg => exact heap_new _ _); (case hl => exact hlm); (case hsrc => exact hsrc _ hE0); (case hfit => simpa using hlf); rw [hcq]))
      go_ret
      refine ⟨_, rfl, ?_, ((Ext.refl _).alloc _ _).setRow (Nat.le_refl _) _⟩
      refine NL.row (t := 5) ?_ hcut (fun hx => Nat.lt_irrefl _ (hO _ hx)) hcl (by omega)
      rw [setRow_heap _ _ _ _ _ _ (heap_new _ _)]
  · rw [if_neg hlt, decide_eq_false hlt] at HP
    have e0 : cutA L off n = List.replicate n 0 := by
      rw [cut_part (by omega), List.drop_of_length_le (by omega), show L.length - off = 0 by omega]; simp
    rw [e0]
    go_enter Hvah.func155, Hvah.ntmps155
    go_wp2_with (first
      | (go_at_call 34; refine HS.mono ?_; rintro e w1 ⟨rfl, rfl⟩)
      | (at_make; refine wl_make_bytesK Hvah.underlying23 .u64 .u64 n rfl rfl (by omega) ?_)
      | (go_at_call 145; refine HP.mono ?_; rintro e w2 ⟨rfl, rfl⟩))
    go_ret
    refine ⟨_, rfl, ?_, hE0⟩
    refine NL.row (t := 5) (heap_new _ _) (fun d hq => by rw [List.eq_of_mem_replicate hq]; decide) (fun hx => Nat.lt_irrefl _ (hO _ hx)) (by simp) (by omega)
/-- read. -/
theorem yRead {F q nn : Nat} {t : TypeId} {c : Nat → Value} (hB : Blk w F nn t c) (hq : q + 60 ≤ nn) (hO : Small O w) (h : NL O' w (c (q + 9)) L) (ho : NV O w ov off) (hn : NV O w nv n) (hnl : n ≤ 717280) : Calls Hvah.prog 72 #[.pointer (some ⟨F, q, none⟩), ov, nv] w fun e w' => ∃ r, e = .returned r ∧ NL O w' r (readA L off n) ∧ Ext w w' := by
  have HZ := nIsZero O nv n w hn
  have k9 : ∀ W, Ext w W → W.cell? ⟨F, q + 9, none⟩ = some (c (q + 9)) := fun W hW => (hB.ext hW).cell (by omega)
  have HC := fun W (hW : Ext w W) => yCut (hO.ext hW) (h.ext hW) (ho.ext hW) (hn.ext hW) hnl
  generalize c (q + 9) = v at *
  by_cases h0 : n = 0
  · rw [decide_eq_true h0] at HZ
    have e0 : readA L off n = [] := by simp [readA, h0]
    rw [e0]
    clear h0
    go_enter Hvah.func72, Hvah.ntmps72
    go_wp2_with (go_at_call 88; refine HZ.mono ?_; rintro e w1 ⟨rfl, hd⟩; have he := drew_ext hd; clear hd)
    go_ret
    exact ⟨_, rfl, NL.nil, he⟩
  · rw [decide_eq_false h0] at HZ
    have e0 : readA L off n = cutA L off n := by simp [readA, h0]
    rw [e0]
    clear h0
    go_enter Hvah.func72, Hvah.ntmps72
    go_wp2_with (first | (go_at_call 88; refine HZ.mono ?_; rintro e w1 ⟨rfl, hd⟩; have he := drew_ext hd; clear hd; have kk := k9 w1 he) | (go_at_call 155; refine (HC _ he).mono ?_; rintro e w2 ⟨r, rfl, hr, he2⟩))
    go_ret
    exact ⟨r, rfl, hr, he.trans he2⟩
end
end Go.Proofs.YgvahwGreat
