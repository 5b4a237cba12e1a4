import Derived.Test.YgvahwGreatVaultI
namespace Go.Proofs.YgvahwGreat
open Go.RowKit
attribute [local go_sem] wv_fold

/-- A copy; nil if it is empty. -/
theorem vCopied (O : Nat → Prop) (v : Value) (l : List Nat) (w : World) (hO : Small O w) (h : NL O w v l) :
    Calls Hvah.prog 86 #[v] w fun e w' => ∃ r, e = .returned r ∧ NL O w' r l ∧ Ext w w' := by
  obtain ⟨o, c, rfl, hc, hm, hb⟩ := h
  have hd := hb.lt
  by_cases hne : l = []
  · subst hne
    go_enter Hvah.func86, Hvah.ntmps86
    go_wp2
    go_ret
    exact ⟨_, rfl, NL.nil, Ext.refl _⟩
  · have hl : ((l.length : Int) == 0) = false := by
      have := List.length_pos_iff.2 hne
      simp; omega
    have hle : l.length ≤ 140737488355328 := by omega
    go_enter Hvah.func86, Hvah.ntmps86
    go_wp2_with (first
      | (at_make; refine wl_make_bytes Hvah.underlying23 l.length rfl rfl hle ?_)
      | ((with_reducible (refine Veil.out ?_; apply wl_copy_bytes Hvah.underlying23 (L := List.replicate l.length 0) (t := 5) (l := l))); (case hd => rfl); (case hs => rfl); (case hg => exact heap_new _ _); (case hl => simp); (case hsrc => exact (hb.ext ((Ext.refl _).alloc _ _)).src hne); (case hfit => simp)))
    go_ret
    refine ⟨_, rfl, ?_, ((Ext.refl _).alloc _ _).setRow (Nat.le_refl _) _⟩
    refine NL.row (t := 5) ?_ hd (fun hx => Nat.lt_irrefl _ (hO _ hx)) rfl hle
    rw [setRow_heap _ _ _ _ _ _ (heap_new _ _)]
section
variable {own : Nat → Nat} {w : World} {g : Nat} {c : Nat → Value} {V : EV} {a : Nat}
theorem VRep.small (h : VRep own w g c V) : Small (Mu own) w := fun b hb => by
  rcases Nat.lt_or_ge b w.heap.size with h1 | h1
  · exact h1
  · exact absurd (h.fresh b h1) hb
set_option maxRecDepth 100000 in
theorem vRoom (h : VRep own w g c V) : Calls Hvah.prog 179 #[.pointer (some ⟨g, 2435, none⟩)] w fun e w' => e = .returned (.bool (decide (V.journal.length < 65536))) ∧ w' = w := by
  obtain ⟨o, cap, hv⟩ : ∃ o cap, c 10629 = .slice o V.journal.length cap := by
    rcases h.jrn with ⟨q1, q2⟩ | ⟨b, cap, c3, q1, _⟩
    · have : V.journal.length = 0 := by rw [← List.length_reverse, q1]; rfl
      rw [this, q2]; exact ⟨none, 0, rfl⟩
    · rw [List.length_reverse] at q1; exact ⟨_, _, q1⟩
  have k0 := h.blk.cell (i := 10629) (by omega)
  rw [hv] at k0
  generalize V.journal.length = n at *
  go_enter Hvah.func179, Hvah.ntmps179
  go_wp2
  go_ret
  have e : decide ((n : Int) < 65536) = decide (n < 65536) := by
    by_cases h1 : n < 65536
    · rw [decide_eq_true h1, decide_eq_true (by omega)]
    · rw [decide_eq_false h1, decide_eq_false (by omega)]
  rw [← e]
  exact ⟨rfl, rfl⟩
theorem vRefund (h : VRep own w g c V) : Calls Hvah.prog 122 #[.pointer (some ⟨g, 2435, none⟩)] w fun e w' => e = .returned (.int .u64 (V.ref : Nat)) ∧ w' = w := by
  have k0 := h.blk.cell (i := 27015) (by omega)
  rw [h.ref] at k0
  go_enter Hvah.func122, Hvah.ntmps122
  go_wp2
  go_ret
  exact ⟨rfl, rfl⟩
set_option maxRecDepth 100000 in
set_option maxHeartbeats 800000 in
theorem vEmpty {x : EAcct} {b o n : Nat} {t : TypeId} {c2 : Nat → Value} (hb : Blk w b n t c2) (hA : AcctC (Mu own) w c2 o x) (hn : o + 29 ≤ n) :
    Calls Hvah.prog 82 #[.pointer (some ⟨b, o, none⟩)] w fun e w' => e = .returned (.bool (decide (x.nonce = 0 ∧ x.bal = 0 ∧ x.code = []))) ∧ Ext w w' := by
  have k1 := hb.cell (i := o + 20) (by omega)
  rw [hA.nonce] at k1
  obtain ⟨q0, q1, q2, q3⟩ := hA.bal.cells hb (by omega)
  have k2 := hb.cell (i := o + 25) (by omega)
  obtain ⟨s, cp, hs, hc, hm, _⟩ := hA.code
  rw [hs] at k2
  have HZ := fun W => uIsZero x.bal W hA.bLt
  obtain ⟨z, hz⟩ : ∃ z, Hid (decide (x.bal = 0) = z) := ⟨_, (rfl : decide (x.bal = 0) = _)⟩
  obtain ⟨N, hN⟩ : ∃ N, Hid (x.nonce = N) := ⟨_, (rfl : x.nonce = _)⟩
  obtain ⟨m, hM⟩ : ∃ m, Hid (x.code.length = m) := ⟨_, (rfl : x.code.length = _)⟩
  rw [hz.out] at HZ
  rw [hN.out] at k1
  rw [hM.out] at k2 hs
  have hR : Hid (decide (x.nonce = 0 ∧ x.bal = 0 ∧ x.code = []) = (((N : Int) == 0) && (z && ((m : Int) == 0)))) := by
    unfold Hid
    rw [← hN.out, ← hz.out, ← hM.out]
    rw [Bool.eq_iff_iff, decide_eq_true_iff, Bool.and_eq_true, Bool.and_eq_true, decide_eq_true_iff, beq_iff_eq, beq_iff_eq]
    constructor
    · rintro ⟨p1, p2, p3⟩; exact ⟨by omega, p2, by rw [p3]; rfl⟩
    · rintro ⟨p1, p2, p3⟩; exact ⟨by omega, p2, List.length_eq_zero_iff.1 (by omega)⟩
  rw [hR.out]
  clear hR
  by_cases h1 : ((N : Int) == 0) = true
  · cases z
    · go_enter Hvah.func82, Hvah.ntmps82
      go_wp2_with (first | (go_at_call 87; refine (HZ _).mono ?_; rintro e w1 ⟨rfl, he⟩; have hrc := he.rc; have hlt := hb.lt))
      go_ret
      exact ⟨by simp, he⟩
    · go_enter Hvah.func82, Hvah.ntmps82
      go_wp2_with (first | (go_at_call 87; refine (HZ _).mono ?_; rintro e w1 ⟨rfl, he⟩; have hrc := he.rc; have hlt := hb.lt))
      go_ret
      exact ⟨by simp [h1], he⟩
  · have h1' : ((N : Int) == 0) = false := by simpa using h1
    clear h1
    go_enter Hvah.func82, Hvah.ntmps82
    go_wp2
    go_ret
    exact ⟨by simp [h1'], Ext.refl _⟩
end
end Go.Proofs.YgvahwGreat
