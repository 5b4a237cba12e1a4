import Derived.Test.YgvahwGreatYpM
import Derived.Test.YgvahwGreatMemD
namespace Go.Proofs.YgvahwGreat
open Go.RowKit
section
variable {O : Nat → Prop} {w : World} {v : Value} {l : List Nat}
set_option maxRecDepth 100000 in
theorem yBytesOf (hO : Small O w) (h : NL O w v l) : Calls Hvah.prog 36 #[v] w fun e w' => ∃ r, e = .returned r ∧ NL O w' r l ∧ Ext w w' := by
  obtain ⟨o, c, rfl, hc, hm, hb⟩ := h
  have hd := hb.lt
  have hle : l.length ≤ 140737488355328 := by omega
  have hnil := fun W => Lib.run_eql_slice_nil (P := Hvah.prog) W 23 5 o l.length c 0 0 Hvah.underlying23
  cases o with
  | none =>
    have hl : l = [] := by
      apply Decidable.byContradiction
      intro hne
      obtain ⟨b, off, q, _⟩ := hb.spot hne
      cases q
    subst hl
    simp only [List.length_nil] at hnil
    go_enter Hvah.func36, Hvah.ntmps36
    go_wp2
    go_ret
    exact ⟨_, rfl, NL.nil, Ext.refl _⟩
  | some ad =>
    by_cases hne : l = []
    · subst hne
      simp only [List.length_nil] at hnil
      go_enter Hvah.func36, Hvah.ntmps36
      go_wp2_with (first
        | (at_make; refine wl_make_bytes Hvah.underlying23 0 rfl rfl hle ?_)
        | ((with_reducible (refine Veil.out ?_; apply wl_copy0 Hvah.underlying23)); (case hd => rfl); (case hs => rfl); (case hl => rfl)))
      go_ret
      exact ⟨_, rfl, ⟨_, 0, rfl, by simp, by decide, by simp, fun q => absurd rfl q⟩, (Ext.refl _).alloc _ _⟩
    · go_enter Hvah.func36, Hvah.ntmps36
      go_wp2_with (first
        | (at_make; refine wl_make_bytes Hvah.underlying23 l.length rfl rfl hle ?_)
        | ((with_reducible (refine Veil.out ?_; apply wl_copy_bytes Hvah.underlying23 (L := List.replicate l.length 0) (t := 5) (l := l))); (case hd => rfl); (case hs => rfl); (case hg => exact heap_new _ _); (case hl => simp); (case hsrc => exact (hb.ext ((Ext.refl _).alloc _ _)).src hne); (case hfit => simp)))
      go_ret
      refine ⟨_, rfl, ?_, ((Ext.refl _).alloc _ _).setRow (Nat.le_refl _) _⟩
      refine NL.row (t := 5) ?_ hd (fun hx => Nat.lt_irrefl _ (hO _ hx)) rfl hle
      rw [setRow_heap _ _ _ _ _ _ (heap_new _ _)]
end
end Go.Proofs.YgvahwGreat
