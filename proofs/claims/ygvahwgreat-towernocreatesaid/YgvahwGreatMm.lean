import Derived.Test.YgvahwGreatMl
namespace Go.Proofs.YgvahwGreat
open Go.RowKit
set_option maxRecDepth 100000 in
set_option maxHeartbeats 1600000 in
theorem mCopied (O : Nat → Prop) (v : Value) (l : List Nat) (w : World) (hO : Small O w) (h : NL O w v l) :
    Calls Hvah.prog 269 #[v] w fun e w' => ∃ r, e = .returned r ∧ NL O w' r l ∧ Ext w w' := by
  obtain ⟨o, c, rfl, hc, hm, hb⟩ := h
  have hd := hb.lt
  by_cases hne : l = []
  · subst hne
    go_enter Hvah.func269, Hvah.ntmps269
    go_wp2
    go_ret
    exact ⟨_, rfl, NL.nil, Ext.refl _⟩
  · have hl : ((l.length : Int) == 0) = false := by
      have := List.length_pos_iff.2 hne
      simp; omega
    have hle : l.length ≤ 140737488355328 := by omega
    go_enter Hvah.func269, Hvah.ntmps269
    go_wp2_with (first
      | (at_make; refine wl_make_bytes Hvah.underlying23 l.length rfl rfl hle ?_)
      | ((with_reducible (refine Veil.out ?_; apply wl_copy_bytes Hvah.underlying23 (L := List.replicate l.length 0) (t := 5) (l := l))); (case hd => rfl); (case hs => rfl); (case hg => exact heap_new _ _); (case hl => simp); (case hsrc => exact (hb.ext ((Ext.refl _).alloc _ _)).src hne); (case hfit => simp)))
    go_ret
    refine ⟨_, rfl, ?_, ((Ext.refl _).alloc _ _).setRow (Nat.le_refl _) _⟩
    refine NL.row (t := 5) ?_ hd (fun hx => Nat.lt_irrefl _ (hO _ hx)) rfl hle
    rw [setRow_heap _ _ _ _ _ _ (heap_new _ _)]
set_option maxRecDepth 100000 in
set_option maxHeartbeats 1600000 in
theorem eCopied (O : Nat → Prop) (v : Value) (l : List Nat) (w : World) (hO : Small O w) (h : NL O w v l) :
    Calls Hvah.prog 113 #[v] w fun e w' => ∃ r, e = .returned r ∧ NL O w' r l ∧ Ext w w' := by
  obtain ⟨o, c, rfl, hc, hm, hb⟩ := h
  have hd := hb.lt
  by_cases hne : l = []
  · subst hne
    go_enter Hvah.func113, Hvah.ntmps113
    go_wp2
    go_ret
    exact ⟨_, rfl, NL.nil, Ext.refl _⟩
  · have hl : ((l.length : Int) == 0) = false := by
      have := List.length_pos_iff.2 hne
      simp; omega
    have hle : l.length ≤ 140737488355328 := by omega
    go_enter Hvah.func113, Hvah.ntmps113
    go_wp2_with (first
      | (at_make; refine wl_make_bytes Hvah.underlying23 l.length rfl rfl hle ?_)
      | ((with_reducible (refine Veil.out ?_; apply wl_copy_bytes Hvah.underlying23 (L := List.replicate l.length 0) (t := 5) (l := l))); (case hd => rfl); (case hs => rfl); (case hg => exact heap_new _ _); (case hl => simp); (case hsrc => exact (hb.ext ((Ext.refl _).alloc _ _)).src hne); (case hfit => simp)))
    go_ret
    refine ⟨_, rfl, ?_, ((Ext.refl _).alloc _ _).setRow (Nat.le_refl _) _⟩
    refine NL.row (t := 5) ?_ hd (fun hx => Nat.lt_irrefl _ (hO _ hx)) rfl hle
    rw [setRow_heap _ _ _ _ _ _ (heap_new _ _)]
end Go.Proofs.YgvahwGreat
