import Derived.Test.YgvahwGreatMLb
namespace Go.Proofs.YgvahwGreat
open Go.RowKit
theorem words_max (a b : Nat) : max (wordsA a) (wordsA b) = wordsA (max a b) := by unfold wordsA; omega
set_option maxRecDepth 100000 in
set_option maxHeartbeats 800000 in
theorem mReach2 (o n o2 n2 : Nat) (w : World) (ho : o < P256) (hn : n < P256) (ho2 : o2 < P256) (hn2 : n2 < P256) :
    Calls Hvah.prog 371 #[wv o, wv n, wv o2, wv n2] w fun e w' => ∃ k : Nat, e = .returned (.tuple #[.int .u64 k, .bool (decide (max (endA o n) (endA o2 n2) ≤ 717280))]) ∧ (max (endA o n) (endA o2 n2) ≤ 717280 → k = wordsA (max (endA o n) (endA o2 n2))) ∧ Ext w w' := by
  have H1 := fun W => mReach o n W ho hn
  have H2 := fun W => mReach o2 n2 W ho2 hn2
  have hk1 : (if endA o n ≤ 717280 then wordsA (endA o n) else 0) ≤ 22415 := by unfold wordsA; split <;> omega
  have hk2 : (if endA o2 n2 ≤ 717280 then wordsA (endA o2 n2) else 0) ≤ 22415 := by unfold wordsA; split <;> omega
  have hdec : decide (max (endA o n) (endA o2 n2) ≤ 717280) = (decide (endA o n ≤ 717280) && decide (endA o2 n2 ≤ 717280)) := by
    rw [Bool.eq_iff_iff]; simp; omega
  have hval : Hid (max (endA o n) (endA o2 n2) ≤ 717280 → max (if endA o n ≤ 717280 then wordsA (endA o n) else 0) (if endA o2 n2 ≤ 717280 then wordsA (endA o2 n2) else 0) = wordsA (max (endA o n) (endA o2 n2))) := fun h => by
    rw [if_pos (by omega), if_pos (by omega), words_max]
  rw [hdec]
  clear hdec
  generalize (if endA o n ≤ 717280 then wordsA (endA o n) else 0) = k1 at *
  generalize (if endA o2 n2 ≤ 717280 then wordsA (endA o2 n2) else 0) = k2 at *
  generalize decide (endA o n ≤ 717280) = b1 at *
  generalize decide (endA o2 n2 ≤ 717280) = b2 at *
  obtain ⟨W0, hW0⟩ : ∃ W0, Hid (W0 = (((w.alloc (.cells (wvA o) 79)).alloc (.cells (wvA n) 79)).alloc (.cells (wvA o2) 79)).alloc (.cells (wvA n2) 79)) := ⟨_, rfl⟩
  have hE0 : Ext w W0 := by rw [hW0.out]; exact ((((Ext.refl w).alloc _ _).alloc _ _).alloc _ _).alloc _ _
  have HB : ∀ W, Ext W0 W → RowIn W w.heap.size 0 (wvA o) ∧ RowIn W (w.heap.size + 1) 0 (wvA n) ∧ RowIn W (w.heap.size + 2) 0 (wvA o2) ∧ RowIn W (w.heap.size + 3) 0 (wvA n2) := fun W hW => by
    rw [hW0.out] at hW
    have hA := boxes2 w (wvA o) (wvA n) 79 79 W ((((Ext.refl _).alloc _ _).alloc _ _).trans hW)
    have hC := boxes2 ((w.alloc (.cells (wvA o) 79)).alloc (.cells (wvA n) 79)) (wvA o2) (wvA n2) 79 79 W hW
    have e : ((w.alloc (.cells (wvA o) 79)).alloc (.cells (wvA n) 79)).heap.size = w.heap.size + 2 := by simp
    rw [e] at hC
    exact ⟨hA.1, hA.2, hC.1, hC.2⟩
  have hE : Ext W0 ((((w.alloc (.cells (wvA o) 79)).alloc (.cells (wvA n) 79)).alloc (.cells (wvA o2) 79)).alloc (.cells (wvA n2) 79)) := by rw [hW0.out]; exact Ext.refl _
  clear hW0
  have hmx : (max k1 k2 : Nat) ≤ 22415 := by omega
  have hmi : max (k1 : Int) k2 = ((max k1 k2 : Nat) : Int) := by omega
  cases b1 <;> cases b2
  all_goals
    go_enter Hvah.func371, Hvah.ntmps371
    go_wp2_with (first | ((with_reducible (refine Veil.out ?_; apply wl_box)); (case hx => rfl)) | ((with_reducible (refine Veil.out ?_; apply wl_loadW)); (case hx => rfl); (case hr => first | (with_reducible exact (HB _ hE).1) | (with_reducible exact (HB _ hE).2.1) | (with_reducible exact (HB _ hE).2.2.1) | (with_reducible exact (HB _ hE).2.2.2))) | (go_at_call_of 370 (wv o); refine (H1 _).mono ?_; rintro e w1 ⟨rfl, he⟩; replace hE := hE.trans he; clear he) | (go_at_call_of 370 (wv o2); refine (H2 _).mono ?_; rintro e w2 ⟨rfl, he⟩; replace hE := hE.trans he; clear he))
    go_ret2
    exact ⟨max k1 k2, by first | rfl | (rw [← hmi]; rfl), hval.out, hE0.trans hE⟩
end Go.Proofs.YgvahwGreat
