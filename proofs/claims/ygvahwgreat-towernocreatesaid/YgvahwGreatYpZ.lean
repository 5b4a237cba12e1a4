import Derived.Test.YgvahwGreatYpT
import Derived.Test.YgvahwGreatAluP
namespace Go.Proofs.YgvahwGreat
open Go.RowKit
/-- The bytes that addrOf has laid behind k rounds. -/
def adL (l : List Nat) (k : Nat) : List Nat := (List.range 20).map fun j => if 19 - j < k then l.getD (19 - j) 0 else 0
theorem adL_len (l : List Nat) (k : Nat) : (adL l k).length = 20 := by simp [adL]
theorem adL_set (l : List Nat) (k : Nat) (hk : k < 20) : (adL l k).set (19 - k) (l.getD k 0) = adL l (k + 1) := by
  apply List.ext_getElem
  · simp [adL]
  · intro i h1 h2
    rw [List.getElem_set]
    simp only [adL, List.getElem_map, List.getElem_range]
    have hi : i < 20 := by simpa [adL] using h2
    by_cases e : 19 - k = i
    · rw [if_pos e, if_pos (by omega), show 19 - i = k by omega]
    · rw [if_neg e]
      by_cases e2 : 19 - i < k
      · rw [if_pos e2, if_pos (by omega)]
      · rw [if_neg e2, if_neg (by omega)]
theorem adL_zero (l : List Nat) : adL l 0 = List.replicate 20 0 := by rfl
theorem adL_full (l : List Nat) (hd : Digits l) (k : Nat) (hk : k = 20 ∨ l.length ≤ k) : adL l k = beL 20 (addrA (val l)) := by
  have hget : ∀ i, l.getD i 0 = val l / 256 ^ i % 256 := val_digit l hd
  have he : adL l k = (List.range 20).map fun j => val l / 256 ^ (19 - j) % 256 := by
    unfold adL
    apply List.map_congr_left
    intro j hj
    simp at hj
    by_cases h : 19 - j < k
    · rw [if_pos h, hget]
    · rw [if_neg h, ← hget]
      simp only [List.getD, List.getElem?_eq_none (show l.length ≤ 19 - j by omega), Option.getD_none]
  have hlt : addrA (val l) < 2 ^ 160 := Nat.mod_lt _ (by decide)
  rw [he]
  refine bev_inj _ _ ?_ (digits_beL _ _) (by rw [len20 hlt]; simp) ?_
  · intro d hd
    simp only [List.mem_map] at hd
    obtain ⟨i, _, rfl⟩ := hd
    exact Nat.mod_lt _ (by decide)
  · rw [bev_beL]
    unfold bev
    have : ((List.range 20).map fun j => val l / 256 ^ (19 - j) % 256).reverse = dgL (fun i => val l / 256 ^ i % 256) 20 := by
      apply List.ext_getElem
      · simp [dgL]
      · intro i hi1 hi2
        have : i < 20 := by simpa using hi1
        simp only [dgL, List.getElem_reverse, List.getElem_map, List.getElem_range, List.length_map, List.length_range]
        rw [show 19 - (20 - 1 - i) = i by omega]
    rw [this, val_dgL]
    unfold addrA
    rw [show (2 : Nat) ^ 160 = 256 ^ 20 by decide]
section
variable {O : Nat → Prop} {w : World} {v : Value} {x : Nat}
set_option maxRecDepth 100000 in
set_option maxHeartbeats 1600000 in
theorem yAddrOf (h : NV O w v x) : Calls Hvah.prog 156 #[v] w fun e w' => e = .returned (.agg (av (addrA x))) ∧ Ext w w' := by
  obtain ⟨l, ⟨o, c, rfl, h1, h2, h3⟩, rfl⟩ := h
  have hlt := h3.lt
  have hll : (l.length : Int) ≤ 140737488355328 := by omega
  have HA : ∀ k W, k < l.length → Ext w W → ∃ b off, o = some ⟨b, off, none⟩ ∧ W.cell? ⟨b, off + k, none⟩ = some (.int .u8 ((l.getD k 0 : Nat) : Int)) := fun k W hk hW => by
    obtain ⟨b, off, e, _, hb, hc⟩ := h3.spot (fun q => by rw [q] at hk; cases hk)
    exact ⟨b, off, e, by rw [hW.rc _ _ hb, hc k hk]; simp [List.getD, hk]⟩
  have hfull := adL_full l hlt
  have hsz : (av (addrA (val l))).size = 20 := av_size (Nat.mod_lt _ (by decide))
  have hE0 := ext2 w (zrow 20) (zrow 20) 31 31
  have hc1 : ((w.alloc (.cells (zrow 20) 31)).alloc (.cells (zrow 20) 31)).heap[w.heap.size]? = some (.cells (zrow 20) 31 (0, 0)) := ((Ext.refl _).alloc (zrow 20) 31).block w.heap.size (by simp) |>.trans (heap_new w _)
  go_enter Hvah.func156, Hvah.ntmps156
  go_wp2
  go_loopw [4] (fun ix wr => ∃ k, k ≤ 20 ∧ k ≤ l.length ∧ ix = .int .i64 (k : Nat) ∧ Ext w wr ∧ wr.heap[w.heap.size]? = some (.cells (zrow 20) 31 (0, 0)) ∧ wr.heap[w.heap.size + 1]? = some (.cells (bcells (adL l k)).toArray 31 (0, 0))) (fun ix _ => 20 - (intOf ix).toNat)
  case atStart => exact ⟨0, by omega, by omega, rfl, hE0, hc1, by
    rw [adL_zero]
    have := heap_new (w.alloc (.cells (zrow 20) 31)) (.cells (zrow 20) 31)
    rw [show (w.alloc (.cells (zrow 20) 31)).heap.size = w.heap.size + 1 by simp] at this
    exact this⟩
  case round =>
    obtain ⟨k, hk, hkl, rfl, hE, hC1, hC⟩ := hrel
    have hki : (k : Int) ≤ 20 := by omega
    by_cases hlt2 : k < l.length ∧ k < 20
    · have i1 : (k : Int) < l.length := by omega
      have i2 : (k : Int) < 20 := by omega
      obtain ⟨b, off, rfl, ck⟩ := HA k wr hlt2.1 hE
      have kc := cell_row hC (19 - k) (by rw [adL_len]; omega)
      have kf := frozen_row hC (19 - k)
      have hset := heap_setByte hC (19 - k) (l.getD k 0)
      rw [adL_set l k hlt2.2] at hset
      have hS := hE.setCell (p := ⟨w.heap.size + 1, 19 - k, none⟩) (by simp) (.int .u8 ((l.getD k 0 : Nat) : Int))
      have hC2 : (wr.setCell ⟨w.heap.size + 1, 19 - k, none⟩ (.int .u8 ((l.getD k 0 : Nat) : Int))).heap[w.heap.size]? = some (.cells (zrow 20) 31 (0, 0)) := (Below.heap_setCell _ _ _ _ (by simp)).trans hC1
      generalize (adL l k)[19 - k]'(by rw [adL_len]; omega) = z at *
      generalize l.getD k 0 = P at *
      obtain ⟨m, hm⟩ : ∃ m, Hid (19 - k = m) := ⟨_, rfl⟩
      rw [hm.out] at kc kf hset hS hC2
      have i3 : (19 : Int) - k = m := by have := hm.out; omega
      have i4 : (m : Int) < 20 := by have := hm.out; omega
      clear hC HA
      go_wp2
      exact ⟨⟨k + 1, by omega, by omega, int_eq (by omega), hS, hC2, hset⟩, by simp [intOf]; omega⟩
    · have hf := hfull k (by omega)
      rw [hf] at hC
      have hR : RowIn wr (w.heap.size + 1) 0 (av (addrA (val l))) := fun i u hu => by simpa [World.cell?, hC, av] using hu
      have hth : wr.there w.heap.size 0 20 := fun j hj => by
        constructor
        · simp [World.cell?, hC1, zrow, bcells]; omega
        · simp [World.frozen?, hC1]
      by_cases h6 : k < l.length
      · have i1 : (k : Int) < l.length := by omega
        have i2 : ¬ (k : Int) < 20 := by omega
        go_wp2_with (first | ((with_reducible (refine Veil.out ?_; apply wl_loadR rt25)); (case hx => rfl); (case hr => exact hR); (case hn => exact hsz)) | ((with_reducible (refine Veil.out ?_; apply wl_storeR rt25)); (case hx => rfl); (case hy => rfl); (case hn => exact hsz); (case hth => exact hth); (case h1 => exact av_one _); refine w_gen (fun W => Ext w W ∧ RowIn W w.heap.size 0 (av (addrA (val l)))) ⟨ext_setRow hE (Nat.le_refl _), row_set (by rw [hsz]; exact hth)⟩ ?_; rintro W5 ⟨hE5, hR5⟩))
        exact post_row rt25 _ hsz Hvah.results156 rfl hR5 rfl ⟨rfl, hE5⟩
      · have i1 : ¬ (k : Int) < l.length := by omega
        go_wp2_with (first | ((with_reducible (refine Veil.out ?_; apply wl_loadR rt25)); (case hx => rfl); (case hr => exact hR); (case hn => exact hsz)) | ((with_reducible (refine Veil.out ?_; apply wl_storeR rt25)); (case hx => rfl); (case hy => rfl); (case hn => exact hsz); (case hth => exact hth); (case h1 => exact av_one _); refine w_gen (fun W => Ext w W ∧ RowIn W w.heap.size 0 (av (addrA (val l)))) ⟨ext_setRow hE (Nat.le_refl _), row_set (by rw [hsz]; exact hth)⟩ ?_; rintro W5 ⟨hE5, hR5⟩))
        exact post_row rt25 _ hsz Hvah.results156 rfl hR5 rfl ⟨rfl, hE5⟩
end
end Go.Proofs.YgvahwGreat
