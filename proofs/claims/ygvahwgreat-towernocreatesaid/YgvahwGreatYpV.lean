import Derived.Test.YgvahwGreatYpL
import Derived.Test.YgvahwGreatAluP
namespace Go.Proofs.YgvahwGreat
open Go.RowKit
section
variable {O : Nat → Prop} {w : World} {v u : Value} {x y : Nat}
theorem nBit (h : NV O w v x) (i : Nat) (hi : i < 65536) : Calls Hvah.prog 339 #[v, .int .u16 i] w fun e w' => e = .returned (.bool (x.testBit i)) ∧ w' = w := by
  obtain ⟨l, h1, rfl⟩ := h
  exact bit_nl O v l i w h1 hi
theorem nPow2 (hO : Small O w) (k : Nat) (hk : k < 65536) : Calls Hvah.prog 405 #[.int .u16 k] w fun e w' => ∃ r, e = .returned r ∧ NV O w' r (2 ^ k) ∧ Ext w w' := by
  refine (pow2_nl O k w hO hk).mono ?_
  rintro e w' ⟨r, l, rfl, h1, h2, h3⟩
  exact ⟨r, rfl, ⟨l, h1, h2⟩, h3⟩
theorem dg_set (f : Nat → Nat) (k d : Nat) (hk : k < 32) (hd : d = f k) : (dgL f k ++ List.replicate (32 - k) 0).set k d = dgL f (k + 1) ++ List.replicate (32 - (k + 1)) 0 := by
  rw [List.set_append_right _ _ (by rw [dgL_len]; exact Nat.le_refl _), dgL_len, Nat.sub_self, dgL_succ, show 32 - k = (32 - (k + 1)) + 1 by omega, List.replicate_succ, List.set_cons_zero, hd]
  simp
theorem bw_round {w wr : World} {f : Nat → Nat} {k : Nat} (hlt : k < 32) (hE : Ext w wr) (hC : wr.heap[w.heap.size]? = some (.cells (bcells (dgL f k ++ List.replicate (32 - k) 0)).toArray 5 (0, 0))) (hst : ∀ d, d = f k → (dgL f k ++ List.replicate (32 - k) 0).set k d = dgL f (k + 1) ++ List.replicate (32 - (k + 1)) 0) (X : Int) (hX : X = ((f k : Nat) : Int)) :
    (∃ k1, k1 ≤ 32 ∧ Value.int .i64 ((k : Int) + 1) = .int .i64 (k1 : Nat) ∧ Ext w (wr.setCell ⟨w.heap.size, k, none⟩ (.int .u8 X)) ∧ (wr.setCell ⟨w.heap.size, k, none⟩ (.int .u8 X)).heap[w.heap.size]? = some (.cells (bcells (dgL f k1 ++ List.replicate (32 - k1) 0)).toArray 5 (0, 0))) ∧ 32 - (intOf (.int .i64 ((k : Int) + 1))).toNat < 32 - (intOf (.int .i64 (k : Int))).toNat := by
  subst hX
  refine ⟨⟨k + 1, by omega, int_eq (by omega), hE.setCell (p := ⟨w.heap.size, k, none⟩) (Nat.le_refl _) _, ?_⟩, by simp [intOf]; omega⟩
  rw [heap_setByte hC, hst _ rfl]
set_option maxRecDepth 100000 in
theorem xor255 (P : Nat) (h : P < 256) : bits .xor .u8 (if IntKind.u8.signed = true then -1 else IntKind.u8.max) (P : Int) = ((255 - P : Nat) : Int) := by
  have h1 : (if IntKind.u8.signed = true then (-1 : Int) else IntKind.u8.max) = ((255 : Nat) : Int) := by decide
  have h2 : ∀ p : Fin 256, 255 ^^^ p.val = 255 - p.val := by decide
  rw [h1, u8_xor_nat 255 P (by decide) h, h2 ⟨P, h⟩]
set_option maxRecDepth 100000 in
set_option maxHeartbeats 3200000 in
theorem yBitwise (o : Nat) (ho : o = 22 ∨ o = 23 ∨ o = 24 ∨ o = 25) (hO : Small O w) (h : NV O w v x) (g : NV O w u y) (hx : x < P256) (hy : y < P256) : Calls Hvah.prog 355 #[.int .u8 o, v, u] w fun e w' => ∃ r, e = .returned r ∧ NV O w' r (bitW o x y) ∧ Ext w w' := by
  obtain ⟨la, ⟨oa, ca, rfl, ha1, ha2, ha3⟩, rfl⟩ := h
  obtain ⟨lb, ⟨ob, cb, rfl, hb1, hb2, hb3⟩, rfl⟩ := g
  have hda := val_digit la ha3.lt
  have hdb := val_digit lb hb3.lt
  have hla : (la.length : Int) ≤ 140737488355328 := by omega
  have hlb : (lb.length : Int) ≤ 140737488355328 := by omega
  have hE0 : Ext w (w.alloc (.cells (zrow 32) 5)) := (Ext.refl w).alloc _ _
  have HA : ∀ k W, k < la.length → Ext w W → ∃ b off, oa = some ⟨b, off, none⟩ ∧ W.cell? ⟨b, off + k, none⟩ = some (.int .u8 ((la.getD k 0 : Nat) : Int)) := fun k W hk hW => by
    obtain ⟨b, off, e, _, hb, hc⟩ := ha3.spot (fun q => by rw [q] at hk; cases hk)
    exact ⟨b, off, e, by rw [hW.rc _ _ hb, hc k hk]; simp [List.getD, hk]⟩
  have HB : ∀ k W, k < lb.length → Ext w W → ∃ b off, ob = some ⟨b, off, none⟩ ∧ W.cell? ⟨b, off + k, none⟩ = some (.int .u8 ((lb.getD k 0 : Nat) : Int)) := fun k W hk hW => by
    obtain ⟨b, off, e, _, hb, hc⟩ := hb3.spot (fun q => by rw [q] at hk; cases hk)
    exact ⟨b, off, e, by rw [hW.rc _ _ hb, hc k hk]; simp [List.getD, hk]⟩
  have hv := bitw_val o (val la) (val lb) hx hy
  have hlt := fun i => bwd_lt o (val la / 256 ^ i % 256) (val lb / 256 ^ i % 256) (Nat.mod_lt _ (by decide)) (Nat.mod_lt _ (by decide))
  have hfi : ∀ i, bwd o (val la / 256 ^ i % 256) (val lb / 256 ^ i % 256) = bwd o (la.getD i 0) (lb.getD i 0) := fun i => by rw [hda, hdb]
  have hga : ∀ i, la.getD i 0 < 256 := fun i => by rw [hda]; exact Nat.mod_lt _ (by decide)
  have hgb : ∀ i, lb.getD i 0 < 256 := fun i => by rw [hdb]; exact Nat.mod_lt _ (by decide)
  have hg0 : ∀ i, ¬ i < la.length → la.getD i 0 = 0 := fun i hi => by simp [List.getD, Nat.le_of_not_lt hi]
  have hg1 : ∀ i, ¬ i < lb.length → lb.getD i 0 = 0 := fun i hi => by simp [List.getD, Nat.le_of_not_lt hi]
  clear hda hdb ha3 hb3
  generalize hf : (fun i => bwd o (val la / 256 ^ i % 256) (val lb / 256 ^ i % 256)) = f at hv
  have hf2 : ∀ i, f i = bwd o (la.getD i 0) (lb.getD i 0) := fun i => by rw [← hf]; exact hfi i
  have hf3 : ∀ i, f i < 256 := fun i => by rw [← hf]; exact hlt i
  have hdig : ∀ k, Digits (dgL f k ++ List.replicate (32 - k) 0) := fun k d hd => by
    rcases List.mem_append.1 hd with hd | hd
    · simp only [dgL, List.mem_map] at hd
      obtain ⟨i, _, rfl⟩ := hd
      exact hf3 i
    · rw [List.eq_of_mem_replicate hd]; decide
  clear hf hfi hlt
  generalize hW : bitW o (val la) (val lb) = Z at *
  clear hW
  rcases ho with rfl | rfl | rfl | rfl
  all_goals
    go_enter Hvah.func355, Hvah.ntmps355
    go_wp2_with (at_make; refine wl_make_bytes Hvah.underlying109 32 rfl rfl (by decide) ?_)
    go_loopw [14] (fun ix wr => ∃ k, k ≤ 32 ∧ ix = .int .i64 (k : Nat) ∧ Ext w wr ∧ wr.heap[w.heap.size]? = some (.cells (bcells (dgL f k ++ List.replicate (32 - k) 0)).toArray 5 (0, 0))) (fun ix _ => 32 - (intOf ix).toNat)
    case atStart => exact ⟨0, by omega, rfl, hE0, by rw [heap_new]; rfl⟩
    case round =>
      obtain ⟨k, hk, rfl, hE, hC⟩ := hrel
      by_cases hlt : k < 32
      · have hki : (k : Int) < 32 := by omega
        have kc := cell_row hC k (by simp [dgL_len]; omega)
        have kf := frozen_row hC k
        have hset := fun d => heap_setByte hC k d
        have hfk := hf2 k
        have hPa := hga k
        have hPb := hgb k
        have hA0 := hg0 k
        have hB0 := hg1 k
        have hst := fun d (hd : d = f k) => dg_set f k d hlt hd
        have HAk := HA k wr
        have HBk := HB k wr
        clear HA HB hf2 hga hgb hg0 hg1
        have hgz : w.heap.size < wr.heap.size := (Array.getElem?_eq_some_iff.1 hC).1
        generalize (dgL f k ++ List.replicate (32 - k) 0)[k]'(by simp [dgL_len]; omega) = z at *
        generalize la.getD k 0 = P at *
        generalize lb.getD k 0 = Q at *
        by_cases h1 : k < la.length
        · have i1 : (k : Int) < la.length := by omega
          obtain ⟨b1, o1, rfl, c1⟩ := HAk h1 hE
          by_cases h2 : k < lb.length
          · have i2 : (k : Int) < lb.length := by omega
            obtain ⟨b2, o2, rfl, c2⟩ := HBk h2 hE
            clear HAk HBk
            go_wp2
            exact bw_round hlt hE hC hst _ (by rw [hfk]; first | exact u8_and_nat _ _ hPa hPb | exact u8_or_nat _ _ hPa hPb | exact u8_xor_nat _ _ hPa hPb | exact xor255 _ hPa)
          · have i2 : ¬ (k : Int) < lb.length := by omega
            have hq := hB0 h2
            clear HAk HBk
            subst hq
            go_wp2
            exact bw_round hlt hE hC hst _ (by rw [hfk]; first | exact u8_and_nat _ _ hPa hPb | exact u8_or_nat _ _ hPa hPb | exact u8_xor_nat _ _ hPa hPb | exact xor255 _ hPa)
        · have i1 : ¬ (k : Int) < la.length := by omega
          have hq := hA0 h1
          subst hq
          by_cases h2 : k < lb.length
          · have i2 : (k : Int) < lb.length := by omega
            obtain ⟨b2, o2, rfl, c2⟩ := HBk h2 hE
            clear HAk HBk
            go_wp2
            exact bw_round hlt hE hC hst _ (by rw [hfk]; first | exact u8_and_nat _ _ hPa hPb | exact u8_or_nat _ _ hPa hPb | exact u8_xor_nat _ _ hPa hPb | exact xor255 _ hPa)
          · have i2 : ¬ (k : Int) < lb.length := by omega
            have hq := hB0 h2
            clear HAk HBk
            subst hq
            go_wp2
            exact bw_round hlt hE hC hst _ (by rw [hfk]; first | exact u8_and_nat _ _ hPa hPb | exact u8_or_nat _ _ hPa hPb | exact u8_xor_nat _ _ hPa hPb | exact xor255 _ hPa)
      · have hk2 : k = 32 := by omega
        subst hk2
        have hN : NV O wr (.slice (some ⟨w.heap.size, 0, none⟩) 32 32) Z := ⟨_, NL.row hC (hdig 32) (fun hx => Nat.lt_irrefl _ (hO _ hx)) (by simp [dgL_len]) (by decide), by simpa using hv⟩
        go_wp2_with (go_at_call 132; refine (nNorm O _ _ _ (hO.ext hE) hN).mono ?_; rintro e w1 ⟨r, rfl, hr0, he⟩)
        go_ret
        exact ⟨r, rfl, hr0.nv, hE.trans he⟩
end
end Go.Proofs.YgvahwGreat
