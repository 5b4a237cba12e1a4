import Derived.Test.YgvahwGreatIh
import Derived.Test.YgvahwGreatPr
import Derived.Test.YgvahwGreatLd
namespace Go.Proofs.YgvahwGreat
open Go.RowKit
set_option linter.unusedSimpArgs false

def z76 (P : Program) : Array Value := (zeroOf P 89).getD #[]
set_option maxRecDepth 100000 in
theorem z76E : zeroOf Hvah.prog 89 = some (z76 Hvah.prog) := by
  have h : (zeroOf Hvah.prog 89).isSome = true := by kernel_rfl
  unfold z76
  cases hq : zeroOf Hvah.prog 89 with
  | none => rw [hq] at h; cases h
  | some z => rfl
set_option maxRecDepth 100000 in
theorem z76s : (z76 Hvah.prog).size = 2435 := by kernel_rfl
def pl76 : List (Nat × Nat) := [(0, 1), (1, 10), (11, 1792), (1803, 455), (2258, 1), (2259, 1), (2260, 120), (2380, 20), (2400, 4), (2404, 1), (2405, 1), (2406, 1), (2407, 1), (2408, 1), (2409, 4), (2413, 1), (2414, 1), (2415, 20)]
set_option maxRecDepth 100000 in
theorem pl76E : placesOf Hvah.prog 89 = some pl76 := by kernel_rfl
theorem fits76 {r : Array Value} (hr : r.size = 120) (p : Option Addr) : fits pl76 (z76 Hvah.prog).size [(0, .pointer p), (4, .int .i8 (-1)), (6, .agg r)] := by
  rw [z76s]
  exact ⟨0, 1, rfl, rfl, by decide, 2258, 1, rfl, rfl, by decide, 2260, 120, rfl, hr, by decide, trivial⟩
theorem cells76 {r : Array Value} (p : Option Addr) (c : Nat → Value) : bldc c (partsA pl76 [(0, .pointer p), (4, .int .i8 (-1)), (6, .agg r)]) = layv (updv (updv c 0 (.pointer p)) 2258 (.int .i8 (-1))) 2260 r := by
  simp only [partsA, List.map_cons, List.map_nil, bldc, one_cells (show (Value.pointer p).oneCell' = true from rfl), one_cells (show (Value.int .i8 (-1)).oneCell' = true from rfl), one_agg]
  show layv (layv (layv c 0 #[.pointer p]) 2258 #[.int .i8 (-1)]) 2260 r = _
  rw [layv_one, layv_one]
section
variable {O : Nat → Prop} {w : World} {r : Array Value} {e : AEnv} {p : Option Addr}
/-- What mach.New leaves. -/
structure NewM (O : Nat → Prop) (w : World) (B : Nat) (cB : Nat → Value) (p : Option Addr) (e : AEnv) : Prop where
  blk : Blk w B 2435 89 cB
  ptr : cB 0 = .pointer p
  top : cB 2258 = .int .i8 (-1)
  env : EnvC O w cB 2260 e
  rest : ∀ i, i < 2435 → i ≠ 0 → i ≠ 2258 → (i < 2260 ∨ 2380 ≤ i) → cB i = cf (z76 Hvah.prog) i
theorem newM_of {B : Nat} {cB : Nat → Value} (hr : r.size = 120) (h : EnvI O w (cf r) e) (hf : e.hashes.length ≤ 4) (u : Value) (hb : Blk w B 2435 89 cB) (hc : ∀ i, i < 2435 → cB i = updv (layv (updv (updv (cf (z76 Hvah.prog)) 0 (.pointer p)) 2258 (.int .i8 (-1))) 2260 r) 2379 u i) (hu : WL O w u e.hashes) : NewM O w B cB p e where
  blk := hb
  ptr := by
    rw [hc 0 (by decide), updv_ne _ _ (by decide), layv_out _ _ _ (Or.inl (by decide)), updv_ne _ _ (by decide), updv_same]
  top := by
    rw [hc 2258 (by decide), updv_ne _ _ (by decide), layv_out _ _ _ (Or.inl (by decide)), updv_same]
  env := h.laid hf (fun j hj => by
    rw [hc _ (by omega), updv_ne _ _ (by omega), layv_in _ _ _ (by omega)]) (by rw [hc _ (by decide)]; rw [updv_same]; exact hu)
  rest := fun i h1 h2 h3 h4 => by
    rw [hc i h1, updv_ne _ _ (by omega), layv_out _ _ _ (by omega), updv_ne _ _ h3, updv_ne _ _ h2]
set_option maxRecDepth 100000 in
set_option maxHeartbeats 6400000 in
theorem mNew (hr : r.size = 120) (h : EnvI O w (cf r) e) (hf : e.hashes.length ≤ 4) (hO : ∀ b, O b → b < w.heap.size) : Calls Hvah.prog 39 #[.pointer p, .agg r] w fun x w' => ∃ B cB, x = .returned (.pointer (some ⟨B, 0, none⟩)) ∧ NewM O w' B cB p e ∧ w.heap.size ≤ B ∧ Ext w w' := by
  obtain ⟨ho, hcap, hhv, hh1, hh2⟩ := h.hashes.slice
  obtain ⟨n, hn⟩ : ∃ n, Hid (e.hashes.length = n) := ⟨_, rfl⟩
  rw [hn.out] at hhv hh1
  have hn4 : n ≤ 4 := by have := hn.out; omega
  rcases Nat.eq_zero_or_pos n with hn0 | hn0
  · subst hn0
    go_enter Hvah.func39, Hvah.ntmps39
    go_upto_region 3 with (first | ((with_reducible (refine Veil.out ?_; apply wl_boxB (t := 36))); (case hx => rfl); (case hn => exact hr); rintro B3 W3 e3 b3 g3) | ((with_reducible (refine Veil.out ?_; apply wl_loadRow rt31i)); (case hx => rfl); (case hB => exact b3); (case hi => decide); rw [rowOf_cf hr]) | ((with_reducible (refine Veil.out ?_; apply wl_buildB pl76E z76E [(0, .pointer p), (4, .int .i8 (-1)), (6, .agg r)])); (case he => go_simp); (case hf => exact fits76 hr p); rintro rM hM1 hM2) | ((with_reducible (refine Veil.out ?_; apply wl_boxB (t := 89))); (case hx => rfl); (case hn => exact hM1.trans z76s); rintro B W4 e4 b4 g4) | ((with_reducible (refine Veil.out ?_; apply wl_storeC one29i (v := Value.slice none 0 0))); (case hx => rfl); (case hy => rfl); (case h1 => rfl); (case hB => exact b4); (case hi => decide); rintro W5 b5 m5))
    have n3 : ¬ B3 = B := fun q => by have := b3.lt; omega
    have gB : w.heap.size ≤ B := Nat.le_trans e3.size g4
    have eA : Ext W3 W5 := Ext.trans_mod e4 m5 (fun q hq => by have hq2 : q = B := hq; rw [hq2]; exact g4)
    have b35 := b3.ext eA
    have hcM : ∀ i, i < 2435 → cf rM i = layv (updv (updv (cf (z76 Hvah.prog)) 0 (.pointer p)) 2258 (.int .i8 (-1))) 2260 r i := fun i hi => by
      rw [hM2 i (by rw [z76s]; exact hi), cells76 p]
    have eW5 : Ext w W5 := e3.trans eA
    go_wp2_with (first | ((with_reducible (refine Veil.out ?_; apply wl_loadB one29i)); (case hx => rfl); (case hB => exact b35); (case hi => decide); rw [hhv]))
    go_ret
    have hl := List.length_eq_zero_iff.1 hn.out
    exact ⟨B, _, rfl, newM_of hr (h.ext eW5) hf (.slice none 0 0) b5 (fun i hi => by
      by_cases q : i = 2379
      · subst q; rw [updv_same, updv_same]
      · rw [updv_ne _ _ q, updv_ne _ _ q, hcM i hi]) (Or.inl ⟨hl, rfl⟩), gB, eW5⟩
  · have hn0i : (0 : Int) < n := by omega
    have hH := h.hashes
    rw [hhv] at hH
    rcases hH with ⟨q, _⟩ | ⟨hb, hoff, cap', hv', hq1, hq2, hq3, hhb, hrow⟩
    · have := hn.out; rw [q] at this; simp at this; omega
    injection hv' with hv1 hv2 hv3
    clear hv2
    subst hv1
    subst hv3
    have hwlt : ∀ (i : Nat) (hi : i < e.hashes.length), e.hashes[i] < P256 := fun i hi => (hrow i hi).1
    have hwn : (wrow e.hashes).size = n * 32 := by rw [wrow_size, hn.out]
    have hRW : ∀ W, Ext w W → RowIn W hb hoff (wrow e.hashes) := fun W hW q u hu => by
      have hq := (Array.getElem?_eq_some_iff.1 hu).1
      rw [wrow_size] at hq
      rw [wrow_at e.hashes q hq] at hu
      injection hu with hu
      subst hu
      rw [hW.cell hhb]
      have hi : q / 32 < e.hashes.length := by omega
      obtain ⟨h1, h2⟩ := hrow (q / 32) hi
      have h3 := h2 (q % 32) _ (bw_cf h1 _ (Nat.mod_lt _ (by decide)))
      rw [show hoff + q / 32 * 32 + q % 32 = hoff + q by omega] at h3
      have h4 : e.hashes.getD (q / 32) 0 = e.hashes[q / 32] := by simp [List.getD_eq_getElem?_getD, hi]
      rw [h3, h4]
    go_enter Hvah.func39, Hvah.ntmps39
    go_upto_region 3 with (first | ((with_reducible (refine Veil.out ?_; apply wl_boxB (t := 36))); (case hx => rfl); (case hn => exact hr); rintro B3 W3 e3 b3 g3) | ((with_reducible (refine Veil.out ?_; apply wl_loadRow rt31i)); (case hx => rfl); (case hB => exact b3); (case hi => decide); rw [rowOf_cf hr]) | ((with_reducible (refine Veil.out ?_; apply wl_buildB pl76E z76E [(0, .pointer p), (4, .int .i8 (-1)), (6, .agg r)])); (case he => go_simp); (case hf => exact fits76 hr p); rintro rM hM1 hM2) | ((with_reducible (refine Veil.out ?_; apply wl_boxB (t := 89))); (case hx => rfl); (case hn => exact hM1.trans z76s); rintro B W4 e4 b4 g4) | ((with_reducible (refine Veil.out ?_; apply wl_storeC one29i (v := Value.slice none 0 0))); (case hx => rfl); (case hy => rfl); (case h1 => rfl); (case hB => exact b4); (case hi => decide); rintro W5 b5 m5))
    have n3 : ¬ B3 = B := fun q => by have := b3.lt; omega
    have gB : w.heap.size ≤ B := Nat.le_trans e3.size g4
    have eA : Ext W3 W5 := Ext.trans_mod e4 m5 (fun q hq => by have hq2 : q = B := hq; rw [hq2]; exact g4)
    have b35 := b3.ext eA
    have hcM : ∀ i, i < 2435 → cf rM i = layv (updv (updv (cf (z76 Hvah.prog)) 0 (.pointer p)) 2258 (.int .i8 (-1))) 2260 r i := fun i hi => by
      rw [hM2 i (by rw [z76s]; exact hi), cells76 p]
    have eW5 : Ext w W5 := e3.trans eA
    have hlB := b5.lt
    go_upto_region 5 with (first | ((with_reducible (refine Veil.out ?_; apply wl_loadB one29i)); (case hx => rfl); (case hB => exact b35); (case hi => decide); rw [hhv]) | ((with_reducible (refine Veil.out ?_; apply wl_makeR under29r el28w n)); (case hl => rfl); (case hc => rfl); (case hn => omega); rintro H W6 e6 b6 g6) | ((with_reducible (refine Veil.out ?_; apply wl_storeC one29i (v := Value.slice (some ⟨H, 0, none⟩) n n))); (case hx => rfl); (case hy => rfl); (case h1 => rfl); (case hB => exact b5.ext e6); (case hi => decide); rintro W8 b8 m8))
    have nBH : ¬ B = H := fun q => by omega
    have n3H : ¬ B3 = H := fun q => by have := b35.lt; omega
    have eW8 : Ext w W8 := Ext.trans_mod (eW5.trans e6) m8 (fun q hq => by have hq2 : q = B := hq; rw [hq2]; exact gB)
    have b38 := (b35.ext e6).mod m8 n3
    have b7 := b6.mod m8 (fun q => nBH q.symm)
    have gH : w.heap.size ≤ H := Nat.le_trans eW5.size g6
    have h2379 : updv (updv (cf rM) 2379 (.slice none 0 0)) 2379 (.slice (some ⟨H, 0, none⟩) n n) 2379 = .slice (some ⟨H, 0, none⟩) n n := updv_same _ _ _
    have nHO : ¬ O H := fun q => by have := hO H q; omega
    refine w_ext ?_
    rintro W0 hW0
    refine wp_region_held_drew (S := fun w' => Mod (fun b => b = H) W0 w') (by kernel_rfl) (Mod.refl _ _).drew (fun hHeld => ?_)
    have HH : Hid (Mod (fun b => b = H) W0 _) := hHeld
    clear hHeld
    refine wpAnyH_take (i := 0) (v := ?_) rfl (by kernel_rfl) (by kernel_rfl) (by kernel_rfl) (fun _ _ _ h => h) (Or.inl ⟨by rfl, ?_⟩) HH.out ?_
    rotate_left
    · intro w hSw; go_simp; try with_reducible rfl
    change wpAnyH _ _ _ _ _ _ _ (Act.put _ (some 26) _) _
    simp only [Act.put, List.setIfInBounds_toArray, List.set_cons_zero, List.set_cons_succ]
    refine wpAnyH_take (i := 1) (v := ?_) rfl (by kernel_rfl) (by kernel_rfl) (by kernel_rfl) (fun _ _ _ h => h) (Or.inl ⟨by rfl, ?_⟩) HH.out ?_
    rotate_left
    · intro w hSw; go_simp; try with_reducible rfl
    change wpAnyH _ _ _ _ _ _ _ (Act.put _ (some 27) _) _
    simp only [Act.put, List.setIfInBounds_toArray, List.set_cons_zero, List.set_cons_succ]
    refine wpAnyH_take (i := 2) (v := ?_) rfl (by kernel_rfl) (by kernel_rfl) (by kernel_rfl) (fun _ _ _ h => h) (Or.inl ⟨by rfl, ?_⟩) HH.out ?_
    rotate_left
    · intro w hSw; go_simp; try with_reducible rfl
    change wpAnyH _ _ _ _ _ _ _ (Act.put _ (some 28) _) _
    simp only [Act.put, List.setIfInBounds_toArray, List.set_cons_zero, List.set_cons_succ]
    refine wpAnyH_take (i := 3) (v := ?_) rfl (by kernel_rfl) (by kernel_rfl) (by kernel_rfl) (fun _ _ _ h => h) (Or.inl ⟨by rfl, ?_⟩) HH.out ?_
    rotate_left
    · intro w hSw; go_simp; try with_reducible rfl
    change wpAnyH _ _ _ _ _ _ _ (Act.put _ (some 29) _) _
    simp only [Act.put, List.setIfInBounds_toArray, List.set_cons_zero, List.set_cons_succ]
    refine wpAnyH_take (i := 4) rfl (by kernel_rfl) (by kernel_rfl) (by kernel_rfl) (fun _ _ _ h => h) (yieldsIf_load1 (by rfl) _ _ rfl _ _ rfl one29i _ (fun w hSw => by rw [((b8.ext hW0).mod hSw nBH).cell (by decide), h2379])) HH.out ?_
    change wpAnyH _ _ _ _ _ _ _ (Act.put _ (some 30) _) _
    simp only [Act.put, List.setIfInBounds_toArray, List.set_cons_zero, List.set_cons_succ]
    refine wpAnyH_take (i := 5) (v := ?_) rfl (by kernel_rfl) (by kernel_rfl) (by kernel_rfl) (fun _ _ _ h => h) (Or.inl ⟨by rfl, ?_⟩) HH.out ?_
    rotate_left
    · intro w hSw; go_simp; try with_reducible rfl
    change wpAnyH _ _ _ _ _ _ _ (Act.put _ (some 31) _) _
    simp only [Act.put, List.setIfInBounds_toArray, List.set_cons_zero, List.set_cons_succ]
    refine wpAnyH_take (i := 6) rfl (by kernel_rfl) (by kernel_rfl) (by kernel_rfl) (fun _ _ _ h => h) (yieldsIf_load1 (by rfl) _ _ rfl _ _ rfl one29i _ (fun w hSw => by rw [((b38.ext hW0).mod hSw n3H).cell (by decide), hhv])) HH.out ?_
    change wpAnyH _ _ _ _ _ _ _ (Act.put _ (some 32) _) _
    simp only [Act.put, List.setIfInBounds_toArray, List.set_cons_zero, List.set_cons_succ]
    refine wpAnyH_ready (rs := [7]) (by kernel_rfl) (by simp) ?_
    refine AllReadyH.cons rfl (fun K hK => ?_) AllReadyH.nil
    refine step_any rfl (op_copyS (k := n) (sz := 32) rfl under29r (by kernel_rfl) rfl rfl (b7.ext (hW0.trans (by (repeat (first | with_reducible exact Ext.refl _ | with_reducible assumption | refine Ext.trans ?_ (by with_reducible assumption) | refine Ext.alloc ?_ _ _ | refine Ext.drew ?_ | refine Ext.drewN ?_ _))))) (hRW _ (eW8.trans (hW0.trans (by (repeat (first | with_reducible exact Ext.refl _ | with_reducible assumption | refine Ext.trans ?_ (by with_reducible assumption) | refine Ext.alloc ?_ _ _ | refine Ext.drew ?_ | refine Ext.drewN ?_ _)))))) (Nat.min_self _) hwn (by omega) (wrow_ones hwlt) ?_)
    rintro W9 b9 m9
    refine hK.out _ _ ?_ (fun hHeld => ?_)
    · exact HH.out.trans m9
    clear hK K HH
    have HH : Hid (Mod (fun b => b = H) W0 _) := hHeld
    clear hHeld
    change wpAnyH _ _ _ _ _ _ _ (Act.put _ (some 33) _) _
    simp only [Act.put, List.setIfInBounds_toArray, List.set_cons_zero, List.set_cons_succ]
    refine wpAnyH_done (by kernel_rfl) ?_ _
    go_wp2
    go_ret
    have eF : Ext w W9 := Ext.trans_mod (eW8.trans hW0) HH.out (fun q hq => by have hq2 : q = H := hq; rw [hq2]; exact gH)
    have bF := (b8.ext hW0).mod HH.out nBH
    refine ⟨B, _, rfl, newM_of hr (h.ext eF) hf (.slice (some ⟨H, 0, none⟩) n n) bF (fun i hi => ?_) (Or.inr ⟨H, 0, n, by rw [hn.out], by have := hn.out; omega, by omega, nHO, b9.lt, fun i hi => ⟨hwlt i hi, fun j u hu => ?_⟩⟩), gB, eF⟩
    · by_cases q : i = 2379
      · subst q; rw [updv_same, updv_same]
      · rw [updv_ne _ _ q, updv_ne _ _ q, updv_ne _ _ q, hcM i hi]
    · have hx := hwlt i hi
      have hj := (Array.getElem?_eq_some_iff.1 hu).1
      rw [bw_sizeP hx] at hj
      have hnn := hn.out
      have hq : i * 32 + j < e.hashes.length * 32 := by omega
      rw [Nat.zero_add, b9.cell (by omega), layv_at _ _ _ _ (Nat.zero_le _) (by rw [wrow_size]; omega), Nat.sub_zero, cf_get (wrow_at e.hashes _ hq), show (i * 32 + j) / 32 = i by omega, show (i * 32 + j) % 32 = j by omega]
      have h4 : e.hashes.getD i 0 = e.hashes[i] := by simp [List.getD_eq_getElem?_getD, hi]
      rw [h4, cf_get hu]
end
end Go.Proofs.YgvahwGreat
