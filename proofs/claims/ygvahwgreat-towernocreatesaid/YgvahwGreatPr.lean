import Derived.Test.YgvahwGreatTr
import Derived.Test.YgvahwGreatRowsO
import Derived.Test.YgvahwGreatPk0
import Derived.Test.YgvahwGreatRx
namespace Go.Proofs.YgvahwGreat
open Go.RowKit
set_option linter.unusedSimpArgs false
theorem el28w : ElT 33 32 (bw 0) := ⟨⟨Hvah.t33, .agg (bw 0), by kernel_rfl, by
  have h : Hvah.t33.zero = some (.agg #[.int .u8 0, .int .u8 0, .int .u8 0, .int .u8 0, .int .u8 0, .int .u8 0, .int .u8 0, .int .u8 0, .int .u8 0, .int .u8 0, .int .u8 0, .int .u8 0, .int .u8 0, .int .u8 0, .int .u8 0, .int .u8 0, .int .u8 0, .int .u8 0, .int .u8 0, .int .u8 0, .int .u8 0, .int .u8 0, .int .u8 0, .int .u8 0, .int .u8 0, .int .u8 0, .int .u8 0, .int .u8 0, .int .u8 0, .int .u8 0, .int .u8 0, .int .u8 0]) := by kernel_rfl
  rw [h]; congr 1, rfl, by kernel_rfl, by have : Hvah.t33.bytes = 32 := by kernel_rfl
                                          rw [this]; decide⟩, bw_sizeP (by decide), by decide⟩
theorem under29r : Hvah.prog.underlying 34 = some (.slice 33) := by kernel_rfl
/-- Words as one row. -/
def wrow (l : List Nat) : Array Value := rowOf (fun q => cf (bw (l.getD (q / 32) 0)) (q % 32)) 0 (l.length * 32)
theorem wrow_size (l : List Nat) : (wrow l).size = l.length * 32 := rowOf_size _ _ _
theorem wrow_at (l : List Nat) (q : Nat) (hq : q < l.length * 32) : (wrow l)[q]? = some (cf (bw (l.getD (q / 32) 0)) (q % 32)) := by
  unfold wrow
  rw [rowOf_get, if_pos hq, Nat.zero_add]
theorem bw_cf {x : Nat} (hx : x < P256) (j : Nat) (hj : j < 32) : (bw x)[j]? = some (cf (bw x) j) := get_cf (by rw [bw_sizeP hx]; exact hj)
theorem getD_mem {l : List Nat} {P : Nat → Prop} (h : ∀ (i : Nat) (hi : i < l.length), P l[i]) (i : Nat) (hi : i < l.length) : P (l.getD i 0) := by
  have : l.getD i 0 = l[i] := by simp [List.getD_eq_getElem?_getD, hi]
  rw [this]; exact h i hi
theorem wrow_ones {l : List Nat} (hl : ∀ (i : Nat) (h : i < l.length), l[i] < P256) : Ones (wrow l) := ones_of (fun q hq => by
  rw [wrow_size] at hq
  have h1 : l.getD (q / 32) 0 < P256 := getD_mem (l := l) (P := fun z => z < P256) hl (q / 32) (by omega)
  have h2 := cf_get (wrow_at l q hq)
  rw [h2]
  exact Ones.get (bw_onesP _) (by rw [bw_sizeP h1]; omega))
section
variable {O : Nat → Prop} {w : World} {v : Value} {l : List Nat}
set_option maxRecDepth 100000 in
set_option maxHeartbeats 6400000 in
theorem yWordsOf (hO : Small O w) (h : WL O w v l) (hlen : l.length ≤ 1000000) : Calls Hvah.prog 41 #[v] w fun e w' => ∃ r, e = .returned r ∧ WL O w' r l ∧ Ext w w' := by
  rcases h with ⟨rfl, rfl⟩ | ⟨b, off, cap, rfl, hcap, hc2, hT, hbl, hrow⟩
  · have hnil := fun W => Lib.run_eql_slice_nil (P := Hvah.prog) W 34 33 none 0 0 0 0 under29r
    go_enter Hvah.func41, Hvah.ntmps41
    go_wp2
    go_ret
    exact ⟨_, rfl, Or.inl ⟨rfl, rfl⟩, Ext.refl _⟩
  · have hnil := fun W => Lib.run_eql_slice_nil (P := Hvah.prog) W 34 33 (some ⟨b, off, none⟩) l.length cap 0 0 under29r
    have hll : (l.length : Int) ≤ 1000000 := by omega
    have hR : ∀ W, Ext w W → RowIn W b off (wrow l) := fun W hW q u hu => by
      have hq := (Array.getElem?_eq_some_iff.1 hu).1
      rw [wrow_size] at hq
      rw [wrow_at l q hq] at hu
      injection hu with hu
      subst hu
      rw [hW.cell hbl]
      have hi : q / 32 < l.length := by omega
      obtain ⟨h1, h2⟩ := hrow (q / 32) hi
      have h3 := h2 (q % 32) _ (bw_cf h1 _ (Nat.mod_lt _ (by decide)))
      rw [show off + q / 32 * 32 + q % 32 = off + q by omega] at h3
      have h4 : l.getD (q / 32) 0 = l[q / 32] := by simp [List.getD_eq_getElem?_getD, hi]
      rw [h3, h4]
    go_enter Hvah.func41, Hvah.ntmps41
    go_wp2_with (first | ((with_reducible (refine Veil.out ?_; apply wl_makeR under29r el28w l.length)); (case hl => rfl); (case hc => rfl); (case hn => exact hlen); rintro B W1 e1 b1 g1) | ((with_reducible (refine Veil.out ?_; apply wl_copyS (k := l.length) (sz := 32) under29r)); (case hs => kernel_rfl); (case hd => rfl); (case hsr => rfl); (case hB => exact b1); (case hr => exact hR _ e1); (case hk => exact Nat.min_self _); (case hn => exact wrow_size l); (case h1 => omega); (case hon => exact wrow_ones (fun i h => (hrow i h).1)); rintro W2 b2 m2))
    go_ret
    refine ⟨_, rfl, Or.inr ⟨B, 0, l.length, rfl, Nat.le_refl _, by omega, fun hq => ?_, b2.lt, fun i hi => ⟨(hrow i hi).1, fun j u hu => ?_⟩⟩, Ext.trans_mod e1 m2 (fun i hi => by have hi2 : i = B := hi; rw [hi2]; exact g1)⟩
    · have := hO B hq; omega
    · have hx := (hrow i hi).1
      have hj := (Array.getElem?_eq_some_iff.1 hu).1
      rw [bw_sizeP hx] at hj
      have hq : i * 32 + j < l.length * 32 := by omega
      rw [Nat.zero_add, b2.cell hq, layv_at _ _ _ _ (Nat.zero_le _) (by rw [wrow_size]; omega), Nat.sub_zero, cf_get (wrow_at l _ hq), show (i * 32 + j) / 32 = i by omega, show (i * 32 + j) % 32 = j by omega]
      have h4 : l.getD i 0 = l[i] := by simp [List.getD_eq_getElem?_getD, hi]
      rw [h4, cf_get hu]
end
end Go.Proofs.YgvahwGreat
