import Derived.Test.YgvahwGreatTq
import Derived.Test.YgvahwGreatMb
namespace Go.Proofs.YgvahwGreat
open Go.RowKit
set_option linter.unusedSimpArgs false
theorem el25 : ElT 31 20 (av 0) := ⟨⟨Hvah.t31, .agg (av 0), by kernel_rfl, by
  have h : Hvah.t31.zero = some (.agg #[.int .u8 0, .int .u8 0, .int .u8 0, .int .u8 0, .int .u8 0, .int .u8 0, .int .u8 0, .int .u8 0, .int .u8 0, .int .u8 0, .int .u8 0, .int .u8 0, .int .u8 0, .int .u8 0, .int .u8 0, .int .u8 0, .int .u8 0, .int .u8 0, .int .u8 0, .int .u8 0]) := by kernel_rfl
  rw [h]; congr 1, rfl, by kernel_rfl, by rw [bytes25]; decide⟩, av_size (by decide), by decide⟩
theorem under94 : Hvah.prog.underlying 107 = some (.slice 31) := by kernel_rfl
section
variable {O : Nat → Prop} {w : World} {v : Value} {l : List Nat}
set_option maxRecDepth 100000 in
set_option maxHeartbeats 6400000 in
theorem yAddrsOf (hO : Small O w) (h : AddrL O w v l) (hlen : l.length ≤ 1000000) : Calls Hvah.prog 227 #[v] w fun e w' => ∃ r, e = .returned r ∧ AddrL O w' r l ∧ Ext w w' := by
  rcases h with ⟨rfl, rfl⟩ | ⟨b, cap, cs, rfl, hcap, hc2, hb, hT, hrow⟩
  · have hnil := fun W => Lib.run_eql_slice_nil (P := Hvah.prog) W 107 31 none 0 0 0 0 under94
    go_enter Hvah.func227, Hvah.ntmps227
    go_wp2
    go_ret
    exact ⟨_, rfl, Or.inl ⟨rfl, rfl⟩, Ext.refl _⟩
  · have hnil := fun W => Lib.run_eql_slice_nil (P := Hvah.prog) W 107 31 (some ⟨b, 0, none⟩) l.length cap 0 0 under94
    have hll : (l.length : Int) ≤ 1000000 := by omega
    have hone : ∀ j, j < l.length * 20 → (cs (0 + j)).oneCell' = true := fun j hj => by
      have hi : j / 20 < l.length := by omega
      have hr := hrow (j / 20) hi
      have hs := av_size hr.2
      have := hr.1 (j % 20) _ (get_cf (r := av l[j / 20]) (by rw [hs]; exact Nat.mod_lt _ (by decide)))
      rw [Nat.zero_add, show j = j / 20 * 20 + j % 20 by omega, this]
      exact Ones.get (av_one _) (by rw [hs]; exact Nat.mod_lt _ (by decide))
    go_enter Hvah.func227, Hvah.ntmps227
    go_wp2_with (first | ((with_reducible (refine Veil.out ?_; apply wl_makeR under94 el25 l.length)); (case hl => rfl); (case hc => rfl); (case hn => exact hlen); rintro B W1 e1 b1 g1) | ((with_reducible (refine Veil.out ?_; apply wl_copyR (k := l.length) (sz := 20) under94)); (case hs => kernel_rfl); (case hd => rfl); (case hsr => rfl); (case hB => exact b1); (case hB2 => exact hb.ext e1); (case hk => exact Nat.min_self _); (case h1 => omega); (case h2 => have := Nat.mul_le_mul_right 20 hcap; omega); (case hon => exact hone); rintro W2 b2 m2))
    go_ret
    refine ⟨_, rfl, Or.inr ⟨B, l.length, _, rfl, Nat.le_refl _, by omega, b2, fun hq => ?_, fun i hi => ?_⟩, Ext.trans_mod e1 m2 (fun i hi => by have hi2 : i = B := hi; rw [hi2]; exact g1)⟩
    · have := hO B hq; omega
    · refine AdC.move (fun j hj => ?_) (hrow i hi)
      have hij : i * 20 + j < l.length * 20 := by omega
      have := layv_in (fun i => cf (av 0) (i % 20)) 0 (rowOf cs 0 (l.length * 20)) (j := i * 20 + j) (by rw [rowOf_size]; exact hij)
      rw [Nat.zero_add] at this
      rw [this, cf_rowOf _ _ _ hij, Nat.zero_add]
end
end Go.Proofs.YgvahwGreat
