import Derived.Test.YgvahwGreatU256I
namespace Go.Proofs.YgvahwGreat
open Go.RowKit

theorem shl1 (a : Nat) : IntKind.u64.wrap ((a : Int) * 2) = ((a * 2 % 18446744073709551616 : Nat) : Int) := by rw [IntKind.wrap_u64]; omega
theorem or_two (a b : Nat) (hb : b < 18446744073709551616) : bits .or .u64 ((a * 2 % 18446744073709551616 : Nat) : Int) ((b : Int) / 9223372036854775808) = ((a * 2 % 18446744073709551616 + b / 9223372036854775808 : Nat) : Int) := by
  have e : ((b : Int) / 9223372036854775808) = ((b / 9223372036854775808 : Nat) : Int) := by omega
  rw [e, u64_or_nat _ _ (Nat.mod_lt _ (by decide)) (by omega)]
  have h1 : a * 2 % 18446744073709551616 = (a % 9223372036854775808) * 2 ^ 1 := by omega
  rw [h1, or_low 1 _ _ (by omega)]

set_option maxHeartbeats 3200000 in
theorem uSquare (x : Nat) (w : World) (hx : x < P256) :
    Calls Hvah.prog 386 #[wv x] w fun e w' => e = .returned (wv (x * x % P256)) ∧ Ext w w' := by
  obtain ⟨a0, a1, a2, a3, h0, h1, h2, h3, rfl⟩ := wv_cases x hx
  rw [wv_mk _ _ _ _ h0 h1 h2 h3]
  have hd := fun a : Nat => Nat.mod_lt (a * 2) (show 18446744073709551616 > 0 by decide)
  go_enter Hvah.func386, Hvah.ntmps386
  go_wp2_with (first
    | (go_at_call_of 177 (Value.int .u64 (a0 : Nat)); go_at_call_of 177 (Value.int .u64 (a1 : Nat)); refine (mMul64 a0 a1 h0 h1 _).mono ?_; rintro e w' ⟨u01, l01, rfl, bu01, bl01, m01, rfl⟩)
    | (go_at_call_of 177 (Value.int .u64 (a0 : Nat)); go_at_call_of 177 (Value.int .u64 (a2 : Nat)); refine (mMul64 a0 a2 h0 h2 _).mono ?_; rintro e w' ⟨u02, l02, rfl, bu02, bl02, m02, rfl⟩)
    | (go_at_call_of 178 (Value.int .u64 (l02 : Nat)); refine (mAdd64 u01 l02 0 bu01 bl02 (by omega) _).mono ?_; rintro e w' ⟨s1, k1, rfl, i1, j1, n1, rfl⟩)
    | (go_at_call_of 177 (Value.int .u64 (a0 : Nat)); refine (mMul64 a0 a0 h0 h0 _).mono ?_; rintro e w' ⟨u00, l00, rfl, bu00, bl00, m00, rfl⟩)
    | (go_at_call_of 177 (Value.int .u64 (a1 : Nat)); refine (mMul64 a1 a1 h1 h1 _).mono ?_; rintro e w' ⟨u11, l11, rfl, bu11, bl11, m11, rfl⟩)
    | (go_at_call_of 178 (Value.int .u64 (u00 : Nat)); rw [shl1]; refine (mAdd64 u00 (l01 * 2 % 18446744073709551616) 0 bu00 (hd _) (by omega) _).mono ?_; rintro e w' ⟨s2, k2, rfl, i2, j2, n2, rfl⟩)
    | (go_at_call_of 178 (Value.int .u64 (l11 : Nat)); rw [shl1, or_two _ _ bl01]; refine (mAdd64 l11 (s1 * 2 % 18446744073709551616 + l01 / 9223372036854775808) k2 bl11 (by omega) j2 _).mono ?_; rintro e w' ⟨s3, k3, rfl, i3, j3, n3, rfl⟩))
  obtain ⟨V, hV⟩ : ∃ V, V = u02 + a0 * a3 + a1 * a2 + k1 := ⟨_, rfl⟩
  have hT1 : IntKind.u64.wrap (IntKind.u64.wrap (IntKind.u64.wrap ((u02 : Int) + IntKind.u64.wrap ((a0 : Int) * a3)) + IntKind.u64.wrap ((a1 : Int) * a2)) + k1) = ((V % 18446744073709551616 : Nat) : Int) := by
    rw [hV]
    simp only [IntKind.wrap_u64, ← Int.natCast_mul]
    generalize a0 * a3 = A
    generalize a1 * a2 = B
    omega
  rw [hT1, shl1, or_two _ _ i1]
  obtain ⟨U, hU⟩ : ∃ U, U = u11 + (V % 18446744073709551616 * 2 % 18446744073709551616 + s1 / 9223372036854775808) + k3 := ⟨_, rfl⟩
  have hT : IntKind.u64.wrap (IntKind.u64.wrap ((u11 : Int) + ((V % 18446744073709551616 * 2 % 18446744073709551616 + s1 / 9223372036854775808 : Nat) : Int)) + k3) = ((U % 18446744073709551616 : Nat) : Int) := by
    rw [hU]
    simp only [IntKind.wrap_u64]
    omega
  have hR : W4 l00 s2 s3 (U % 18446744073709551616) = W4 a0 a1 a2 a3 * W4 a0 a1 a2 a3 % P256 := by
    have hlt := W4_lt l00 s2 s3 (U % 18446744073709551616) bl00 i2 i3 (Nat.mod_lt _ (by decide))
    have hE : W4 a0 a1 a2 a3 * W4 a0 a1 a2 a3 = W4 l00 s2 s3 (U % 18446744073709551616) + P256 * (U / 18446744073709551616 + V % 18446744073709551616 * 2 / 18446744073709551616 + 2 * (V / 18446744073709551616) + (2 * (a1 * a3) + a2 * a2 + 18446744073709551616 * (2 * (a2 * a3) + 18446744073709551616 * (a3 * a3)))) := by
      rw [W4_mul, mul_W4, mul_W4, mul_W4, mul_W4, Nat.mul_comm a1 a0, Nat.mul_comm a2 a0, Nat.mul_comm a3 a0, Nat.mul_comm a2 a1, Nat.mul_comm a3 a1, Nat.mul_comm a3 a2]
      have := m00.out; have := m01.out; have := m02.out; have := m11.out
      have := n1.out; have := n2.out; have := n3.out
      generalize a0 * a0 = p00 at *
      generalize a0 * a1 = p01 at *
      generalize a0 * a2 = p02 at *
      generalize a0 * a3 = p03 at *
      generalize a1 * a1 = p11 at *
      generalize a1 * a2 = p12 at *
      generalize a1 * a3 = p13 at *
      generalize a2 * a2 = p22 at *
      generalize a2 * a3 = p23 at *
      generalize a3 * a3 = p33 at *
      unfold W4 P256
      have hU2 : U = 18446744073709551616 * (U / 18446744073709551616) + U % 18446744073709551616 := by omega
      have hV2 : V = 18446744073709551616 * (V / 18446744073709551616) + V % 18446744073709551616 := by omega
      generalize U / 18446744073709551616 = Uq at *
      generalize U % 18446744073709551616 = Ur at *
      generalize V / 18446744073709551616 = Vq at *
      generalize V % 18446744073709551616 = Vr at *
      omega
    rw [hE, Nat.add_mul_mod_self_left, Nat.mod_eq_of_lt hlt]
  rw [hT]
  refine post_word Hvah.results386 rfl (heap_new' _ _ (by simp)) rfl bl00 i2 i3 (Nat.mod_lt _ (by decide)) hR ⟨rfl, ?_⟩
  exact ((Ext.refl _).alloc _ _).alloc _ _

theorem W4_low (z : Nat) : W4 (lim z 0) (lim z 1) (lim z 2) (lim z 3) = z % P256 := by
  have h := W4_lim (z % P256) (Nat.mod_lt _ P256_pos)
  have e : ∀ j, j < 4 → lim (z % P256) j = lim z j := fun j hj => by
    rw [P256_eq]; exact lim_low z 4 j hj
  rw [e 0 (by decide), e 1 (by decide), e 2 (by decide), e 3 (by decide)] at h
  exact h
theorem lim_hi (z j : Nat) : lim z (4 + j) = lim (z / P256) j := by
  have h := lim_W8 (z % P256) (z / P256) (Nat.mod_lt _ P256_pos) (4 + j)
  rw [Nat.mod_add_div, if_neg (by omega), show 4 + j - 4 = j by omega] at h
  exact h
theorem over8 (z : Nat) (hz : z < P256 * P256) : decide (P256 ≤ z) = (bits .or .u64 (bits .or .u64 (bits .or .u64 (lim z 4 : Nat) (lim z 5 : Nat)) (lim z 6 : Nat)) (lim z 7 : Nat) != 0) := by
  rw [or4_bits _ _ _ _ (lim_lt _ _) (lim_lt _ _) (lim_lt _ _) (lim_lt _ _), show lim z 4 = lim (z / P256) 0 from lim_hi z 0, show lim z 5 = lim (z / P256) 1 from lim_hi z 1, show lim z 6 = lim (z / P256) 2 from lim_hi z 2, show lim z 7 = lim (z / P256) 3 from lim_hi z 3]
  have hq : z / P256 < P256 := Nat.div_lt_of_lt_mul hz
  obtain ⟨e, h0, h1, h2, h3⟩ := lim4 (z / P256) hq
  rw [Bool.eq_iff_iff]
  simp only [decide_eq_true_eq, bne_iff_ne, ne_eq]
  have hn : ((lim (z / P256) 0 ||| lim (z / P256) 1 ||| lim (z / P256) 2 ||| lim (z / P256) 3 : Nat) : Int) = 0 ↔ z / P256 = 0 := by
    rw [Int.natCast_eq_zero, Nat.or_eq_zero_iff, Nat.or_eq_zero_iff, Nat.or_eq_zero_iff]
    generalize z / P256 = q at *
    omega
  rw [hn, Nat.div_eq_zero_iff]
  have := P256_pos
  omega

attribute [local go_sem] wv_fold wv8_fold
set_option maxHeartbeats 1600000 in
theorem uMulOver (x y : Nat) (w : World) (hx : x < P256) (hy : y < P256) :
    Calls Hvah.prog 172 #[wv x, wv y] w fun e w' => e = .returned (.tuple #[wv (x * y % P256), .bool (decide (P256 ≤ x * y))]) ∧ Ext w w' := by
  have HM := fun W => uMul512 x y W hx hy
  have hzz : x * y < P256 * P256 := Nat.mul_lt_mul'' hx hy
  generalize x * y = z at *
  have HO : Hid (_ = _) := over8 z hzz
  have HL : Hid (_ = _) := W4_low z
  clear hzz
  go_enter Hvah.func172, Hvah.ntmps172
  go_wp2_with (first | (go_at_call 250; refine (HM _).mono ?_; rintro e w1 ⟨rfl, he⟩; have hrc := he.rc; have hrf := he.rf; have hz2 : w.heap.size + 1 + 1 < w1.heap.size := by (have := he.size; simp at this; omega)))
  have hA := fun W => run_arrayAt W 79 24 4 4 8 (some ⟨w1.heap.size, 0, none⟩) Hvah.underlying79 (Nat.le_refl _)
  go_region
  go_wp2
  have hb : w1.heap[w.heap.size + 1 + 1]? = some (.cells #[.int .u64 0, .int .u64 0, .int .u64 0, .int .u64 0] 79 (0, 0)) := by
    rw [he.block _ (by simp)]; exact heap_new' _ _ (by simp)
  have hs := (Below.heap_alloc (((((w1.setCell ⟨w.heap.size + 1 + 1, 0, none⟩ (.int .u64 (lim z 0 : Nat))).setCell ⟨w.heap.size + 1 + 1, 1, none⟩ (.int .u64 (lim z 1 : Nat))).setCell ⟨w.heap.size + 1 + 1, 2, none⟩ (.int .u64 (lim z 2 : Nat))).setCell ⟨w.heap.size + 1 + 1, 3, none⟩ (.int .u64 (lim z 3 : Nat)))) (.cells #[.int .u64 (lim z 0 : Nat), .int .u64 (lim z 1 : Nat), .int .u64 (lim z 2 : Nat), .int .u64 (lim z 3 : Nat), .int .u64 (lim z 4 : Nat), .int .u64 (lim z 5 : Nat), .int .u64 (lim z 6 : Nat), .int .u64 (lim z 7 : Nat)] 82) (w.heap.size + 1 + 1) (by simpa [World.setCell] using hz2)).trans (heap_set4 hb)
  refine post_word_tmp (g := w.heap.size + 1 + 1) (fz := (0, 0)) Hvah.results172 rfl rfl hs rfl (lim_lt _ _) (lim_lt _ _) (lim_lt _ _) (lim_lt _ _) HL.out ⟨by rw [HO.out]; rfl, ?_⟩
  exact ((ext_set4 (((((Ext.refl _).alloc _ _).alloc _ _).alloc _ _).trans he) (by omega) _ _ _ _).alloc _ _).drew
end Go.Proofs.YgvahwGreat
