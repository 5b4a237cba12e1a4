import Derived.Test.YgvahwGreatU256H
namespace Go.Proofs.YgvahwGreat
open Go.RowKit

theorem mul_W4 (a b0 b1 b2 b3 : Nat) : a * W4 b0 b1 b2 b3 = a * b0 + 18446744073709551616 * (a * b1 + 18446744073709551616 * (a * b2 + 18446744073709551616 * (a * b3))) := by
  unfold W4
  simp only [Nat.mul_add, Nat.mul_left_comm a]
theorem W4_mul (a0 a1 a2 a3 Y : Nat) : W4 a0 a1 a2 a3 * Y = a0 * Y + 18446744073709551616 * (a1 * Y + 18446744073709551616 * (a2 * Y + 18446744073709551616 * (a3 * Y))) := by
  unfold W4
  simp only [Nat.add_mul, Nat.mul_add, Nat.mul_assoc]

set_option maxHeartbeats 3200000 in
theorem uMul (x y : Nat) (w : World) (hx : x < P256) (hy : y < P256) :
    Calls Hvah.prog 104 #[wv x, wv y] w fun e w' => e = .returned (wv (x * y % P256)) ∧ Ext w w' := by
  obtain ⟨a0, a1, a2, a3, h0, h1, h2, h3, rfl⟩ := wv_cases x hx
  obtain ⟨b0, b1, b2, b3, g0, g1, g2, g3, rfl⟩ := wv_cases y hy
  rw [wv_mk _ _ _ _ h0 h1 h2 h3, wv_mk _ _ _ _ g0 g1 g2 g3]
  go_enter Hvah.func104, Hvah.ntmps104
  go_wp2_with (first
    | (go_at_call_of 177 (Value.int .u64 (a0 : Nat)); go_at_call_of 177 (Value.int .u64 (b0 : Nat)); refine (mMul64 a0 b0 h0 g0 _).mono ?_; rintro e w' ⟨u00, l00, rfl, bu00, bl00, m00, rfl⟩)
    | (go_at_call_of 177 (Value.int .u64 (a0 : Nat)); go_at_call_of 177 (Value.int .u64 (b1 : Nat)); refine (mMul64 a0 b1 h0 g1 _).mono ?_; rintro e w' ⟨u01, l01, rfl, bu01, bl01, m01, rfl⟩)
    | (go_at_call_of 177 (Value.int .u64 (a0 : Nat)); go_at_call_of 177 (Value.int .u64 (b2 : Nat)); refine (mMul64 a0 b2 h0 g2 _).mono ?_; rintro e w' ⟨u02, l02, rfl, bu02, bl02, m02, rfl⟩)
    | (go_at_call_of 177 (Value.int .u64 (a1 : Nat)); go_at_call_of 177 (Value.int .u64 (b0 : Nat)); refine (mMul64 a1 b0 h1 g0 _).mono ?_; rintro e w' ⟨u10, l10, rfl, bu10, bl10, m10, rfl⟩)
    | (go_at_call_of 177 (Value.int .u64 (a1 : Nat)); go_at_call_of 177 (Value.int .u64 (b1 : Nat)); refine (mMul64 a1 b1 h1 g1 _).mono ?_; rintro e w' ⟨u11, l11, rfl, bu11, bl11, m11, rfl⟩)
    | (go_at_call_of 177 (Value.int .u64 (a2 : Nat)); go_at_call_of 177 (Value.int .u64 (b0 : Nat)); refine (mMul64 a2 b0 h2 g0 _).mono ?_; rintro e w' ⟨u20, l20, rfl, bu20, bl20, m20, rfl⟩)
    | (go_at_call_of 178 (Value.int .u64 (l01 : Nat)); refine (mAdd64 u00 l01 0 bu00 bl01 (by omega) _).mono ?_; rintro e w' ⟨s1, k1, rfl, i1, j1, n1, rfl⟩)
    | (go_at_call_of 178 (Value.int .u64 (l02 : Nat)); refine (mAdd64 u01 l02 k1 bu01 bl02 j1 _).mono ?_; rintro e w' ⟨s2, k2, rfl, i2, j2, n2, rfl⟩)
    | (go_at_call_of 178 (Value.int .u64 (l10 : Nat)); refine (mAdd64 s1 l10 0 i1 bl10 (by omega) _).mono ?_; rintro e w' ⟨s3, k3, rfl, i3, j3, n3, rfl⟩)
    | (go_at_call_of 178 (Value.int .u64 (l11 : Nat)); refine (mAdd64 s2 l11 k3 i2 bl11 j3 _).mono ?_; rintro e w' ⟨s4, k4, rfl, i4, j4, n4, rfl⟩)
    | (go_at_call_of 178 (Value.int .u64 (u10 : Nat)); refine (mAdd64 s4 u10 0 i4 bu10 (by omega) _).mono ?_; rintro e w' ⟨s5, k5, rfl, i5, j5, n5, rfl⟩)
    | (go_at_call_of 178 (Value.int .u64 (l20 : Nat)); refine (mAdd64 s5 l20 0 i5 bl20 (by omega) _).mono ?_; rintro e w' ⟨s6, k6, rfl, i6, j6, n6, rfl⟩))
  obtain ⟨U, hU⟩ : ∃ U, U = u02 + a0 * b3 + k2 + (u11 + a1 * b2 + k4) + k5 + (u20 + a2 * b1 + k6 + a3 * b0) := ⟨_, rfl⟩
  have hT : IntKind.u64.wrap (IntKind.u64.wrap (IntKind.u64.wrap (IntKind.u64.wrap (IntKind.u64.wrap ((u02 : Int) + IntKind.u64.wrap ((a0 : Int) * b3)) + k2) + IntKind.u64.wrap (IntKind.u64.wrap ((u11 : Int) + IntKind.u64.wrap ((a1 : Int) * b2)) + k4)) + k5) + IntKind.u64.wrap (IntKind.u64.wrap (IntKind.u64.wrap ((u20 : Int) + IntKind.u64.wrap ((a2 : Int) * b1)) + k6) + IntKind.u64.wrap ((a3 : Int) * b0))) = ((U % 18446744073709551616 : Nat) : Int) := by
    rw [hU]
    simp only [IntKind.wrap_u64, ← Int.natCast_mul]
    generalize a0 * b3 = A
    generalize a1 * b2 = B
    generalize a2 * b1 = C
    generalize a3 * b0 = D
    omega
  have hR : W4 l00 s3 s6 (U % 18446744073709551616) = W4 a0 a1 a2 a3 * W4 b0 b1 b2 b3 % P256 := by
    have hlt := W4_lt l00 s3 s6 (U % 18446744073709551616) bl00 i3 i6 (Nat.mod_lt _ (by decide))
    have hV : W4 a0 a1 a2 a3 * W4 b0 b1 b2 b3 = W4 l00 s3 s6 (U % 18446744073709551616) + P256 * (U / 18446744073709551616 + (a1 * b3 + a2 * b2 + a3 * b1 + 18446744073709551616 * (a2 * b3 + a3 * b2 + 18446744073709551616 * (a3 * b3)))) := by
      rw [W4_mul, mul_W4, mul_W4, mul_W4, mul_W4]
      have := m00.out; have := m01.out; have := m02.out; have := m10.out; have := m11.out; have := m20.out
      have := n1.out; have := n2.out; have := n3.out; have := n4.out; have := n5.out; have := n6.out
      generalize a0 * b0 = p00 at *
      generalize a0 * b1 = p01 at *
      generalize a0 * b2 = p02 at *
      generalize a0 * b3 = p03 at *
      generalize a1 * b0 = p10 at *
      generalize a1 * b1 = p11 at *
      generalize a1 * b2 = p12 at *
      generalize a1 * b3 = p13 at *
      generalize a2 * b0 = p20 at *
      generalize a2 * b1 = p21 at *
      generalize a2 * b2 = p22 at *
      generalize a2 * b3 = p23 at *
      generalize a3 * b0 = p30 at *
      generalize a3 * b1 = p31 at *
      generalize a3 * b2 = p32 at *
      generalize a3 * b3 = p33 at *
      unfold W4 P256
      have hU2 : U = 18446744073709551616 * (U / 18446744073709551616) + U % 18446744073709551616 := by omega
      generalize U / 18446744073709551616 = Uq at *
      generalize U % 18446744073709551616 = Ur at *
      omega
    rw [hV, Nat.add_mul_mod_self_left, Nat.mod_eq_of_lt hlt]
  rw [hT]
  refine post_word Hvah.results104 rfl (heap_new' _ _ (by simp)) rfl bl00 i3 i6 (Nat.mod_lt _ (by decide)) hR ⟨rfl, ?_⟩
  exact (((Ext.refl _).alloc _ _).alloc _ _).alloc _ _
end Go.Proofs.YgvahwGreat
