import Derived.Test.YgvahwGreatU256G
namespace Go.Proofs.YgvahwGreat
open Go.RowKit
attribute [local go_sem] wv_fold

theorem mul_top {a b l h : Nat} (ha : a < 18446744073709551616) (hb : b < 18446744073709551616) (e : l + 18446744073709551616 * h = a * b) : h + 1 < 18446744073709551616 := by
  have : a * b ≤ 18446744073709551615 * 18446744073709551615 := Nat.mul_le_mul (by omega) (by omega)
  omega
set_option maxHeartbeats 800000 in
theorem uMulAdd (a b c d : Nat) (w : World) (ha : a < 18446744073709551616) (hb : b < 18446744073709551616) (hc : c < 18446744073709551616) (hd : d < 18446744073709551616) :
    Calls Hvah.prog 414 #[.int .u64 a, .int .u64 b, .int .u64 c, .int .u64 d] w fun e w' => ∃ lo hi : Nat, e = .returned (.tuple #[.int .u64 lo, .int .u64 hi]) ∧ lo < 18446744073709551616 ∧ hi < 18446744073709551616 ∧ Hid (lo + 18446744073709551616 * hi = a * b + c + d) ∧ w' = w := by
  have hp : Hid (a * b ≤ 18446744073709551615 * 18446744073709551615) := Nat.mul_le_mul (by omega) (by omega)
  go_enter Hvah.func414, Hvah.ntmps414
  go_wp2_with (first
    | (go_at_call 177; refine (mMul64 a b ha hb _).mono ?_; rintro e w' ⟨h, l, rfl, hh, hl, he, rfl⟩; have ht := mul_top ha hb he.out)
    | (go_at_call_of 178 (Value.int .u64 (c : Nat)); refine (mAdd64 l c 0 hl hc (by omega) _).mono ?_; rintro e w' ⟨s1, k1, rfl, i1, j1, r1, rfl⟩)
    | (go_at_call_of 178 (Value.int .u64 (d : Nat)); refine (mAdd64 s1 d 0 i1 hd (by omega) _).mono ?_; rintro e w' ⟨s2, k2, rfl, i2, j2, r2, rfl⟩))
  go_ret2
  have := he.out; have := r1.out; have := r2.out; have := hp.out
  refine ⟨s2, h + k1 + k2, ?_, i2, ?_, ?_, rfl⟩
  · generalize a * b = p at *
    show Ending.returned (.tuple #[.int .u64 s2, .int .u64 (IntKind.u64.wrap ((h : Int) + k1 + k2))]) = _
    rw [show IntKind.u64.wrap ((h : Int) + k1 + k2) = ((h + k1 + k2 : Nat) : Int) by rw [IntKind.wrap_u64]; omega]
  · generalize a * b = p at *
    omega
  · unfold Hid
    generalize a * b = p at *
    omega

theorem results_tmp5 {fn : Func} {a b c d e : Tmp} (h : fn.results = #[.tmp a, .tmp b, .tmp c, .tmp d, .tmp e]) (tmps : Array Value) (P : Program) (w : World) :
    (results fn tmps).run P w = .ok (.tuple #[tmps.getD a undef, tmps.getD b undef, tmps.getD c undef, tmps.getD d undef, tmps.getD e undef]) w := by
  simp [results, h]
set_option maxHeartbeats 1600000 in
theorem uRow (a b0 b1 b2 b3 c0 c1 c2 c3 : Nat) (g : Nat) (w : World) (ha : a < 18446744073709551616) (g0 : b0 < 18446744073709551616) (g1 : b1 < 18446744073709551616) (g2 : b2 < 18446744073709551616) (g3 : b3 < 18446744073709551616)
    (h0 : c0 < 18446744073709551616) (h1 : c1 < 18446744073709551616) (h2 : c2 < 18446744073709551616) (h3 : c3 < 18446744073709551616)
    (e0 : w.cell? ⟨g, 0, none⟩ = some (.int .u64 b0)) (e1 : w.cell? ⟨g, 1, none⟩ = some (.int .u64 b1)) (e2 : w.cell? ⟨g, 2, none⟩ = some (.int .u64 b2)) (e3 : w.cell? ⟨g, 3, none⟩ = some (.int .u64 b3)) :
    Calls Hvah.prog 361 #[.int .u64 a, .pointer (some ⟨g, 0, none⟩), .int .u64 c0, .int .u64 c1, .int .u64 c2, .int .u64 c3] w fun e w' => ∃ r0 r1 r2 r3 r4 : Nat, e = .returned (.tuple #[.int .u64 r0, .int .u64 r1, .int .u64 r2, .int .u64 r3, .int .u64 r4]) ∧ r0 < 18446744073709551616 ∧ r1 < 18446744073709551616 ∧ r2 < 18446744073709551616 ∧ r3 < 18446744073709551616 ∧ r4 < 18446744073709551616 ∧
      Hid (W4 r0 r1 r2 r3 + P256 * r4 = a * W4 b0 b1 b2 b3 + W4 c0 c1 c2 c3) ∧ w' = w := by
  go_enter Hvah.func361, Hvah.ntmps361
  go_wp2_with (first
    | (go_at_call_of 177 (Value.int .u64 (b0 : Nat)); refine (mMul64 a b0 ha g0 _).mono ?_; rintro e w' ⟨p0, l0, rfl, hp0, hl0, m0, rfl⟩; have t0 := mul_top ha g0 m0.out)
    | (go_at_call_of 177 (Value.int .u64 (b1 : Nat)); refine (mMul64 a b1 ha g1 _).mono ?_; rintro e w' ⟨p1, l1, rfl, hp1, hl1, m1, rfl⟩; have t1 := mul_top ha g1 m1.out)
    | (go_at_call_of 177 (Value.int .u64 (b2 : Nat)); refine (mMul64 a b2 ha g2 _).mono ?_; rintro e w' ⟨p2, l2, rfl, hp2, hl2, m2, rfl⟩; have t2 := mul_top ha g2 m2.out)
    | (go_at_call_of 177 (Value.int .u64 (b3 : Nat)); refine (mMul64 a b3 ha g3 _).mono ?_; rintro e w' ⟨p3, l3, rfl, hp3, hl3, m3, rfl⟩; have t3 := mul_top ha g3 m3.out)
    | (go_at_call_of 178 (Value.int .u64 (p0 : Nat)); refine (mAdd64 l1 p0 0 hl1 hp0 (by omega) _).mono ?_; rintro e w' ⟨s1, k1, rfl, i1, j1, n1, rfl⟩)
    | (go_at_call_of 178 (Value.int .u64 (p1 : Nat)); refine (mAdd64 l2 p1 k1 hl2 hp1 j1 _).mono ?_; rintro e w' ⟨s2, k2, rfl, i2, j2, n2, rfl⟩)
    | (go_at_call_of 178 (Value.int .u64 (p2 : Nat)); refine (mAdd64 l3 p2 k2 hl3 hp2 j2 _).mono ?_; rintro e w' ⟨s3, k3, rfl, i3, j3, n3, rfl⟩)
    | (go_at_call_of 178 (Value.int .u64 (c0 : Nat)); refine (mAdd64 l0 c0 0 hl0 h0 (by omega) _).mono ?_; rintro e w' ⟨q0, o0, rfl, f0, d0, v0, rfl⟩)
    | (go_at_call_of 178 (Value.int .u64 (c1 : Nat)); refine (mAdd64 s1 c1 o0 i1 h1 d0 _).mono ?_; rintro e w' ⟨q1, o1, rfl, f1, d1, v1, rfl⟩)
    | (go_at_call_of 178 (Value.int .u64 (c2 : Nat)); refine (mAdd64 s2 c2 o1 i2 h2 d1 _).mono ?_; rintro e w' ⟨q2, o2, rfl, f2, d2, v2, rfl⟩)
    | (go_at_call_of 178 (Value.int .u64 (c3 : Nat)); refine (mAdd64 s3 c3 o2 i3 h3 d2 _).mono ?_; rintro e w' ⟨q3, o3, rfl, f3, d3, v3, rfl⟩))
  have hW : a * W4 b0 b1 b2 b3 = a * b0 + 18446744073709551616 * (a * b1 + 18446744073709551616 * (a * b2 + 18446744073709551616 * (a * b3))) := by
    unfold W4
    simp only [Nat.mul_add, Nat.mul_left_comm a]
  have hb := W4_lt b0 b1 b2 b3 g0 g1 g2 g3
  have hc := W4_lt c0 c1 c2 c3 h0 h1 h2 h3
  have hle : a * W4 b0 b1 b2 b3 ≤ 18446744073709551615 * (P256 - 1) := Nat.mul_le_mul (by omega) (by omega)
  have hE : W4 q0 q1 q2 q3 + P256 * (p3 + k3 + o3) = a * W4 b0 b1 b2 b3 + W4 c0 c1 c2 c3 := by
    rw [hW]
    have := m0.out; have := m1.out; have := m2.out; have := m3.out; have := n1.out; have := n2.out; have := n3.out; have := v0.out; have := v1.out; have := v2.out; have := v3.out
    generalize a * b0 = A0 at *
    generalize a * b1 = A1 at *
    generalize a * b2 = A2 at *
    generalize a * b3 = A3 at *
    unfold W4 P256
    omega
  have hlt : p3 + k3 + o3 < 18446744073709551616 := by
    generalize a * W4 b0 b1 b2 b3 = A at *
    generalize W4 q0 q1 q2 q3 = Q at *
    generalize W4 b0 b1 b2 b3 = Q2 at *
    generalize W4 c0 c1 c2 c3 = Q3 at *
    unfold P256 at *
    omega
  refine bodyPost_ret (results_tmp5 Hvah.results361 _ _ _) rfl ⟨q0, q1, q2, q3, p3 + k3 + o3, ?_, f0, f1, f2, f3, hlt, hE, rfl⟩
  show Ending.returned (.tuple #[.int .u64 q0, .int .u64 q1, .int .u64 q2, .int .u64 q3, .int .u64 (IntKind.u64.wrap ((p3 : Int) + k3 + o3))]) = _
  rw [show IntKind.u64.wrap ((p3 : Int) + k3 + o3) = ((p3 + k3 + o3 : Nat) : Int) by rw [IntKind.wrap_u64]; omega]

/-- 2^512. -/
def P512 : Nat := P256 * P256
/-- A number below 2^512 as eight limbs. -/
abbrev wv8 (x : Nat) : Value := .agg #[.int .u64 (lim x 0 : Nat), .int .u64 (lim x 1 : Nat), .int .u64 (lim x 2 : Nat), .int .u64 (lim x 3 : Nat), .int .u64 (lim x 4 : Nat), .int .u64 (lim x 5 : Nat), .int .u64 (lim x 6 : Nat), .int .u64 (lim x 7 : Nat)]
theorem wv8_fold (x : Nat) : Value.agg #[.int .u64 (lim x 0 : Nat), .int .u64 (lim x 1 : Nat), .int .u64 (lim x 2 : Nat), .int .u64 (lim x 3 : Nat), .int .u64 (lim x 4 : Nat), .int .u64 (lim x 5 : Nat), .int .u64 (lim x 6 : Nat), .int .u64 (lim x 7 : Nat)] = wv8 x := rfl
theorem lim_W8 (l h : Nat) (hl : l < P256) (j : Nat) : lim (l + P256 * h) j = if j < 4 then lim l j else lim h (j - 4) := by
  have := lim_parts l 4 h j (by rw [show 64 * 4 = 256 by rfl, ← P256_eq]; exact hl)
  rw [show 64 * 4 = 256 by rfl, ← P256_eq] at this
  exact this
theorem size69 : (Hvah.prog.info? 82).map (·.size) = some 8 := by kernel_rfl
theorem wv8_mk (a b c d e f g h : Nat) (ha : a < 18446744073709551616) (hb : b < 18446744073709551616) (hc : c < 18446744073709551616) (hd : d < 18446744073709551616) (he : e < 18446744073709551616) (hf : f < 18446744073709551616) (hg : g < 18446744073709551616) (hh : h < 18446744073709551616) :
    wv8 (W4 a b c d + P256 * W4 e f g h) = .agg #[.int .u64 a, .int .u64 b, .int .u64 c, .int .u64 d, .int .u64 e, .int .u64 f, .int .u64 g, .int .u64 h] := by
  obtain ⟨e1, e2, e3, e4⟩ := lim_W4 a b c d ha hb hc hd
  obtain ⟨f1, f2, f3, f4⟩ := lim_W4 e f g h he hf hg hh
  have L := lim_W8 (W4 a b c d) (W4 e f g h) (W4_lt _ _ _ _ ha hb hc hd)
  have l0 := L 0; have l1 := L 1; have l2 := L 2; have l3 := L 3; have l4 := L 4; have l5 := L 5; have l6 := L 6; have l7 := L 7
  simp only [Nat.reduceLT, if_true, if_false, Nat.reduceSub, e1, e2, e3, e4, f1, f2, f3, f4] at l0 l1 l2 l3 l4 l5 l6 l7
  simp only [wv8, l0, l1, l2, l3, l4, l5, l6, l7]

set_option maxHeartbeats 1600000 in
theorem uMul512 (x y : Nat) (w : World) (hx : x < P256) (hy : y < P256) :
    Calls Hvah.prog 250 #[wv x, wv y] w fun e w' => e = .returned (wv8 (x * y)) ∧ Ext w w' := by
  obtain ⟨a0, a1, a2, a3, h0, h1, h2, h3, rfl⟩ := wv_cases x hx
  obtain ⟨b0, b1, b2, b3, g0, g1, g2, g3, rfl⟩ := wv_cases y hy
  rw [wv_mk _ _ _ _ h0 h1 h2 h3, wv_mk _ _ _ _ g0 g1 g2 g3]
  have z0 : (0 : Nat) < 18446744073709551616 := by decide
  have hblk : (((w.alloc (.cells #[.int .u64 a0, .int .u64 a1, .int .u64 a2, .int .u64 a3] 79)).alloc (.cells #[.int .u64 b0, .int .u64 b1, .int .u64 b2, .int .u64 b3] 79)).alloc (.cells #[.int .u64 0, .int .u64 0, .int .u64 0, .int .u64 0, .int .u64 0, .int .u64 0, .int .u64 0, .int .u64 0] 82)).heap[w.heap.size + 1]? = some (.cells #[.int .u64 b0, .int .u64 b1, .int .u64 b2, .int .u64 b3] 79 (0, 0)) := by
    rw [Below.heap_alloc _ _ _ (by simp)]; exact heap_new' _ _ (by simp)
  obtain ⟨q0, q1, q2, q3⟩ := cell_there hblk
  have HR := fun a c0 c1 c2 c3 ha m0 m1 m2 m3 => uRow a b0 b1 b2 b3 c0 c1 c2 c3 (w.heap.size + 1) (((w.alloc (.cells #[.int .u64 a0, .int .u64 a1, .int .u64 a2, .int .u64 a3] 79)).alloc (.cells #[.int .u64 b0, .int .u64 b1, .int .u64 b2, .int .u64 b3] 79)).alloc (.cells #[.int .u64 0, .int .u64 0, .int .u64 0, .int .u64 0, .int .u64 0, .int .u64 0, .int .u64 0, .int .u64 0] 82)) ha g0 g1 g2 g3 m0 m1 m2 m3 q0 q1 q2 q3
  clear q0 q1 q2 q3 hblk
  go_enter Hvah.func250, Hvah.ntmps250
  go_wp2_with (first
    | (go_at_call_of 361 (Value.int .u64 (a0 : Nat)); refine (HR a0 0 0 0 0 h0 z0 z0 z0 z0).mono ?_; rintro e w' ⟨r0, r1, r2, r3, r4, rfl, i0, i1, i2, i3, i4, E0, rfl⟩)
    | (go_at_call_of 361 (Value.int .u64 (a1 : Nat)); refine (HR a1 r1 r2 r3 r4 h1 i1 i2 i3 i4).mono ?_; rintro e w' ⟨s0, s1, s2, s3, s4, rfl, j0, j1, j2, j3, j4, E1, rfl⟩)
    | (go_at_call_of 361 (Value.int .u64 (a2 : Nat)); refine (HR a2 s1 s2 s3 s4 h2 j1 j2 j3 j4).mono ?_; rintro e w' ⟨t0, t1, t2, t3, t4, rfl, k0, k1, k2, k3, k4, E2, rfl⟩)
    | (go_at_call_of 361 (Value.int .u64 (a3 : Nat)); refine (HR a3 t1 t2 t3 t4 h3 k1 k2 k3 k4).mono ?_; rintro e w' ⟨u0, u1, u2, u3, u4, rfl, l0, l1, l2, l3, l4, E3, rfl⟩))
  have hm : W4 r0 s0 t0 u0 + P256 * W4 u1 u2 u3 u4 = W4 a0 a1 a2 a3 * W4 b0 b1 b2 b3 := by
    have e0 := E0.out; have e1 := E1.out; have e2 := E2.out; have e3 := E3.out
    clear HR
    generalize W4 b0 b1 b2 b3 = Y at *
    have hA : W4 a0 a1 a2 a3 * Y = a0 * Y + 18446744073709551616 * (a1 * Y + 18446744073709551616 * (a2 * Y + 18446744073709551616 * (a3 * Y))) := by
      unfold W4
      simp only [Nat.add_mul, Nat.mul_add, Nat.mul_assoc]
    rw [hA]
    generalize a0 * Y = A0 at *
    generalize a1 * Y = A1 at *
    generalize a2 * Y = A2 at *
    generalize a3 * Y = A3 at *
    unfold W4 P256 at *
    omega
  have hv := wv8_mk r0 s0 t0 u0 u1 u2 u3 u4 i0 j0 k0 l0 l1 l2 l3 l4
  rw [hm] at hv
  rw [hv]
  exact post_cell (g := w.heap.size + 1 + 1) (L := [.int .u64 r0, .int .u64 s0, .int .u64 t0, .int .u64 u0, .int .u64 u1, .int .u64 u2, .int .u64 u3, .int .u64 u4]) Hvah.results250 rfl Hvah.underlying82 rfl (by rw [size69]; rfl) (heap_new' _ _ (by simp)) rfl ⟨rfl, (((Ext.refl _).alloc _ _).alloc _ _).alloc _ _⟩
end Go.Proofs.YgvahwGreat
