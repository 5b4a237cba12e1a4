import Derived.Test.YgvahwGreatNumB
namespace Go.Proofs.YgvahwGreat
open Go.RowKit

/-- 2^256. -/
def P256 : Nat := 115792089237316195423570985008687907853269984665640564039457584007913129639936
theorem P256_eq : P256 = 2 ^ 256 := by decide +kernel
theorem P256_pos : 0 < P256 := by decide +kernel
/-- Four limbs, the least first, as a number. -/
def W4 (a b c d : Nat) : Nat := a + 18446744073709551616 * (b + 18446744073709551616 * (c + 18446744073709551616 * d))
/-- Limb i of a number. -/
def lim (x i : Nat) : Nat := x / 18446744073709551616 ^ i % 18446744073709551616
theorem lim_lt (x i : Nat) : lim x i < 18446744073709551616 := Nat.mod_lt _ (by decide)
/-- The cells of numbers of 64 bits. -/
def ucells (l : List Nat) : List Value := l.map fun (d : Nat) => Value.int .u64 (d : Int)
/-- A number below 2^256 as the machine's word. -/
abbrev wv (x : Nat) : Value := .agg #[.int .u64 (lim x 0 : Nat), .int .u64 (lim x 1 : Nat), .int .u64 (lim x 2 : Nat), .int .u64 (lim x 3 : Nat)]
theorem wv_cells (x : Nat) : (wv x).cells = #[.int .u64 (lim x 0 : Nat), .int .u64 (lim x 1 : Nat), .int .u64 (lim x 2 : Nat), .int .u64 (lim x 3 : Nat)] := rfl
theorem wv_fold (x : Nat) : Value.agg #[.int .u64 (lim x 0 : Nat), .int .u64 (lim x 1 : Nat), .int .u64 (lim x 2 : Nat), .int .u64 (lim x 3 : Nat)] = wv x := rfl

theorem lim_W4 (a b c d : Nat) (ha : a < 18446744073709551616) (hb : b < 18446744073709551616) (hc : c < 18446744073709551616) (hd : d < 18446744073709551616) :
    lim (W4 a b c d) 0 = a ∧ lim (W4 a b c d) 1 = b ∧ lim (W4 a b c d) 2 = c ∧ lim (W4 a b c d) 3 = d := by
  have p2 : (18446744073709551616 : Nat) ^ 2 = 340282366920938463463374607431768211456 := by decide
  have p3 : (18446744073709551616 : Nat) ^ 3 = 6277101735386680763835789423207666416102355444464034512896 := by decide
  unfold lim
  rw [Nat.pow_zero, Nat.pow_one, p2, p3]
  unfold W4
  omega
theorem W4_lim (x : Nat) (hx : x < P256) : W4 (lim x 0) (lim x 1) (lim x 2) (lim x 3) = x := by
  have p2 : (18446744073709551616 : Nat) ^ 2 = 340282366920938463463374607431768211456 := by decide
  have p3 : (18446744073709551616 : Nat) ^ 3 = 6277101735386680763835789423207666416102355444464034512896 := by decide
  unfold lim
  rw [Nat.pow_zero, Nat.pow_one, p2, p3]
  unfold P256 at hx
  unfold W4
  omega
theorem wv_mk (a b c d : Nat) (ha : a < 18446744073709551616) (hb : b < 18446744073709551616) (hc : c < 18446744073709551616) (hd : d < 18446744073709551616) :
    wv (W4 a b c d) = .agg #[.int .u64 a, .int .u64 b, .int .u64 c, .int .u64 d] := by
  obtain ⟨e1, e2, e3, e4⟩ := lim_W4 a b c d ha hb hc hd
  simp only [wv, e1, e2, e3, e4]
theorem W4_lt (a b c d : Nat) (ha : a < 18446744073709551616) (hb : b < 18446744073709551616) (hc : c < 18446744073709551616) (hd : d < 18446744073709551616) : W4 a b c d < P256 := by
  unfold W4 P256; omega
theorem wv_cases (x : Nat) (hx : x < P256) : ∃ a b c d : Nat, a < 18446744073709551616 ∧ b < 18446744073709551616 ∧ c < 18446744073709551616 ∧ d < 18446744073709551616 ∧ x = W4 a b c d := by
  exact ⟨lim x 0, lim x 1, lim x 2, lim x 3, lim_lt _ _, lim_lt _ _, lim_lt _ _, lim_lt _ _, (W4_lim x hx).symm⟩

theorem Ext.rc {w w' : World} (h : Ext w w') : ∀ b o, b < w.heap.size → w'.cell? ⟨b, o, none⟩ = w.cell? ⟨b, o, none⟩ := fun b o hb => h.cell (p := ⟨b, o, none⟩) hb
theorem Ext.rf {w w' : World} (h : Ext w w') : ∀ b o, b < w.heap.size → w'.frozen? ⟨b, o, none⟩ = w.frozen? ⟨b, o, none⟩ := fun b o hb => h.frozen (p := ⟨b, o, none⟩) hb

theorem heap_new' (w : World) (o : Obj) {n : Nat} (h : n = w.heap.size) : (w.alloc o).heap[n]? = some o := by rw [h]; exact heap_new w o

theorem size66 : (Hvah.prog.info? 79).map (·.size) = some 4 := by kernel_rfl

/-- The end of a function whose one result is a word in a block of four cells. -/
theorem post_word {fn : Func} {R : Ending → World → Prop} {ac : Act} {w : World} {t : Tmp} {g et : Nat} {a b c d x : Nat} {fz : Nat × Nat} (hf : fn.results = #[.cell t 79]) (ht : ac.tmps.getD t undef = .pointer (some ⟨g, 0, none⟩))
    (hg : w.heap[g]? = some (.cells #[.int .u64 a, .int .u64 b, .int .u64 c, .int .u64 d] et fz)) (hdf : ac.defers = []) (ha : a < 18446744073709551616) (hb : b < 18446744073709551616) (hc : c < 18446744073709551616) (hd : d < 18446744073709551616)
    (hx : W4 a b c d = x) (h : R (.returned (wv x)) w) : bodyPost Hvah.prog fn R .ret ac w := by
  subst hx
  rw [wv_mk a b c d ha hb hc hd] at h
  exact post_cell (L := [.int .u64 a, .int .u64 b, .int .u64 c, .int .u64 d]) (et := et) (fz := fz) hf ht Hvah.underlying79 rfl (by rw [size66]; rfl) hg hdf h
theorem post_word_tmp {fn : Func} {R : Ending → World → Prop} {ac : Act} {w : World} {t u : Tmp} {g et : Nat} {a b c d x : Nat} {fz : Nat × Nat} {v2 : Value} (hf : fn.results = #[.cell t 79, .tmp u]) (ht : ac.tmps.getD t undef = .pointer (some ⟨g, 0, none⟩)) (h2 : ac.tmps.getD u undef = v2)
    (hg : w.heap[g]? = some (.cells #[.int .u64 a, .int .u64 b, .int .u64 c, .int .u64 d] et fz)) (hdf : ac.defers = []) (ha : a < 18446744073709551616) (hb : b < 18446744073709551616) (hc : c < 18446744073709551616) (hd : d < 18446744073709551616)
    (hx : W4 a b c d = x) (h : R (.returned (.tuple #[wv x, v2])) w) : bodyPost Hvah.prog fn R .ret ac w := by
  subst hx
  rw [wv_mk a b c d ha hb hc hd] at h
  exact post_cell_tmp (L := [.int .u64 a, .int .u64 b, .int .u64 c, .int .u64 d]) (et := et) (fz := fz) hf ht h2 Hvah.underlying79 rfl (by rw [size66]; rfl) hg hdf h

theorem heap_set4 {w : World} {g : Nat} {p q r s v0 v1 v2 v3 : Value} {t : TypeId} (h : w.heap[g]? = some (.cells #[p, q, r, s] t (0, 0))) :
    ((((w.setCell ⟨g, 0, none⟩ v0).setCell ⟨g, 1, none⟩ v1).setCell ⟨g, 2, none⟩ v2).setCell ⟨g, 3, none⟩ v3).heap[g]? = some (.cells #[v0, v1, v2, v3] t (0, 0)) := by
  simp [World.setCell, Array.getElem?_modify, h]

/-- The end of a function that has stored a word into its result's block and made one block more. -/
theorem post_set4 {fn : Func} {R : Ending → World → Prop} {ac : Act} {w1 : World} {o : Obj} {t : Tmp} {g : Nat} {a b c d x : Nat} {p q r s : Value} {et : TypeId} (hf : fn.results = #[.cell t 79]) (ht : ac.tmps.getD t undef = .pointer (some ⟨g, 0, none⟩)) (hdf : ac.defers = [])
    (hw : w1.heap[g]? = some (.cells #[p, q, r, s] et (0, 0))) (hgs : g < w1.heap.size) (ha : a < 18446744073709551616) (hb : b < 18446744073709551616) (hc : c < 18446744073709551616) (hd : d < 18446744073709551616)
    (hx : W4 a b c d = x) (h : R (.returned (wv x)) (((((w1.setCell ⟨g, 0, none⟩ (.int .u64 a)).setCell ⟨g, 1, none⟩ (.int .u64 b)).setCell ⟨g, 2, none⟩ (.int .u64 c)).setCell ⟨g, 3, none⟩ (.int .u64 d)).alloc o)) :
    bodyPost Hvah.prog fn R .ret ac (((((w1.setCell ⟨g, 0, none⟩ (.int .u64 a)).setCell ⟨g, 1, none⟩ (.int .u64 b)).setCell ⟨g, 2, none⟩ (.int .u64 c)).setCell ⟨g, 3, none⟩ (.int .u64 d)).alloc o) := by
  refine post_word (a := a) (b := b) (c := c) (d := d) (et := et) (fz := (0, 0)) hf ht ?_ hdf ha hb hc hd hx h
  rw [Below.heap_alloc _ _ _ (by simpa [World.setCell] using hgs)]
  exact heap_set4 hw

theorem ext_set4 {a w : World} (h : Ext a w) {g : Nat} (hg : a.heap.size ≤ g) (v0 v1 v2 v3 : Value) : Ext a ((((w.setCell ⟨g, 0, none⟩ v0).setCell ⟨g, 1, none⟩ v1).setCell ⟨g, 2, none⟩ v2).setCell ⟨g, 3, none⟩ v3) :=
  (((h.setCell (p := ⟨g, 0, none⟩) hg _).setCell (p := ⟨g, 1, none⟩) hg _).setCell (p := ⟨g, 2, none⟩) hg _).setCell (p := ⟨g, 3, none⟩) hg _

set_option maxHeartbeats 1600000 in
theorem uAddOver (x y : Nat) (w : World) (hx : x < P256) (hy : y < P256) :
    Calls Hvah.prog 173 #[wv x, wv y] w fun e w' => e = .returned (.tuple #[wv ((x + y) % P256), .bool (decide (P256 ≤ x + y))]) ∧ Ext w w' := by
  obtain ⟨a0, a1, a2, a3, h0, h1, h2, h3, rfl⟩ := wv_cases x hx
  obtain ⟨b0, b1, b2, b3, g0, g1, g2, g3, rfl⟩ := wv_cases y hy
  rw [wv_mk _ _ _ _ h0 h1 h2 h3, wv_mk _ _ _ _ g0 g1 g2 g3]
  go_enter Hvah.func173, Hvah.ntmps173
  go_wp2_with (first
    | (go_at_call_of 178 (Value.int .u64 (a0 : Nat)); refine (mAdd64 a0 b0 0 h0 g0 (by omega) _).mono ?_; rintro e w' ⟨s0, k0, rfl, i0, j0, r0, rfl⟩)
    | (go_at_call_of 178 (Value.int .u64 (a1 : Nat)); refine (mAdd64 a1 b1 k0 h1 g1 j0 _).mono ?_; rintro e w' ⟨s1, k1, rfl, i1, j1, r1, rfl⟩)
    | (go_at_call_of 178 (Value.int .u64 (a2 : Nat)); refine (mAdd64 a2 b2 k1 h2 g2 j1 _).mono ?_; rintro e w' ⟨s2, k2, rfl, i2, j2, r2, rfl⟩)
    | (go_at_call_of 178 (Value.int .u64 (a3 : Nat)); refine (mAdd64 a3 b3 k2 h3 g3 j2 _).mono ?_; rintro e w' ⟨s3, k3, rfl, i3, j3, r3, rfl⟩))
  have hsum : W4 s0 s1 s2 s3 + P256 * k3 = W4 a0 a1 a2 a3 + W4 b0 b1 b2 b3 := by
    have := r0.out; have := r1.out; have := r2.out; have := r3.out
    unfold W4 P256; omega
  have hlt := W4_lt s0 s1 s2 s3 i0 i1 i2 i3
  have hm : W4 s0 s1 s2 s3 = (W4 a0 a1 a2 a3 + W4 b0 b1 b2 b3) % P256 := by
    rw [← hsum, Nat.add_mul_mod_self_left, Nat.mod_eq_of_lt hlt]
  have hb : decide (P256 ≤ W4 a0 a1 a2 a3 + W4 b0 b1 b2 b3) = ((k3 : Int) != 0) := by
    rw [← hsum]
    rcases (show k3 = 0 ∨ k3 = 1 by omega) with e | e
    · subst e; simp; omega
    · subst e; simp
  refine post_word_tmp Hvah.results173 rfl rfl (heap_new' _ _ (by simp)) rfl i0 i1 i2 i3 hm ⟨by rw [hb]; rfl, ?_⟩
  exact (((Ext.refl _).alloc _ _).alloc _ _).alloc _ _
set_option maxHeartbeats 1600000 in
theorem uSubUnder (x y : Nat) (w : World) (hx : x < P256) (hy : y < P256) :
    Calls Hvah.prog 180 #[wv x, wv y] w fun e w' => e = .returned (.tuple #[wv ((x + P256 - y) % P256), .bool (decide (x < y))]) ∧ Ext w w' := by
  obtain ⟨a0, a1, a2, a3, h0, h1, h2, h3, rfl⟩ := wv_cases x hx
  obtain ⟨b0, b1, b2, b3, g0, g1, g2, g3, rfl⟩ := wv_cases y hy
  rw [wv_mk _ _ _ _ h0 h1 h2 h3, wv_mk _ _ _ _ g0 g1 g2 g3]
  go_enter Hvah.func180, Hvah.ntmps180
  go_wp2_with (first
    | (go_at_call_of 255 (Value.int .u64 (a0 : Nat)); refine (mSub64 a0 b0 0 h0 g0 (by omega) _).mono ?_; rintro e w' ⟨s0, k0, rfl, i0, j0, r0, rfl⟩)
    | (go_at_call_of 255 (Value.int .u64 (a1 : Nat)); refine (mSub64 a1 b1 k0 h1 g1 j0 _).mono ?_; rintro e w' ⟨s1, k1, rfl, i1, j1, r1, rfl⟩)
    | (go_at_call_of 255 (Value.int .u64 (a2 : Nat)); refine (mSub64 a2 b2 k1 h2 g2 j1 _).mono ?_; rintro e w' ⟨s2, k2, rfl, i2, j2, r2, rfl⟩)
    | (go_at_call_of 255 (Value.int .u64 (a3 : Nat)); refine (mSub64 a3 b3 k2 h3 g3 j2 _).mono ?_; rintro e w' ⟨s3, k3, rfl, i3, j3, r3, rfl⟩))
  have hsum : W4 s0 s1 s2 s3 + W4 b0 b1 b2 b3 = W4 a0 a1 a2 a3 + P256 * k3 := by
    have := r0.out; have := r1.out; have := r2.out; have := r3.out
    unfold W4 P256; omega
  have hlt := W4_lt s0 s1 s2 s3 i0 i1 i2 i3
  have hlb := W4_lt b0 b1 b2 b3 g0 g1 g2 g3
  have hla := W4_lt a0 a1 a2 a3 h0 h1 h2 h3
  have hm : W4 s0 s1 s2 s3 = (W4 a0 a1 a2 a3 + P256 - W4 b0 b1 b2 b3) % P256 := by
    rcases (show k3 = 0 ∨ k3 = 1 by omega) with e | e
    · subst e
      rw [show W4 a0 a1 a2 a3 + P256 - W4 b0 b1 b2 b3 = W4 s0 s1 s2 s3 + P256 by omega, Nat.add_mod_right, Nat.mod_eq_of_lt hlt]
    · subst e
      rw [show W4 a0 a1 a2 a3 + P256 - W4 b0 b1 b2 b3 = W4 s0 s1 s2 s3 by omega, Nat.mod_eq_of_lt hlt]
  have hb : decide (W4 a0 a1 a2 a3 < W4 b0 b1 b2 b3) = ((k3 : Int) != 0) := by
    rcases (show k3 = 0 ∨ k3 = 1 by omega) with e | e
    · subst e; simp; omega
    · subst e; simp; omega
  refine post_word_tmp Hvah.results180 rfl rfl (heap_new' _ _ (by simp)) rfl i0 i1 i2 i3 hm ⟨by rw [hb]; rfl, ?_⟩
  exact (((Ext.refl _).alloc _ _).alloc _ _).alloc _ _

attribute [local go_sem] wv_fold

set_option maxHeartbeats 800000 in
theorem uAdd (x y : Nat) (w : World) (hx : x < P256) (hy : y < P256) :
    Calls Hvah.prog 123 #[wv x, wv y] w fun e w' => e = .returned (wv ((x + y) % P256)) ∧ Ext w w' := by
  have hr : (x + y) % P256 < P256 := Nat.mod_lt _ P256_pos
  have hH := fun W => uAddOver x y W hx hy
  generalize (x + y) % P256 = z at *
  go_enter Hvah.func123, Hvah.ntmps123
  go_wp2_with (go_at_call 173; refine (hH _).mono ?_; rintro e w1 ⟨rfl, he⟩; have hrc := he.rc; have hrf := he.rf; have hz2 : w.heap.size + 1 + 1 < w1.heap.size := by (have := he.size; simp at this; omega))
  have hb : w1.heap[w.heap.size + 1 + 1]? = some (.cells #[.int .u64 0, .int .u64 0, .int .u64 0, .int .u64 0] 79 (0, 0)) := by
    rw [he.block _ (by simp)]; exact heap_new' _ _ (by simp)
  refine post_set4 Hvah.results123 rfl rfl hb hz2 (lim_lt _ _) (lim_lt _ _) (lim_lt _ _) (lim_lt _ _) (W4_lim z hr) ⟨rfl, ?_⟩
  exact (ext_set4 (((((Ext.refl _).alloc _ _).alloc _ _).alloc _ _).trans he) (by omega) _ _ _ _).alloc _ _

set_option maxHeartbeats 800000 in
theorem uSub (x y : Nat) (w : World) (hx : x < P256) (hy : y < P256) :
    Calls Hvah.prog 107 #[wv x, wv y] w fun e w' => e = .returned (wv ((x + P256 - y) % P256)) ∧ Ext w w' := by
  have hr : (x + P256 - y) % P256 < P256 := Nat.mod_lt _ P256_pos
  have hH := fun W => uSubUnder x y W hx hy
  generalize (x + P256 - y) % P256 = z at *
  go_enter Hvah.func107, Hvah.ntmps107
  go_wp2_with (go_at_call 180; refine (hH _).mono ?_; rintro e w1 ⟨rfl, he⟩; have hrc := he.rc; have hrf := he.rf; have hz2 : w.heap.size + 1 + 1 < w1.heap.size := by (have := he.size; simp at this; omega))
  have hb : w1.heap[w.heap.size + 1 + 1]? = some (.cells #[.int .u64 0, .int .u64 0, .int .u64 0, .int .u64 0] 79 (0, 0)) := by
    rw [he.block _ (by simp)]; exact heap_new' _ _ (by simp)
  refine post_set4 Hvah.results107 rfl rfl hb hz2 (lim_lt _ _) (lim_lt _ _) (lim_lt _ _) (lim_lt _ _) (W4_lim z hr) ⟨rfl, ?_⟩
  exact (ext_set4 (((((Ext.refl _).alloc _ _).alloc _ _).alloc _ _).trans he) (by omega) _ _ _ _).alloc _ _

set_option maxHeartbeats 800000 in
theorem uLt (x y : Nat) (w : World) (hx : x < P256) (hy : y < P256) :
    Calls Hvah.prog 121 #[wv x, wv y] w fun e w' => e = .returned (.bool (decide (x < y))) ∧ Ext w w' := by
  have hH := fun W => uSubUnder x y W hx hy
  generalize decide (x < y) = bb at *
  go_enter Hvah.func121, Hvah.ntmps121
  go_wp2_with (go_at_call 180; refine (hH _).mono ?_; rintro e w1 ⟨rfl, he⟩)
  go_ret
  exact ⟨rfl, ((((Ext.refl _).alloc _ _).alloc _ _).trans he).alloc _ _⟩

set_option maxHeartbeats 800000 in
theorem uGt (x y : Nat) (w : World) (hx : x < P256) (hy : y < P256) :
    Calls Hvah.prog 174 #[wv x, wv y] w fun e w' => e = .returned (.bool (decide (y < x))) ∧ Ext w w' := by
  have hH := fun W => uLt y x W hy hx
  generalize decide (y < x) = bb at *
  go_enter Hvah.func174, Hvah.ntmps174
  go_wp2_with (go_at_call 121; refine (hH _).mono ?_; rintro e w1 ⟨rfl, he⟩)
  go_ret
  exact ⟨rfl, ((((Ext.refl _).alloc _ _).alloc _ _).trans he)⟩

end Go.Proofs.YgvahwGreat
