import Derived.Test.YgvahwGreatVaultK
namespace Go.Proofs.YgvahwGreat
open Go.RowKit
attribute [local go_sem] wv_fold
/-- The end of a function with two words and a third result. -/
theorem post_word2 {fn : Func} {R : Ending → World → Prop} {ac : Act} {w : World} {t u s : Tmp} {g1 g2 e1 e2 x y : Nat} {fz fz' : Nat × Nat} {v3 : Value} (hf : fn.results = #[.cell t 79, .cell u 79, .tmp s]) (ht : ac.tmps.getD t undef = .pointer (some ⟨g1, 0, none⟩)) (hu : ac.tmps.getD u undef = .pointer (some ⟨g2, 0, none⟩)) (h3 : ac.tmps.getD s undef = v3)
    (h1 : w.heap[g1]? = some (.cells #[.int .u64 (lim x 0 : Nat), .int .u64 (lim x 1 : Nat), .int .u64 (lim x 2 : Nat), .int .u64 (lim x 3 : Nat)] e1 fz)) (h2 : w.heap[g2]? = some (.cells #[.int .u64 (lim y 0 : Nat), .int .u64 (lim y 1 : Nat), .int .u64 (lim y 2 : Nat), .int .u64 (lim y 3 : Nat)] e2 fz')) (hdf : ac.defers = [])
    (h : R (.returned (.tuple #[wv x, wv y, v3])) w) : bodyPost Hvah.prog fn R .ret ac w := by
  refine bodyPost_ret (v := .tuple #[wv x, wv y, v3]) ?_ hdf h
  have r1 := run_load_block (w := w) (L := [.int .u64 (lim x 0 : Nat), .int .u64 (lim x 1 : Nat), .int .u64 (lim x 2 : Nat), .int .u64 (lim x 3 : Nat)]) Hvah.underlying79 rfl (by rw [size66]; rfl) h1
  have r2 := run_load_block (w := w) (L := [.int .u64 (lim y 0 : Nat), .int .u64 (lim y 1 : Nat), .int .u64 (lim y 2 : Nat), .int .u64 (lim y 3 : Nat)]) Hvah.underlying79 rfl (by rw [size66]; rfl) h2
  rw [Array.getD_eq_getD_getElem?] at ht hu h3
  simp [results, hf, ht, hu, h3, asAddr, r1, r2, Result.andThen]
theorem heap_other {w : World} {g b o : Nat} {v : Value} {r : Option Obj} (h : w.heap[g]? = r) (hb : g ≠ b) : (w.setCell ⟨b, o, none⟩ v).heap[g]? = r := (Below.heap_setCell _ _ _ _ hb).trans h
section
variable {own : Nat → Nat} {w : World} {g : Nat} {c : Nat → Value} {V : EV} {a k : Nat}
theorem VRep.slotAt (h : VRep own w g c V) {j : Nat} (hj : V.pk a k = some j) : ∃ b cap c2, c 2436 = .slice (some ⟨b, 0, none⟩) V.slots.length cap ∧ j < V.slots.length ∧ V.slots.length ≤ cap ∧ cap ≤ 9223372036854775807 ∧ Blk w b (cap * 14) 185 c2 ∧ own b = 2 ∧
    (∀ (i : Nat) (h : i < V.slots.length), SlotC c2 (i * 14) V.slots[i]) ∧ SlotC c2 (j * 14) (V.sl a k) ∧ j * 14 + 14 ≤ cap * 14 := by
  unfold EV.pk at hj
  rw [Option.bind_eq_some_iff] at hj
  obtain ⟨i, hi, hj⟩ := hj
  obtain ⟨h1, h2⟩ := ix_some hj
  have hx : V.slots[j] = V.sl a k := by
    have := look_getElem h.wf.s1 h1
    rw [h2] at this
    unfold EV.sl; rw [hi]; simp only [Option.bind_some]; rw [this]; rfl
  rcases h.slots with ⟨h3, _⟩ | ⟨b, cap, c2, h3, h4, h5, h6, h7, h8⟩
  · rw [h3] at h1; simp at h1
  · exact ⟨b, cap, c2, h3, h1, h4, h5, h6, h7, h8, hx ▸ h8 j h1, by have : (j + 1) * 14 ≤ cap * 14 := Nat.mul_le_mul_right _ (by omega); omega⟩
theorem sl_none (hj : V.pk a k = none) : V.sl a k = ESlot.new 0 k := by
  unfold EV.sl
  unfold EV.pk at hj
  cases hi : V.ix a with
  | none => rfl
  | some i =>
    rw [hi] at hj
    simp only [Option.bind_some] at hj ⊢
    have : look ESlot.kc (i, k) V.slots = none := by rw [look_ix, hj]; rfl
    rw [this]; rfl
set_option maxRecDepth 100000 in
set_option maxHeartbeats 800000 in
theorem vIsWarmSlot (h : VRep own w g c V) (ha : a < 2 ^ 160) (hk : k < P256) :
    Calls Hvah.prog 183 #[.pointer (some ⟨g, 2435, none⟩), .agg (av a), wv k] w fun e w' => e = .returned (.bool (V.sl a k).warm) ∧ Ext w w' := by
  have HP : ∀ W, Ext w W → Calls Hvah.prog 256 #[.pointer (some ⟨g, 2435, none⟩), .agg (av a), wv k] W fun e w' => e = .returned (.int .i32 (ixv (V.pk a k))) ∧ Ext W w' := fun W hW => vPeekSlot (h.ext hW) ha hk
  cases hj : V.pk a k with
  | none =>
    rw [hj] at HP
    rw [sl_none hj]
    have HP' : ∀ W, Ext w W → Calls Hvah.prog 256 #[.pointer (some ⟨g, 2435, none⟩), .agg (av a), wv k] W fun e w' => e = .returned (.int .i32 (-1)) ∧ Ext W w' := HP
    clear HP
    go_enter Hvah.func183, Hvah.ntmps183
    go_wp2_with (first | ((with_reducible (refine Veil.out ?_; apply wl_box)); (case hx => rfl)) | ((with_reducible (refine Veil.out ?_; apply wl_load_av (n := a))); (case hn => exact ha); (case hx => rfl); (case hr => exact row_box a ((Ext.refl _).alloc _ _))) | (go_at_call 256; refine (HP' _ (((Ext.refl _).alloc _ _).alloc _ _)).mono ?_; rintro e w1 ⟨rfl, he⟩; have hE := (((Ext.refl w).alloc (av a) 31).alloc #[.int .u64 (lim k 0 : Nat), .int .u64 (lim k 1 : Nat), .int .u64 (lim k 2 : Nat), .int .u64 (lim k 3 : Nat)] 79).trans he))
    go_ret
    exact ⟨rfl, hE⟩
  | some j =>
    rw [hj] at HP
    have HP' : ∀ W, Ext w W → Calls Hvah.prog 256 #[.pointer (some ⟨g, 2435, none⟩), .agg (av a), wv k] W fun e w' => e = .returned (.int .i32 (j : Int)) ∧ Ext W w' := HP
    clear HP
    obtain ⟨b, cap, c2, hv, hjl, hlc, hcm, hb, ho, _, hA, hin⟩ := h.slotAt hj
    generalize V.sl a k = x at *
    have hji : (j : Int) < V.slots.length := by omega
    go_enter Hvah.func183, Hvah.ntmps183
    go_wp2_with (first | ((with_reducible (refine Veil.out ?_; apply wl_box)); (case hx => rfl)) | ((with_reducible (refine Veil.out ?_; apply wl_load_av (n := a))); (case hn => exact ha); (case hx => rfl); (case hr => exact row_box a ((Ext.refl _).alloc _ _))) | (go_at_call 256; refine (HP' _ (((Ext.refl _).alloc _ _).alloc _ _)).mono ?_; rintro e w1 ⟨rfl, he⟩; have hE := (((Ext.refl w).alloc (av a) 31).alloc #[.int .u64 (lim k 0 : Nat), .int .u64 (lim k 1 : Nat), .int .u64 (lim k 2 : Nat), .int .u64 (lim k 3 : Nat)] 79).trans he; have k0 := (h.blk.ext hE).cell (i := 2436) (by omega); rw [hv] at k0; have k1 := (hb.ext hE).cell (i := j * 14 + 13) (by omega); rw [hA.warm] at k1))
    go_ret
    exact ⟨rfl, hE⟩
set_option maxRecDepth 100000 in
set_option maxHeartbeats 800000 in
theorem vPeek (h : VRep own w g c V) (ha : a < 2 ^ 160) (hk : k < P256) :
    Calls Hvah.prog 313 #[.pointer (some ⟨g, 2435, none⟩), .agg (av a), wv k] w fun e w' => e = .returned (.tuple #[wv (V.sl a k).val, wv (V.sl a k).orig, .bool (V.sl a k).warm]) ∧ Ext w w' := by
  have HP : ∀ W, Ext w W → Calls Hvah.prog 256 #[.pointer (some ⟨g, 2435, none⟩), .agg (av a), wv k] W fun e w' => e = .returned (.int .i32 (ixv (V.pk a k))) ∧ Ext W w' := fun W hW => vPeekSlot (h.ext hW) ha hk
  cases hj : V.pk a k with
  | none =>
    rw [hj] at HP
    rw [sl_none hj]
    have HP' : ∀ W, Ext w W → Calls Hvah.prog 256 #[.pointer (some ⟨g, 2435, none⟩), .agg (av a), wv k] W fun e w' => e = .returned (.int .i32 (-1)) ∧ Ext W w' := HP
    clear HP
    go_enter Hvah.func313, Hvah.ntmps313
    go_wp2_with (first | ((with_reducible (refine Veil.out ?_; apply wl_box)); (case hx => rfl)) | ((with_reducible (refine Veil.out ?_; apply wl_load_av (n := a))); (case hn => exact ha); (case hx => rfl); (case hr => exact row_box a ((((Ext.refl _).alloc _ _).alloc _ _).alloc _ _))) | (go_at_call 256; refine (HP' _ (((((Ext.refl _).alloc _ _).alloc _ _).alloc _ _).alloc _ _)).mono ?_; rintro e w1 ⟨rfl, he⟩; have hE := (((((Ext.refl w).alloc (av a) 31).alloc #[.int .u64 (lim k 0 : Nat), .int .u64 (lim k 1 : Nat), .int .u64 (lim k 2 : Nat), .int .u64 (lim k 3 : Nat)] 79).alloc #[.int .u64 0, .int .u64 0, .int .u64 0, .int .u64 0] 79).alloc #[.int .u64 0, .int .u64 0, .int .u64 0, .int .u64 0] 79).trans he; have hw2 := (he.block (w.heap.size + 2) (by simp)).trans ((Below.heap_alloc _ _ _ (by simp)).trans (heap_new' _ _ (by simp))); have hw3 := (he.block (w.heap.size + 3) (by simp)).trans (heap_new' _ _ (by simp)); have f2 := frozen_there hw2; have f3 := frozen_there hw3; obtain ⟨p0, p1, p2, p3⟩ := cell_there hw2; obtain ⟨q0, q1, q2, q3⟩ := cell_there hw3))
    have h2 := heap_set4 (v0 := .int .u64 0) (v1 := .int .u64 0) (v2 := .int .u64 0) (v3 := .int .u64 0) hw2
    have h3 := heap_set4 (v0 := .int .u64 0) (v1 := .int .u64 0) (v2 := .int .u64 0) (v3 := .int .u64 0) (heap_other (heap_other (heap_other (heap_other hw3 (b := w.heap.size + 2) (o := 0) (v := .int .u64 0) (by omega)) (b := w.heap.size + 2) (o := 1) (v := .int .u64 0) (by omega)) (b := w.heap.size + 2) (o := 2) (v := .int .u64 0) (by omega)) (b := w.heap.size + 2) (o := 3) (v := .int .u64 0) (by omega))
    refine post_word2 (e1 := 79) (fz := (0, 0)) (x := 0) (y := 0) Hvah.results313 rfl rfl rfl ?_ (by simp only [lim_zero]; exact h3) rfl ⟨rfl, ?_⟩
    · simp only [lim_zero]
      exact heap_other (heap_other (heap_other (heap_other h2 (by omega)) (by omega)) (by omega)) (by omega)
    · exact ext_set4 (ext_set4 hE (by omega) _ _ _ _) (by omega) _ _ _ _
  | some j =>
    rw [hj] at HP
    have HP' : ∀ W, Ext w W → Calls Hvah.prog 256 #[.pointer (some ⟨g, 2435, none⟩), .agg (av a), wv k] W fun e w' => e = .returned (.int .i32 (j : Int)) ∧ Ext W w' := HP
    clear HP
    obtain ⟨b, cap, c2, hv, hjl, hlc, hcm, hb, ho, _, hA, hin⟩ := h.slotAt hj
    generalize V.sl a k = x at *
    have hji : (j : Int) < V.slots.length := by omega
    go_enter Hvah.func313, Hvah.ntmps313
    go_wp2_with (first | ((with_reducible (refine Veil.out ?_; apply wl_box)); (case hx => rfl)) | ((with_reducible (refine Veil.out ?_; apply wl_load_av (n := a))); (case hn => exact ha); (case hx => rfl); (case hr => exact row_box a ((((Ext.refl _).alloc _ _).alloc _ _).alloc _ _))) | (go_at_call 256; refine (HP' _ (((((Ext.refl _).alloc _ _).alloc _ _).alloc _ _).alloc _ _)).mono ?_; rintro e w1 ⟨rfl, he⟩; have hE := (((((Ext.refl w).alloc (av a) 31).alloc #[.int .u64 (lim k 0 : Nat), .int .u64 (lim k 1 : Nat), .int .u64 (lim k 2 : Nat), .int .u64 (lim k 3 : Nat)] 79).alloc #[.int .u64 0, .int .u64 0, .int .u64 0, .int .u64 0] 79).alloc #[.int .u64 0, .int .u64 0, .int .u64 0, .int .u64 0] 79).trans he; have hw2 := (he.block (w.heap.size + 2) (by simp)).trans ((Below.heap_alloc _ _ _ (by simp)).trans (heap_new' _ _ (by simp))); have hw3 := (he.block (w.heap.size + 3) (by simp)).trans (heap_new' _ _ (by simp)); have f2 := frozen_there hw2; have f3 := frozen_there hw3; obtain ⟨p0, p1, p2, p3⟩ := cell_there hw2; obtain ⟨q0, q1, q2, q3⟩ := cell_there hw3; have k0 := (h.blk.ext hE).cell (i := 2436) (by omega); rw [hv] at k0; have k1 := (hb.ext hE).cell (i := j * 14 + 13) (by omega); rw [hA.warm] at k1; obtain ⟨r0, r1, r2, r3⟩ := hA.val.cells (hb.ext hE) (by omega); obtain ⟨s0, s1, s2, s3⟩ := hA.orig.cells (hb.ext hE) (by omega); have hbl := hb.lt))
    go_region
    go_wp2
    have h2 := heap_set4 (v0 := .int .u64 (lim x.val 0 : Nat)) (v1 := .int .u64 (lim x.val 1 : Nat)) (v2 := .int .u64 (lim x.val 2 : Nat)) (v3 := .int .u64 (lim x.val 3 : Nat)) hw2
    have h3 := heap_set4 (v0 := .int .u64 (lim x.orig 0 : Nat)) (v1 := .int .u64 (lim x.orig 1 : Nat)) (v2 := .int .u64 (lim x.orig 2 : Nat)) (v3 := .int .u64 (lim x.orig 3 : Nat)) (heap_other (heap_other (heap_other (heap_other hw3 (b := w.heap.size + 2) (o := 0) (v := .int .u64 (lim x.val 0 : Nat)) (by omega)) (b := w.heap.size + 2) (o := 1) (v := .int .u64 (lim x.val 1 : Nat)) (by omega)) (b := w.heap.size + 2) (o := 2) (v := .int .u64 (lim x.val 2 : Nat)) (by omega)) (b := w.heap.size + 2) (o := 3) (v := .int .u64 (lim x.val 3 : Nat)) (by omega))
    have hdw : ∀ (W : World) (q : Nat), W.drew.heap[q]? = W.heap[q]? := fun _ _ => rfl
    refine post_word2 (e1 := 79) (e2 := 79) (fz := (0, 0)) (fz' := (0, 0)) (x := x.val) (y := x.orig) Hvah.results313 rfl rfl rfl ?_ ?_ rfl ⟨rfl, ?_⟩
    · rw [hdw]; exact heap_other (heap_other (heap_other (heap_other h2 (by omega)) (by omega)) (by omega)) (by omega)
    · rw [hdw]; exact h3
    · exact (ext_set4 (ext_set4 hE (by omega) _ _ _ _) (by omega) _ _ _ _).drew
end
end Go.Proofs.YgvahwGreat
