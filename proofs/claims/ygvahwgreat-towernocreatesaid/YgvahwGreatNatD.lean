import Derived.Test.YgvahwGreatNatC
namespace Go.Proofs.YgvahwGreat
open Go.RowKit

theorem divmod_step (V P y X : Nat) (h : V + P * y = X) : V + P * (y % 256) + P * 256 * (y / 256) = X := by
  have := carry_step P y; omega

set_option maxHeartbeats 800000 in
/-- nat.FromU64. -/
theorem fromU64_nl (O : Nat → Prop) (X : Nat) (w : World) (hO : ∀ b, O b → b < w.heap.size) (hX : X < 18446744073709551616) :
    Calls Hvah.prog 96 #[.int .u64 X] w fun e w' => ∃ r, e = .returned r ∧ NL O w' r (digs X) ∧ Ext w w' := by
  go_enter Hvah.func96, Hvah.ntmps96
  go_wp2
  go_loopw [0, 5] (fun x i wr => ∃ (k y : Nat) (xs : List Nat), k ≤ 8 ∧ i = .int .i64 k ∧ x = .int .u64 y ∧ y < 18446744073709551616 ∧ xs.length = k ∧ Digits xs ∧
      Hid (val xs + 256 ^ k * y = X) ∧ wr.heap[w.heap.size]? = some (.cells (bcells (xs ++ List.replicate (8 - k) 0)).toArray 271 (0, 0)) ∧ Ext w wr)
    (fun _ i _ => 8 - (intOf i).toNat)
  case atStart => exact ⟨0, X, [], by omega, rfl, rfl, hX, rfl, digits_nil, by simp [Hid, val], by rw [heap_new]; rfl, (Ext.refl _).alloc _ _⟩
  case round =>
    obtain ⟨k, y, xs, hk, rfl, rfl, hy, hxl, hxd, hv, hrow, hext⟩ := hrel
    by_cases hlt : k < 8
    · have cr := cell_row hrow k (by simp; omega)
      have fr := frozen_row hrow k
      have HS : Hid (∀ d, (wr.setCell ⟨w.heap.size, k, none⟩ (.int .u8 (d : Nat))).heap[w.heap.size]? = some (.cells (bcells ((xs ++ [d]) ++ List.replicate (8 - (k + 1)) 0)).toArray 271 (0, 0))) := fun d => by
        rw [heap_setByte hrow k d, set_append_replicate xs k _ d hxl (by omega)]
      go_wp2
      refine ⟨⟨k + 1, y / 256, xs ++ [y % 256], by omega, int_eq (by omega), int_eq (by omega), by omega, by simp [hxl], digits_snoc hxd (by omega), ?_, ?_, hext.setCell (Nat.le_refl _) _⟩, by simp [intOf]; omega⟩
      · unfold Hid
        rw [val_snoc, hxl, Nat.pow_succ]
        exact divmod_step _ _ _ _ hv.out
      · rw [show ((y : Int) % 256) = ((y % 256 : Nat) : Int) by omega]; exact HS.out _
    · have hk8 : k = 8 := by omega
      subst hk8
      have hy0 : y = 0 := by
        have := hv.out
        have h8 : (256 : Nat) ^ 8 = 18446744073709551616 := by decide
        rw [h8] at this; omega
      have hnv : NV O wr (.slice (some ⟨w.heap.size, 0, none⟩) 8 8) X := by
        refine ⟨xs, NL.row (t := 271) (by simpa using hrow) hxd (fun hb => by have := hO _ hb; omega) hxl (by omega), ?_⟩
        have := hv.out; rw [hy0] at this; simpa using this
      have hO' : ∀ b, O b → b < wr.heap.size := fun b hb => Nat.lt_of_lt_of_le (hO b hb) hext.size
      go_wp2_with (go_at_call 132; refine (norm_nl O _ X wr hO' hnv).mono ?_; rintro e w2 ⟨r, rfl, hr, he2⟩)
      go_ret
      exact ⟨_, rfl, hr, hext.trans he2⟩

set_option maxHeartbeats 800000 in
/-- nat.U64 where it does not fit. -/
theorem u64_no (O : Nat → Prop) (v : Value) (x : Nat) (w : World) (h : NV O w v x) (hx : 18446744073709551616 ≤ x) :
    Calls Hvah.prog 89 #[v] w fun e w' => e = .returned (.tuple #[.int .u64 0, .bool false]) ∧ w' = w := by
  have hlen : 8 < (digs x).length := by
    apply Nat.lt_of_not_le; intro hh
    have := (digs_length_le x 8).1 hh
    have h8 : (256 : Nat) ^ 8 = 18446744073709551616 := by decide
    omega
  go_enter Hvah.func89, Hvah.ntmps89
  go_wp2_with (go_at_call 97; refine (trim_nv O v x w h).mono ?_; rintro e w' ⟨o, rfl, hbs, hle, rfl⟩)
  go_ret2
  exact ⟨rfl, rfl⟩

set_option maxHeartbeats 800000 in
/-- nat.U64 where it fits. -/
theorem u64_yes (O : Nat → Prop) (v : Value) (x : Nat) (w : World) (h : NV O w v x) (hx : x < 18446744073709551616) :
    Calls Hvah.prog 89 #[v] w fun e w' => e = .returned (.tuple #[.int .u64 x, .bool true]) ∧ w' = w := by
  have hlen : (digs x).length ≤ 8 := (digs_length_le x 8).2 (by have h8 : (256 : Nat) ^ 8 = 18446744073709551616 := by decide
                                                                omega)
  go_enter Hvah.func89, Hvah.ntmps89
  go_wp2_with (go_at_call 97; refine (trim_nv O v x w h).mono ?_; rintro e w' ⟨o, rfl, hbs, hle, rfl⟩)
  go_loop [4, 5] (fun y i => ∃ k z : Nat, k ≤ (digs x).length ∧ i = .int .i64 k ∧ y = .int .u64 z ∧ Hid (z = val ((digs x).drop k))) (fun _ i => (intOf i).toNat)
  case atStart => exact ⟨(digs x).length, 0, Nat.le_refl _, rfl, rfl, by simp [Hid, val]⟩
  case round =>
    obtain ⟨k, z, hk, rfl, rfl, hz⟩ := hrel
    by_cases h0 : 0 < k
    · obtain ⟨q, rfl⟩ : ∃ q, k = q + 1 := ⟨k - 1, by omega⟩
      have hq : q < (digs x).length := by omega
      obtain ⟨b, off, rfl, hO1, hb1, hcell⟩ := hbs.spot (by intro e; rw [e] at hq; simp at hq)
      have c1 := hcell q hq
      have b1 := digits_digs x _ (List.getElem_mem hq)
      have HD : Hid (val ((digs x).drop q) = (digs x)[q] + 256 * val ((digs x).drop (q + 1))) := by unfold Hid; rw [List.drop_eq_getElem_cons hq]; rfl
      clear hcell
      generalize (digs x)[q] = d at *
      have hb : val ((digs x).drop q) < 18446744073709551616 := by
        have e := val_append ((digs x).take q) ((digs x).drop q)
        rw [List.take_append_drop, val_digs] at e
        have : 1 * val ((digs x).drop q) ≤ 256 ^ ((digs x).take q).length * val ((digs x).drop q) := Nat.mul_le_mul_right _ (Nat.pow_pos (by decide))
        omega
      have hz' := hz.out
      have hd' := HD.out
      rw [← hz'] at hd'
      have HZ : Hid (IntKind.u64.wrap ((z : Int) * 256) = ((z * 256 : Nat) : Int)) := by unfold Hid; rw [IntKind.wrap_u64]; omega
      have HO : Hid (bits .or .u64 ((z * 256 : Nat) : Int) (d : Int) = ((d + 256 * z : Nat) : Int)) := by
        unfold Hid; rw [u64_or_nat _ _ (by omega) (by omega), or_low 8 z d (by omega)]; congr 1; omega
      have HE : Hid (d + 256 * z = val ((digs x).drop q)) := hd'.symm
      clear hz' hd' hb
      go_wp2
      refine ⟨⟨q, d + 256 * z, by omega, rfl, ?_, HE⟩, by simp [intOf]⟩
      rw [HZ.out, HO.out]
    · have : k = 0 := by omega
      subst this
      have hz' : z = x := by have := hz.out; rwa [List.drop_zero, val_digs] at this
      subst hz'
      go_wp2
      go_ret2
      exact ⟨rfl, rfl⟩

theorem pad_step (n : Nat) (l : List Nat) (k : Nat) (d : Nat) (hk : k < n) (hl : l.length = k) : (List.replicate (n - k) 0 ++ l).set (n - 1 - k) d = List.replicate (n - (k + 1)) 0 ++ (d :: l) := by
  obtain ⟨m, hm⟩ : ∃ m, n - k = m + 1 := ⟨n - k - 1, by omega⟩
  rw [hm, show n - 1 - k = m by omega, show n - (k + 1) = m by omega, List.replicate_succ', List.append_assoc, List.set_append_right _ _ (by simp)]
  simp

/-- x as n bytes, the most significant first. -/
def beL (n x : Nat) : List Nat := List.replicate (n - (digs x).length) 0 ++ (digs x).reverse

theorem beL_length (n x : Nat) (h : (digs x).length ≤ n) : (beL n x).length = n := by simp [beL]; omega
theorem bcells_one (l : List Nat) : ∀ v ∈ bcells l, v.oneCell' = true := by
  intro v hv
  simp only [bcells, List.mem_map] at hv
  obtain ⟨x, _, rfl⟩ := hv
  rfl
theorem row27 : (Hvah.prog.info? 32).map (·.size) = some 32 := by kernel_rfl

set_option maxHeartbeats 1600000 in
/-- nat.BE32 where it fits. -/
theorem be32_yes (O : Nat → Prop) (v : Value) (x : Nat) (w : World) (h : NV O w v x) (hx : (digs x).length ≤ 32) :
    Calls Hvah.prog 90 #[v] w fun e w' => e = .returned (.tuple #[.agg (bcells (beL 32 x)).toArray, .bool true]) ∧ Ext w w' := by
  have e2 : Ext w ((w.alloc (.cells (zarr 32).toArray 32)).alloc (.cells (zarr 32).toArray 32)) := ((Ext.refl _).alloc _ _).alloc _ _
  have h2 := h.og e2
  go_enter Hvah.func90, Hvah.ntmps90
  go_wp2_with (first
    | (go_at_call 97; refine (trim_nv _ v x _ h2).mono ?_; rintro e w' ⟨o, rfl, hbs, hle, rfl⟩)
    | (with_reducible (refine Veil.out ?_; apply wl_alloc 32 Hvah.t32 (zarr 32).toArray info27 zero27)))
  go_loopw [15] (fun i wr => ∃ (k : Nat), k ≤ (digs x).length ∧ i = .int .i64 k ∧
      wr.heap[w.heap.size + 1]? = some (.cells (bcells (List.replicate (32 - k) 0 ++ ((digs x).take k).reverse)).toArray 32 (0, 0)) ∧ wr.heap[w.heap.size]? = some (.cells (zarr 32).toArray 32 (0, 0)) ∧ Ext w wr)
    (fun i _ => (digs x).length - (intOf i).toNat)
  case atStart => exact ⟨0, Nat.zero_le _, rfl, by rw [show w.heap.size + 1 = (w.alloc (.cells (zarr 32).toArray 32)).heap.size by simp, heap_new]; rfl, by rw [Below.heap_alloc _ _ _ (by simp), heap_new], ((Ext.refl _).alloc _ _).alloc _ _⟩
  case round =>
    obtain ⟨k, hk, rfl, hrow, hrow0, hext⟩ := hrel
    have hb := hbs.keep e2 hext
    clear hbs h2 h e2
    by_cases hlt : k < (digs x).length
    · obtain ⟨b, off, rfl, hO1, hb1, hcell⟩ := hb.spot (by intro e; rw [e] at hlt; simp at hlt)
      have c1 := hcell k hlt
      have cr := cell_row hrow (31 - k) (by simp; omega)
      have fr := frozen_row hrow (31 - k)
      have e31 : ((31 : Int) - (k : Int)).toNat = 31 - k := by omega
      have HS : Hid ((wr.setCell ⟨w.heap.size + 1, 31 - k, none⟩ (.int .u8 ((digs x)[k] : Nat))).heap[w.heap.size + 1]? = some (.cells (bcells (List.replicate (32 - (k + 1)) 0 ++ ((digs x).take (k + 1)).reverse)).toArray 32 (0, 0))) := by
        unfold Hid
        rw [heap_setByte hrow (31 - k) _, pad_step 32 _ k _ (by omega) (by simp; omega), List.take_succ_eq_append_getElem hlt, List.reverse_append]; rfl
      generalize (digs x)[k] = d at *
      clear hcell
      go_wp2
      exact ⟨⟨k + 1, by omega, int_eq (by omega), HS.out, by rw [Below.heap_setCell _ _ _ _ (by simp)]; exact hrow0, hext.setCell (by simp) _⟩, by simp [intOf]; omega⟩
    · have : k = (digs x).length := by omega
      subst this
      rw [List.take_of_length_le (Nat.le_refl _)] at hrow
      have hL : (bcells (beL 32 x)).length = 32 := by rw [bcells_length]; exact beL_length 32 x hx
      have hrow' : wr.heap[w.heap.size + 1]? = some (.cells (bcells (beL 32 x)).toArray 32 (0, 0)) := hrow
      have hb1 := bcells_one (beL 32 x)
      generalize hCC : bcells (beL 32 x) = C at *
      have HC : Hid (bcells (beL 32 x) = C) := hCC
      clear hrow hCC
      go_wp2_with (first
        | ((with_reducible (refine Veil.out ?_; apply wl_load_row 32 _ 32 Hvah.underlying32 rfl row27 (L := C) (et := 32) (fz := (0, 0)))); (case hx => rfl); (case hg => exact hrow'); (case hf => omega); rw [List.drop_zero, List.take_of_length_le (by omega)])
        | ((with_reducible (refine Veil.out ?_; apply wl_store_row 32 32 row27 (vs := C) (L := zarr 32) (et := 32))); (case hx => rfl); (case hy => rfl); (case hn => exact hL); (case h1 => exact hb1); (case hg => exact hrow0); (case hf => simp [zarr, bcells])))
      have hf0 : (wr.setRow w.heap.size (lay (zarr 32) 0 C).toArray).heap[w.heap.size]? = some (.cells C.toArray 32 (0, 0)) := by
        rw [setRow_heap _ _ _ _ _ _ hrow0, lay_whole _ _ (by rw [hL]; simp [zarr, bcells])]
      refine post_cell_tmp (g := w.heap.size) (L := C) (v2 := .bool true) Hvah.results90 rfl rfl Hvah.underlying32 rfl (by rw [row27, hL]) hf0 rfl ⟨by rw [HC.out], hext.setRow (Nat.le_refl _) _⟩

end Go.Proofs.YgvahwGreat
