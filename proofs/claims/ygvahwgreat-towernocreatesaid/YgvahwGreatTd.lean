import Derived.Test.YgvahwGreatTa
import Derived.Test.YgvahwGreatYpS
namespace Go.Proofs.YgvahwGreat
open Go.RowKit
set_option linter.unusedSimpArgs false
/-- The specification's hash, as a contract. -/
def KSum : Prop := ∀ (O' : Nat → Prop) (w : World) (v : Value) (l : List Nat), NL O' w v l → l.length ≤ 1000000 → Calls Hvah.prog 224 #[v] w fun e w' => e = .returned (.agg (bw (kec l))) ∧ Ext w w'
theorem leL_len : ∀ n x, (leL n x).length = n
  | 0, _ => rfl
  | n + 1, x => by rw [leL, List.length_cons, leL_len n]
theorem leL_dig : ∀ n x, Digits (leL n x)
  | 0, _ => fun d hd => by cases hd
  | n + 1, x => fun d hd => by
    rcases List.mem_cons.1 hd with rfl | hd
    · exact Nat.mod_lt _ (by decide)
    · exact leL_dig n _ d hd
theorem kecL_len (l : List Nat) : (kecL l).length = 32 := by simp [kecL, leL_len]
theorem kecL_dig (l : List Nat) : Digits (kecL l) := fun d hd => by
  simp only [kecL, List.mem_append] at hd
  rcases hd with ((hd | hd) | hd) | hd <;> exact leL_dig _ _ d hd
theorem kec_lt (l : List Nat) : kec l < P256 := by
  have := bev_lt (kecL l) (kecL_dig l)
  rw [kecL_len] at this
  rw [P256_32]
  exact this
theorem bw_size {x : Nat} (h : x < P256) : (bw x).size = 32 := by simp [bw, bcells_length, len32 h]
theorem bw_one (x : Nat) : ∀ u ∈ (bw x).toList, u.oneCell' = true := fun u hu => by
  simp [bw, bcells] at hu
  obtain ⟨d, _, rfl⟩ := hu
  rfl
theorem alT27 : AlT 32 32 := alT_of (by kernel_rfl)
theorem alT28 : AlT 33 32 := alT_of (by kernel_rfl)
section
variable {O : Nat → Prop} {w : World} {x : YA} {u1 u2 u3 u4 : Value} {a : Nat}
set_option maxRecDepth 100000 in
set_option maxHeartbeats 6400000 in
theorem yAccV49 (_hO : Small O w) (hp : AcP O w x u1 u2 u3 u4) (ha : x.addr = a) : Calls Hvah.prog 240 #[.agg (acR a u1 u2 u3 u4), .int .u8 49] w fun e w' => ∃ r, e = .returned r ∧ NV O w' r (x.bal) ∧ Ext w w' := by
  have hO := _hO
  have hx := hp.aLt
  rw [ha] at hx
  have hrow := row_new w (acR a u1 u2 u3 u4) 121
  obtain ⟨c20, c21, c22, c23⟩ := ac_cells (q := 0) hx hrow
  simp only [Nat.zero_add] at c20 c21 c22 c23
  have hE0 : Ext w (w.alloc (.cells (acR a u1 u2 u3 u4) 121)) := (Ext.refl w).alloc _ _
  have hb := hp.bal
  go_enter Hvah.func240, Hvah.ntmps240
  go_wp2_with (first
    | ((with_reducible (refine Veil.out ?_; apply wl_box)); (case hx => rfl))
    | (go_at_call 132; refine (nNorm O _ _ _ (hO.ext (by (repeat (first | with_reducible exact Ext.refl _ | with_reducible assumption | refine Ext.trans ?_ (by with_reducible assumption) | refine Ext.alloc ?_ _ _ | refine Ext.drew ?_ | refine Ext.drewN ?_ _)))) (NV.ext (by with_reducible assumption) (by (repeat (first | with_reducible exact Ext.refl _ | with_reducible assumption | refine Ext.trans ?_ (by with_reducible assumption) | refine Ext.alloc ?_ _ _ | refine Ext.drew ?_ | refine Ext.drewN ?_ _))))).mono ?_; rintro e w1 ⟨r, rfl, hr0, he⟩; have hr := hr0.nv))
  go_ret
  exact ⟨_, rfl, hr, by (repeat (first | with_reducible exact Ext.refl _ | with_reducible assumption | refine Ext.trans ?_ (by with_reducible assumption) | refine Ext.alloc ?_ _ _ | refine Ext.drew ?_ | refine Ext.drewN ?_ _))⟩
set_option maxRecDepth 100000 in
set_option maxHeartbeats 6400000 in
theorem yAccV59 (_hO : Small O w) (hp : AcP O w x u1 u2 u3 u4) (ha : x.addr = a) : Calls Hvah.prog 240 #[.agg (acR a u1 u2 u3 u4), .int .u8 59] w fun e w' => ∃ r, e = .returned r ∧ NV O w' r (x.code.length) ∧ Ext w w' := by
  have hO := _hO
  have hx := hp.aLt
  rw [ha] at hx
  have hrow := row_new w (acR a u1 u2 u3 u4) 121
  obtain ⟨c20, c21, c22, c23⟩ := ac_cells (q := 0) hx hrow
  simp only [Nat.zero_add] at c20 c21 c22 c23
  have hE0 : Ext w (w.alloc (.cells (acR a u1 u2 u3 u4) 121)) := (Ext.refl w).alloc _ _
  obtain ⟨oc, cc, hu3, h1, h2, h3⟩ := hp.code
  subst hu3
  have hcl : (x.code.length : Int) ≤ 140737488355328 := by omega
  have hcw : IntKind.u64.wrap (x.code.length : Int) = x.code.length := by rw [IntKind.wrap_u64]; omega
  go_enter Hvah.func240, Hvah.ntmps240
  go_wp2_with (first
    | ((with_reducible (refine Veil.out ?_; apply wl_box)); (case hx => rfl))
    | (go_at_call 42; refine (nNum O x.code.length _ (hO.ext (by (repeat (first | with_reducible exact Ext.refl _ | with_reducible assumption | refine Ext.trans ?_ (by with_reducible assumption) | refine Ext.alloc ?_ _ _ | refine Ext.drew ?_ | refine Ext.drewN ?_ _)))) (by omega)).mono ?_; rintro e w1 ⟨r, rfl, hr, he⟩))
  go_ret
  exact ⟨_, rfl, hr, by (repeat (first | with_reducible exact Ext.refl _ | with_reducible assumption | refine Ext.trans ?_ (by with_reducible assumption) | refine Ext.alloc ?_ _ _ | refine Ext.drew ?_ | refine Ext.drewN ?_ _))⟩
set_option maxRecDepth 100000 in
set_option maxHeartbeats 6400000 in
theorem yAccV63t (_hO : Small O w) (hp : AcP O w x u1 u2 u3 u4) (ha : x.addr = a) (hem : x.empty = true) : Calls Hvah.prog 240 #[.agg (acR a u1 u2 u3 u4), .int .u8 63] w fun e w' => ∃ r, e = .returned r ∧ NV O w' r (0) ∧ Ext w w' := by
  have hO := _hO
  have hx := hp.aLt
  rw [ha] at hx
  have hrow := row_new w (acR a u1 u2 u3 u4) 121
  obtain ⟨c20, c21, c22, c23⟩ := ac_cells (q := 0) hx hrow
  simp only [Nat.zero_add] at c20 c21 c22 c23
  have hE0 : Ext w (w.alloc (.cells (acR a u1 u2 u3 u4) 121)) := (Ext.refl w).alloc _ _
  go_enter Hvah.func240, Hvah.ntmps240
  go_wp2_with (first
    | ((with_reducible (refine Veil.out ?_; apply wl_box)); (case hx => rfl))
    | (go_at_call 33; refine (yEmptyB hem ha (hrow) (hp.ext (by (repeat (first | with_reducible exact Ext.refl _ | with_reducible assumption | refine Ext.trans ?_ (by with_reducible assumption) | refine Ext.alloc ?_ _ _ | refine Ext.drew ?_ | refine Ext.drewN ?_ _))))).mono ?_; rintro e w1 ⟨rfl, he⟩; have k22 := (he.cell (p := ⟨w.heap.size, 22, none⟩) (by simp)).trans c22))
  go_ret
  exact ⟨_, rfl, NV.nil, by (repeat (first | with_reducible exact Ext.refl _ | with_reducible assumption | refine Ext.trans ?_ (by with_reducible assumption) | refine Ext.alloc ?_ _ _ | refine Ext.drew ?_ | refine Ext.drewN ?_ _))⟩
set_option maxRecDepth 100000 in
set_option maxHeartbeats 6400000 in
theorem yAccV63f (_hO : Small O w) (hp : AcP O w x u1 u2 u3 u4) (ha : x.addr = a) (hem : x.empty = false) (HK : KSum) (hcl : x.code.length ≤ 1000000) : Calls Hvah.prog 240 #[.agg (acR a u1 u2 u3 u4), .int .u8 63] w fun e w' => ∃ r, e = .returned r ∧ NV O w' r (kec x.code) ∧ Ext w w' := by
  have hO := _hO
  have hx := hp.aLt
  rw [ha] at hx
  have hrow := row_new w (acR a u1 u2 u3 u4) 121
  obtain ⟨c20, c21, c22, c23⟩ := ac_cells (q := 0) hx hrow
  simp only [Nat.zero_add] at c20 c21 c22 c23
  have hE0 : Ext w (w.alloc (.cells (acR a u1 u2 u3 u4) 121)) := (Ext.refl w).alloc _ _
  go_enter Hvah.func240, Hvah.ntmps240
  go_wp2_with (first
    | ((with_reducible (refine Veil.out ?_; apply wl_box)); (case hx => rfl))
    | (go_at_call 33; refine (yEmptyB hem ha (hrow) (hp.ext (by (repeat (first | with_reducible exact Ext.refl _ | with_reducible assumption | refine Ext.trans ?_ (by with_reducible assumption) | refine Ext.alloc ?_ _ _ | refine Ext.drew ?_ | refine Ext.drewN ?_ _))))).mono ?_; rintro e w1 ⟨rfl, he⟩; have k22 := (he.cell (p := ⟨w.heap.size, 22, none⟩) (by simp)).trans c22)
    | (go_at_call 224; refine (HK _ _ _ _ (hp.code.ext (by (repeat (first | with_reducible exact Ext.refl _ | with_reducible assumption | refine Ext.trans ?_ (by with_reducible assumption) | refine Ext.alloc ?_ _ _ | refine Ext.drew ?_ | refine Ext.drewN ?_ _)))) hcl).mono ?_; rintro e w1 ⟨rfl, he⟩)
    | ((with_reducible (refine Veil.out ?_; apply wl_allocL alT27)); rintro B W1 he hth hBl hBg)
    | ((with_reducible (refine Veil.out ?_; apply wl_storeB rt27)); (case hx => rfl); (case hy => rfl); (case hn => exact bw_size (kec_lt _)); (case hth => exact there_ext hth hBl (by (repeat (first | with_reducible exact Ext.refl _ | with_reducible assumption | refine Ext.trans ?_ (by with_reducible assumption) | refine Ext.alloc ?_ _ _ | refine Ext.drew ?_ | refine Ext.drewN ?_ _)))); (case hbl => exact Nat.lt_of_lt_of_le hBl (Ext.size (by (repeat (first | with_reducible exact Ext.refl _ | with_reducible assumption | refine Ext.trans ?_ (by with_reducible assumption) | refine Ext.alloc ?_ _ _ | refine Ext.drew ?_ | refine Ext.drewN ?_ _))))); (case h1 => exact bw_one _); rintro W2 hm hR hBl)
    | (go_at_call 43; refine (nFromR (hO.ext (by (repeat (first | with_reducible exact Ext.refl _ | with_reducible assumption | refine Ext.trans ?_ (by with_reducible assumption) | refine Ext.alloc ?_ _ _ | refine Ext.drew ?_ | refine Ext.drewN ?_ _ | refine Ext.trans_mod ?_ (by with_reducible assumption) (fun i hi => by have hi2 : i = _ := hi; rw [hi2]; refine Nat.le_trans ?_ (by with_reducible assumption); refine Ext.size ?_; (repeat (first | with_reducible exact Ext.refl _ | with_reducible assumption | refine Ext.trans ?_ (by with_reducible assumption) | refine Ext.alloc ?_ _ _ | refine Ext.drew ?_ | refine Ext.drewN ?_ _ | refine Ext.trans_mod ?_ (by with_reducible assumption) (fun i hi => by have hi2 : i = _ := hi; rw [hi2]; refine Nat.le_trans ?_ (by with_reducible assumption); refine Ext.size ?_; (repeat (first | with_reducible exact Ext.refl _ | with_reducible assumption | refine Ext.trans ?_ (by with_reducible assumption) | refine Ext.alloc ?_ _ _ | refine Ext.drew ?_ | refine Ext.drewN ?_ _)))))))))) hR (kec_lt _) hBl).mono ?_; rintro e w1 ⟨r, rfl, hr, he⟩))
  go_ret
  exact ⟨_, rfl, hr, by (repeat (first | with_reducible exact Ext.refl _ | with_reducible assumption | refine Ext.trans ?_ (by with_reducible assumption) | refine Ext.alloc ?_ _ _ | refine Ext.drew ?_ | refine Ext.drewN ?_ _ | refine Ext.trans_mod ?_ (by with_reducible assumption) (fun i hi => by have hi2 : i = _ := hi; rw [hi2]; refine Nat.le_trans ?_ (by with_reducible assumption); refine Ext.size ?_; (repeat (first | with_reducible exact Ext.refl _ | with_reducible assumption | refine Ext.trans ?_ (by with_reducible assumption) | refine Ext.alloc ?_ _ _ | refine Ext.drew ?_ | refine Ext.drewN ?_ _ | refine Ext.trans_mod ?_ (by with_reducible assumption) (fun i hi => by have hi2 : i = _ := hi; rw [hi2]; refine Nat.le_trans ?_ (by with_reducible assumption); refine Ext.size ?_; (repeat (first | with_reducible exact Ext.refl _ | with_reducible assumption | refine Ext.trans ?_ (by with_reducible assumption) | refine Ext.alloc ?_ _ _ | refine Ext.drew ?_ | refine Ext.drewN ?_ _))))))))⟩
end
end Go.Proofs.YgvahwGreat
