import Derived.Test.YgvahwGreatPk0
import Derived.Test.YgvahwGreatKf
namespace Go.Proofs.YgvahwGreat
open Go.RowKit
set_option linter.unusedSimpArgs false

/-- A block of booleans. -/
def FB (n : Nat) (c : Nat → Value) (f : Nat → Bool) : Prop := ∀ i, i < n → c i = .bool (f i)
theorem FB.upd {n : Nat} {c : Nat → Value} {f : Nat → Bool} (h : FB n c f) (j : Nat) (b : Bool) : FB n (updv c j (.bool b)) (fun i => if i = j then b else f i) := fun i hi => by
  by_cases e : i = j
  · subst e; rw [updv_same]; simp
  · rw [updv_ne _ _ e, h i hi]; simp [e]
theorem FB.put {n : Nat} {c : Nat → Value} {f f' : Nat → Bool} {j : Nat} {v : Value} (h : FB n c f) (b : Bool) (hv : v = .bool b) (h1 : j < n → f' j = b) (h2 : ∀ i, i < n → i ≠ j → f' i = f i) : FB n (updv c j v) f' := fun i hi => by
  by_cases e : i = j
  · subst e; rw [updv_same, hv, h1 hi]
  · rw [updv_ne _ _ e, h i hi, h2 i hi e]
theorem FB.putE {n : Nat} {c : Nat → Value} {f f' : Nat → Bool} {j : Nat} {v : Value} (h : FB n c f) (j0 : Nat) (e0 : j = j0) (b : Bool) (hv : v = .bool b) (h1 : f' j0 = b) (h2 : ∀ i, i < n → i ≠ j0 → f' i = f i) : FB n (updv c j v) f' := FB.put h b hv (fun _ => by rw [e0]; exact h1) (fun i hi hne => h2 i hi (by rw [← e0]; exact hne))
theorem FB.congr {n : Nat} {c : Nat → Value} {f f' : Nat → Bool} (h : FB n c f) (e : ∀ i, i < n → f' i = f i) : FB n c f' := fun i hi => by rw [h i hi, e i hi]
theorem FB.at {n : Nat} {c : Nat → Value} {f : Nat → Bool} (h : FB n c f) {i j : Nat} (hj : j < n) (e : i = j) : c i = .bool (f j) := by rw [e]; exact h j hj
/-- The state, flat. -/
def fl (A : Nat → Nat → Nat → Bool) (i : Nat) : Bool := A (i / 320) (i / 64 % 5) (i % 64)
theorem fl_at (A : Nat → Nat → Nat → Bool) {x y z : Nat} (hy : y < 5) (hz : z < 64) : fl A (x * 320 + y * 64 + z) = A x y z := by
  unfold fl
  rw [show (x * 320 + y * 64 + z) / 320 = x by omega, show (x * 320 + y * 64 + z) / 64 % 5 = y by omega, show (x * 320 + y * 64 + z) % 64 = z by omega]
/-- The sum of the first n lanes of a column. -/
def pS (A : Nat → Nat → Nat → Bool) (x : Nat) : Nat → Nat → Bool
  | 0, _ => false
  | n + 1, z => pS A x n z ^^ A x n z
theorem pS5 (A : Nat → Nat → Nat → Bool) (x z : Nat) : pS A x 5 z = bC A x z := by simp [pS, bC]
/-- The columns' sums on the way. -/
def pF (A : Nat → Nat → Nat → Bool) (x y z i : Nat) : Bool := if i / 64 < x then pS A (i / 64) 5 (i % 64) else if i / 64 = x then (if i % 64 < z then pS A x (y + 1) (i % 64) else pS A x y (i % 64)) else false
theorem pF_z (A : Nat → Nat → Nat → Bool) (x y i : Nat) : pF A x y 64 i = pF A x (y + 1) 0 i := by
  unfold pF
  rw [if_pos (Nat.mod_lt i (by decide : 64 > 0)), if_neg (Nat.not_lt_zero _)]
theorem pF_y (A : Nat → Nat → Nat → Bool) (x i : Nat) : pF A x 5 0 i = pF A (x + 1) 0 0 i := by
  unfold pF
  rw [if_neg (Nat.not_lt_zero _), if_neg (Nat.not_lt_zero _)]
  rcases Nat.lt_trichotomy (i / 64) x with q | q | q
  · rw [if_pos q, if_pos (by omega)]
  · rw [if_neg (by omega), if_pos q, if_pos (by omega), q]
  · rw [if_neg (by omega), if_neg (by omega), if_neg (by omega)]
    split <;> rfl
theorem pF_end (A : Nat → Nat → Nat → Bool) (i : Nat) (hi : i < 320) : pF A 5 0 0 i = bC A (i / 64) (i % 64) := by
  unfold pF
  rw [if_pos (by omega), pS5]
set_option maxRecDepth 100000
theorem z437 : ∃ i, Hvah.prog.info? 445 = some i ∧ i.zero = some (.agg (Array.replicate 320 (.bool false))) := ⟨Hvah.t445, by kernel_rfl, by kernel_rfl⟩
theorem z436 : ∃ i, Hvah.prog.info? 444 = some i ∧ i.zero = some (.agg (Array.replicate 64 (.bool false))) := ⟨Hvah.t444, by kernel_rfl, by kernel_rfl⟩
theorem z439 : ∃ i, Hvah.prog.info? 447 = some i ∧ i.zero = some (.agg (Array.replicate 1600 (.bool false))) := ⟨Hvah.t447, by kernel_rfl, by kernel_rfl⟩
section
variable {ops : Array Oper} {rest : List Oper} {a : Act} {Q : Exit → Act → World → Prop} {w : World} {dst : Option Tmp} {ty : TypeId} {pos : String} {aft : Array Edge} {gd : Option (Nat × Bool)} {K : Act → World → Prop} {E : Prop} {o : Oper}
theorem wl_allocF {t : TypeId} {n : Nat} {v : Value} (hz : ∃ i, Hvah.prog.info? t = some i ∧ i.zero = some (.agg (Array.replicate n v)))
    (h : ∀ B W, Ext w W → Blk W B n t (fun _ => v) → w.heap.size ≤ B → wpList Hvah.prog ops Q rest (a.put dst (.pointer (some ⟨B, 0, none⟩))) W) : Veil (wpList Hvah.prog ops Q (⟨dst, .alloc t, ty, pos, aft, none⟩ :: rest) a w) := by
  refine Veil.mk ?_
  obtain ⟨i, hi, hz⟩ := hz
  refine wl_any rfl (op_alloc rfl (z := Array.replicate n v) (by unfold zeroOf; rw [hi]; simp [hz]) (by simp) (fun B W e b g => h B W e (b.same (fun j hj => ?_)) g))
  simp [cf, Array.getD_eq_getD_getElem?, hj]
end
theorem pF_at (A : Nat → Nat → Nat → Bool) {x y z : Nat} (hz : z < 64) (k : Nat) : pF A x y k (x * 64 + z) = if z < k then pS A x (y + 1) z else pS A x y z := by
  unfold pF
  rw [show (x * 64 + z) / 64 = x by omega, show (x * 64 + z) % 64 = z by omega, if_neg (by omega), if_pos rfl]
theorem pF_step (A : Nat → Nat → Nat → Bool) {x y z : Nat} (hy : y < 5) (hz : z < 64) : pF A x y (z + 1) (x * 64 + z) = (pF A x y z (x * 64 + z) ^^ fl A (x * 320 + y * 64 + z)) := by
  rw [pF_at A hz, pF_at A hz, if_pos (by omega), if_neg (by omega), fl_at A hy hz]
  rfl
theorem pF_other (A : Nat → Nat → Nat → Bool) {x y z i : Nat} (hi : i ≠ x * 64 + z) : pF A x y (z + 1) i = pF A x y z i := by
  unfold pF
  split
  · rfl
  · split
    · have : i % 64 ≠ z := by omega
      by_cases h : i % 64 < z
      · rw [if_pos h, if_pos (by omega)]
      · rw [if_neg h, if_neg (by omega)]
    · rfl
/-- What theta adds. -/
def dT (A : Nat → Nat → Nat → Bool) (x z : Nat) : Bool := bC A ((x + 4) % 5) z ^^ bC A ((x + 1) % 5) ((z + 63) % 64)
/-- The state on the way. -/
def onWay (f g : Nat → Bool) (p i : Nat) : Bool := if i < p then f i else g i
theorem onWay_put {n : Nat} {c : Nat → Value} {f g : Nat → Bool} {p j : Nat} {v : Value} (h : FB n c (onWay f g p)) (e : j = p) (hv : v = .bool (f p)) : FB n (updv c j v) (onWay f g (p + 1)) :=
  FB.putE h p e (f p) hv (by unfold onWay; rw [if_pos (by omega)]) (fun i hi hne => by
    unfold onWay
    by_cases q : i < p
    · rw [if_pos q, if_pos (by omega)]
    · rw [if_neg q, if_neg (by omega)])
theorem onWay_at (f g : Nat → Bool) (p : Nat) : onWay f g p p = g p := by unfold onWay; rw [if_neg (by omega)]
theorem onWay_0 (f g : Nat → Bool) (i : Nat) : onWay f g 0 i = g i := by unfold onWay; rw [if_neg (by omega)]
theorem onWay_all {f g : Nat → Bool} {n i : Nat} (h : i < n) : onWay f g n i = f i := by unfold onWay; rw [if_pos h]
theorem xor_v (a b : Bool) : Value.bool (a != b) = .bool (a ^^ b) := by cases a <;> cases b <;> rfl
set_option maxRecDepth 100000 in
set_option maxHeartbeats 6400000 in
theorem kTheta {w : World} {B : Nat} {tt : TypeId} {c : Nat → Value} {A : Nat → Nat → Nat → Bool} (hB : Blk w B 1600 tt c) (hc : FB 1600 c (fl A)) : Calls Hvah.prog 397 #[.pointer (some ⟨B, 0, none⟩)] w fun e w' => e = .returned (.tuple #[]) ∧ ∃ c', Blk w' B 1600 tt c' ∧ FB 1600 c' (fl (bTheta A)) ∧ Mod (· = B) w w' := by
  have hBl := hB.lt
  go_enter Hvah.func397, Hvah.ntmps397
  go_upto_region 2 with (first | ((with_reducible (refine Veil.out ?_; apply wl_allocF z437)); rintro C W1 e1 bC0 gC))
  try simp only [Act.put]
  go_loopw [16] (fun iv wr => ∃ (x : Nat) (cC : Nat → Value), iv = .int .i64 (x : Nat) ∧ x ≤ 5 ∧ Blk wr C 320 445 cC ∧ FB 320 cC (pF A x 0 0) ∧ Ext w wr) (fun iv _ => 5 - (intOf iv).toNat)
  case atStart => exact ⟨0, _, rfl, by decide, bC0, fun i hi => by simp [pF, pS], by (repeat (first | with_reducible exact Ext.refl _ | with_reducible assumption | refine Ext.trans ?_ (by with_reducible assumption) | refine Ext.alloc ?_ _ _ | refine Ext.drew ?_ | refine Ext.drewN ?_ _))⟩
  case round =>
    obtain ⟨x, cC, rfl, hx5, hC, fC, hE⟩ := hrel
    rcases Nat.lt_or_ge x 5 with hlt | hge
    · have hxi : (x : Int) < 5 := by omega
      go_upto_region 5 with (fail)
      try simp only [Act.put]
      go_loopw [19] (fun iv wr => ∃ (y : Nat) (cC : Nat → Value), iv = .int .i64 (y : Nat) ∧ y ≤ 5 ∧ Blk wr C 320 445 cC ∧ FB 320 cC (pF A x y 0) ∧ Ext w wr) (fun iv _ => 5 - (intOf iv).toNat)
      case atStart => exact ⟨0, cC, rfl, by decide, by assumption, fC, by (repeat (first | with_reducible exact Ext.refl _ | with_reducible assumption | refine Ext.trans ?_ (by with_reducible assumption) | refine Ext.alloc ?_ _ _ | refine Ext.drew ?_ | refine Ext.drewN ?_ _))⟩
      case round =>
        clear fC hC hE
        obtain ⟨y, cC, rfl, hy5, hC, fC, hE⟩ := hrel
        rcases Nat.lt_or_ge y 5 with hlty | hge
        · have hyi : (y : Int) < 5 := by omega
          go_upto_region 8 with (fail)
          try simp only [Act.put]
          go_loopw [28] (fun iv wr => ∃ (z : Nat) (cC : Nat → Value), iv = .int .i64 (z : Nat) ∧ z ≤ 64 ∧ Blk wr C 320 445 cC ∧ FB 320 cC (pF A x y z) ∧ Ext w wr) (fun iv _ => 64 - (intOf iv).toNat)
          case atStart => exact ⟨0, cC, rfl, by decide, by assumption, fC, by (repeat (first | with_reducible exact Ext.refl _ | with_reducible assumption | refine Ext.trans ?_ (by with_reducible assumption) | refine Ext.alloc ?_ _ _ | refine Ext.drew ?_ | refine Ext.drewN ?_ _))⟩
          case round =>
            clear fC hC hE
            obtain ⟨z, cC, rfl, hz5, hC, fC, hE⟩ := hrel
            rcases Nat.lt_or_ge z 64 with hltz | hge
            · have hzi : (z : Int) < 64 := by omega
              have hst := pF_step A (x := x) hlty hltz
              obtain ⟨av, hav⟩ : ∃ b, Hid (fl A (x * 320 + y * 64 + z) = b) := ⟨_, rfl⟩
              obtain ⟨cv, hcv⟩ : ∃ b, Hid (pF A x y z (x * 64 + z) = b) := ⟨_, rfl⟩
              rw [hav.out, hcv.out] at hst
              have KA : ∀ W i, Ext wr W → i = x * 320 + y * 64 + z → W.cell? ⟨B, i, none⟩ = some (.bool av) := fun W i hW hi => by
                rw [hi, ((hB.ext hE).ext hW).cell (by omega), hc _ (by omega), hav.out]
              have KC : ∀ W i, Ext wr W → i = x * 64 + z → W.cell? ⟨C, i, none⟩ = some (.bool cv) := fun W i hW hi => by
                rw [hi, (hC.ext hW).cell (by omega), fC _ (by omega), hcv.out]
              go_upto_region 9 with (fail)
              refine w_ext ?_
              rintro W0 hW0
              refine wp_region_held_drew (S := fun w' => (0 ≤ (w' : World).heap.size)) (by kernel_rfl) (Nat.zero_le _) (fun hHeld => ?_)
              have HH : Hid ((0 ≤ (_ : World).heap.size)) := hHeld
              clear hHeld
              refine wpAnyH_take (i := 0) (v := ?_) rfl (by kernel_rfl) (by kernel_rfl) (by kernel_rfl) (fun _ _ _ h => h) (Or.inl ⟨by rfl, ?_⟩) HH.out ?_
              rotate_left
              · intro w hSw; go_simp; try with_reducible rfl
              change wpAnyH _ _ _ _ _ _ _ (Act.put _ (some 30) _) _
              simp only [Act.put, List.setIfInBounds_toArray, List.set_cons_zero, List.set_cons_succ]
              refine wpAnyH_take (i := 1) (v := ?_) rfl (by kernel_rfl) (by kernel_rfl) (by kernel_rfl) (fun _ _ _ h => h) (Or.inl ⟨by rfl, ?_⟩) HH.out ?_
              rotate_left
              · intro w hSw; go_simp; try with_reducible rfl
              change wpAnyH _ _ _ _ _ _ _ (Act.put _ (some 31) _) _
              simp only [Act.put, List.setIfInBounds_toArray, List.set_cons_zero, List.set_cons_succ]
              refine wpAnyH_take (i := 2) (v := ?_) rfl (by kernel_rfl) (by kernel_rfl) (by kernel_rfl) (fun _ _ _ h => h) (Or.inl ⟨by rfl, ?_⟩) HH.out ?_
              rotate_left
              · intro w hSw; go_simp; try with_reducible rfl
              change wpAnyH _ _ _ _ _ _ _ (Act.put _ (some 32) _) _
              simp only [Act.put, List.setIfInBounds_toArray, List.set_cons_zero, List.set_cons_succ]
              refine wpAnyH_take (i := 4) (v := ?_) rfl (by kernel_rfl) (by kernel_rfl) (by kernel_rfl) (fun _ _ _ h => h) (Or.inl ⟨by rfl, ?_⟩) HH.out ?_
              rotate_left
              · intro w hSw; go_simp; try with_reducible rfl
              change wpAnyH _ _ _ _ _ _ _ (Act.put _ (some 5) _) _
              simp only [Act.put, List.setIfInBounds_toArray, List.set_cons_zero, List.set_cons_succ]
              refine wpAnyH_ready (rs := [3]) (by kernel_rfl) (by simp) ?_
              refine AllReadyH.cons rfl (fun K hK => ?_) AllReadyH.nil
              refine step_any rfl (op_loadK rfl onek4 rfl (KA _ _ (by (repeat (first | with_reducible exact Ext.refl _ | with_reducible assumption | refine Ext.trans ?_ (by with_reducible assumption) | refine Ext.alloc ?_ _ _ | refine Ext.drew ?_ | refine Ext.drewN ?_ _))) (by omega)) ?_)
              refine hK.out _ _ HH.out (fun hHeld => ?_)
              clear hK K HH
              have HH : Hid ((0 ≤ (_ : World).heap.size)) := hHeld
              clear hHeld
              change wpAnyH _ _ _ _ _ _ _ (Act.put _ (some 33) _) _
              simp only [Act.put, List.setIfInBounds_toArray, List.set_cons_zero, List.set_cons_succ]
              refine wpAnyH_take (i := 5) (v := ?_) rfl (by kernel_rfl) (by kernel_rfl) (by kernel_rfl) (fun _ _ _ h => h) (Or.inl ⟨by rfl, ?_⟩) HH.out ?_
              rotate_left
              · intro w hSw; go_simp; try with_reducible rfl
              change wpAnyH _ _ _ _ _ _ _ (Act.put _ (some 6) _) _
              simp only [Act.put, List.setIfInBounds_toArray, List.set_cons_zero, List.set_cons_succ]
              refine wpAnyH_done (by kernel_rfl) ?_ _
              go_upto_region 10 with (fail)
              refine w_ext ?_
              rintro W0 hW0
              refine wp_region_held_drew (S := fun w' => (0 ≤ (w' : World).heap.size)) (by kernel_rfl) (Nat.zero_le _) (fun hHeld => ?_)
              have HH : Hid ((0 ≤ (_ : World).heap.size)) := hHeld
              clear hHeld
              refine wpAnyH_take (i := 0) (v := ?_) rfl (by kernel_rfl) (by kernel_rfl) (by kernel_rfl) (fun _ _ _ h => h) (Or.inl ⟨by rfl, ?_⟩) HH.out ?_
              rotate_left
              · intro w hSw; go_simp; try with_reducible rfl
              change wpAnyH _ _ _ _ _ _ _ (Act.put _ (some 34) _) _
              simp only [Act.put, List.setIfInBounds_toArray, List.set_cons_zero, List.set_cons_succ]
              refine wpAnyH_take (i := 1) (v := ?_) rfl (by kernel_rfl) (by kernel_rfl) (by kernel_rfl) (fun _ _ _ h => h) (Or.inl ⟨by rfl, ?_⟩) HH.out ?_
              rotate_left
              · intro w hSw; go_simp; try with_reducible rfl
              change wpAnyH _ _ _ _ _ _ _ (Act.put _ (some 35) _) _
              simp only [Act.put, List.setIfInBounds_toArray, List.set_cons_zero, List.set_cons_succ]
              refine wpAnyH_take (i := 2) (v := ?_) rfl (by kernel_rfl) (by kernel_rfl) (by kernel_rfl) (fun _ _ _ h => h) (Or.inl ⟨by rfl, ?_⟩) HH.out ?_
              rotate_left
              · intro w hSw; go_simp; try with_reducible rfl
              change wpAnyH _ _ _ _ _ _ _ (Act.put _ (some 36) _) _
              simp only [Act.put, List.setIfInBounds_toArray, List.set_cons_zero, List.set_cons_succ]
              refine wpAnyH_take (i := 3) (v := ?_) rfl (by kernel_rfl) (by kernel_rfl) (by kernel_rfl) (fun _ _ _ h => h) (Or.inl ⟨by rfl, ?_⟩) HH.out ?_
              rotate_left
              · intro w hSw; go_simp; try with_reducible rfl
              change wpAnyH _ _ _ _ _ _ _ (Act.put _ (some 37) _) _
              simp only [Act.put, List.setIfInBounds_toArray, List.set_cons_zero, List.set_cons_succ]
              refine wpAnyH_take (i := 4) (v := ?_) rfl (by kernel_rfl) (by kernel_rfl) (by kernel_rfl) (fun _ _ _ h => h) (Or.inl ⟨by rfl, ?_⟩) HH.out ?_
              rotate_left
              · intro w hSw; go_simp; try with_reducible rfl
              change wpAnyH _ _ _ _ _ _ _ (Act.put _ (some 38) _) _
              simp only [Act.put, List.setIfInBounds_toArray, List.set_cons_zero, List.set_cons_succ]
              refine wpAnyH_take (i := 5) (v := ?_) rfl (by kernel_rfl) (by kernel_rfl) (by kernel_rfl) (fun _ _ _ h => h) (Or.inl ⟨by rfl, ?_⟩) HH.out ?_
              rotate_left
              · intro w hSw; go_simp; try with_reducible rfl
              change wpAnyH _ _ _ _ _ _ _ (Act.put _ (some 39) _) _
              simp only [Act.put, List.setIfInBounds_toArray, List.set_cons_zero, List.set_cons_succ]
              refine wpAnyH_take (i := 7) (v := ?_) rfl (by kernel_rfl) (by kernel_rfl) (by kernel_rfl) (fun _ _ _ h => h) (Or.inl ⟨by rfl, ?_⟩) HH.out ?_
              rotate_left
              · intro w hSw; go_simp; try with_reducible rfl
              change wpAnyH _ _ _ _ _ _ _ (Act.put _ (some 41) _) _
              simp only [Act.put, List.setIfInBounds_toArray, List.set_cons_zero, List.set_cons_succ]
              refine wpAnyH_take (i := 9) (v := ?_) rfl (by kernel_rfl) (by kernel_rfl) (by kernel_rfl) (fun _ _ _ h => h) (Or.inl ⟨by rfl, ?_⟩) HH.out ?_
              rotate_left
              · intro w hSw; go_simp; try with_reducible rfl
              change wpAnyH _ _ _ _ _ _ _ (Act.put _ (some 43) _) _
              simp only [Act.put, List.setIfInBounds_toArray, List.set_cons_zero, List.set_cons_succ]
              refine wpAnyH_ready (rs := [6]) (by kernel_rfl) (by simp) ?_
              refine AllReadyH.cons rfl (fun K hK => ?_) AllReadyH.nil
              refine step_any rfl (op_loadK rfl onek4 rfl (KC _ _ (by (repeat (first | with_reducible exact Ext.refl _ | with_reducible assumption | refine Ext.trans ?_ (by with_reducible assumption) | refine Ext.alloc ?_ _ _ | refine Ext.drew ?_ | refine Ext.drewN ?_ _))) (by omega)) ?_)
              refine hK.out _ _ HH.out (fun hHeld => ?_)
              clear hK K HH
              have HH : Hid ((0 ≤ (_ : World).heap.size)) := hHeld
              clear hHeld
              change wpAnyH _ _ _ _ _ _ _ (Act.put _ (some 40) _) _
              simp only [Act.put, List.setIfInBounds_toArray, List.set_cons_zero, List.set_cons_succ]
              refine wpAnyH_take (i := 8) (v := ?_) rfl (by kernel_rfl) (by kernel_rfl) (by kernel_rfl) (fun _ _ _ h => h) (Or.inl ⟨by rfl, ?_⟩) HH.out ?_
              rotate_left
              · intro w hSw; go_simp; try with_reducible rfl
              change wpAnyH _ _ _ _ _ _ _ (Act.put _ (some 42) _) _
              simp only [Act.put, List.setIfInBounds_toArray, List.set_cons_zero, List.set_cons_succ]
              refine wpAnyH_take (i := 10) (v := ?_) rfl (by kernel_rfl) (by kernel_rfl) (by kernel_rfl) (fun _ _ _ h => h) (Or.inl ⟨by rfl, ?_⟩) HH.out ?_
              rotate_left
              · intro w hSw; go_simp; try with_reducible rfl
              change wpAnyH _ _ _ _ _ _ _ (Act.put _ (some 44) _) _
              simp only [Act.put, List.setIfInBounds_toArray, List.set_cons_zero, List.set_cons_succ]
              refine wpAnyH_ready (rs := [11]) (by kernel_rfl) (by simp) ?_
              refine AllReadyH.cons rfl (fun K hK => ?_) AllReadyH.nil
              refine step_any rfl (op_store1 rfl onek4 rfl rfl rfl (hC.ext (by (repeat (first | with_reducible exact Ext.refl _ | with_reducible assumption | refine Ext.trans ?_ (by with_reducible assumption) | refine Ext.alloc ?_ _ _ | refine Ext.drew ?_ | refine Ext.drewN ?_ _)))) (by omega) ?_)
              rintro W5 b5 m5
              refine hK.out _ _ (Nat.zero_le _) (fun hHeld => ?_)
              clear hK K HH
              have HH : Hid ((0 ≤ (_ : World).heap.size)) := hHeld
              clear hHeld
              change wpAnyH _ _ _ _ _ _ _ (Act.put _ none _) _
              simp only [Act.put, List.setIfInBounds_toArray, List.set_cons_zero, List.set_cons_succ]
              refine wpAnyH_done (by kernel_rfl) ?_ _
              go_wp2
              go_roundw
              case rel =>
                refine ⟨z + 1, _, int_eq (by omega), by omega, b5, ?_, ?_⟩
                · exact FB.putE fC (x * 64 + z) (by omega) (cv ^^ av) (xor_v cv av) hst (fun i hi hne => pF_other A hne)
                · exact Ext.trans_mod (show Ext w W0 by (repeat (first | with_reducible exact Ext.refl _ | with_reducible assumption | refine Ext.trans ?_ (by with_reducible assumption) | refine Ext.alloc ?_ _ _ | refine Ext.drew ?_ | refine Ext.drewN ?_ _))).drew m5 (fun q hq => by have hq2 : q = C := hq; rw [hq2]; exact gC)
              case measure => simp [intOf]; omega
            · have hzi : ¬ (z : Int) < 64 := by omega
              obtain rfl : z = 64 := by omega
              go_wp2
              go_roundw
              case rel => exact ⟨y + 1, cC, int_eq (by omega), by omega, hC, fC.congr (fun i _ => (pF_z A x y i).symm), hE⟩
              case measure => simp [intOf]; omega
        · have hyi : ¬ (y : Int) < 5 := by omega
          obtain rfl : y = 5 := by omega
          go_wp2
          go_roundw
          case rel => exact ⟨x + 1, cC, int_eq (by omega), by omega, hC, fC.congr (fun i _ => (pF_y A x i).symm), hE⟩
          case measure => simp [intOf]; omega
    · have hxi : ¬ (x : Int) < 5 := by omega
      obtain rfl : x = 5 := by omega
      replace fC : FB 320 cC (fun i => bC A (i / 64) (i % 64)) := fC.congr (fun i hi => (pF_end A i hi).symm)
      have bB := hB.ext hE
      go_upto_region 15 with (fail)
      try simp only [Act.put]
      go_loopw [48] (fun iv wr => ∃ (x : Nat) (cB : Nat → Value), iv = .int .i64 (x : Nat) ∧ x ≤ 5 ∧ Blk wr B 1600 tt cB ∧ FB 1600 cB (onWay (fl (bTheta A)) (fl A) (x * 320)) ∧ Blk wr C 320 445 cC ∧ Mod (· = B) w wr) (fun iv _ => 5 - (intOf iv).toNat)
      case atStart => exact ⟨0, c, rfl, by decide, bB, hc.congr (fun i _ => onWay_0 _ _ i), hC, hE.mod _⟩
      case round =>
        clear bB hC hE
        obtain ⟨x, cB, rfl, hx5, bB, fB, hC, hM⟩ := hrel
        rcases Nat.lt_or_ge x 5 with hlt | hge
        · have hxi : (x : Int) < 5 := by omega
          have j1 : IntKind.i64.wrap ((x : Int) + 4) = x + 4 := by rw [IntKind.wrap_i64]; omega
          have j2 : IntKind.i64.wrap ((x : Int) + 1) = x + 1 := by rw [IntKind.wrap_i64]; omega
          have m1 : ((x : Int) + 4) % 5 < 5 := by omega
          have m2 : ((x : Int) + 1) % 5 < 5 := by omega
          have n1 : 0 ≤ ((x : Int) + 4) % 5 := by omega
          have n2 : 0 ≤ ((x : Int) + 1) % 5 := by omega
          go_upto_region 21 with (first | ((with_reducible (refine Veil.out ?_; apply wl_allocF z436)); rintro D W2 e2 bD0 gD))
          try simp only [Act.put]
          have hDB : ¬ B = D := fun q => by have := hM.size; omega
          have hDC : ¬ C = D := fun q => by have := hC.lt; omega
          have hDw : w.heap.size ≤ D := Nat.le_trans hM.size gD
          have bB2 := bB.ext e2
          have hC2 := hC.ext e2
          have hM2 := hM.trans_ext e2
          clear bB hC hM
          go_loopw [59] (fun iv wr => ∃ (z : Nat) (cD : Nat → Value), iv = .int .i64 (z : Nat) ∧ z ≤ 64 ∧ Blk wr D 64 444 cD ∧ (∀ i, i < z → cD i = .bool (dT A x i)) ∧ Mod (· = D) W2 wr) (fun iv _ => 64 - (intOf iv).toNat)
          case atStart => exact ⟨0, _, rfl, by decide, bD0, fun i hi => absurd hi (Nat.not_lt_zero _), Mod.refl _ _⟩
          case round =>
            obtain ⟨z, cD, rfl, hz5, bD, fD, hM3⟩ := hrel
            rcases Nat.lt_or_ge z 64 with hltz | hge
            · have hzi : (z : Int) < 64 := by omega
              have j3 : IntKind.i64.wrap ((z : Int) + 63) = z + 63 := by rw [IntKind.wrap_i64]; omega
              obtain ⟨p, hp⟩ : ∃ p, Hid ((z + 63) % 64 = p) := ⟨_, rfl⟩
              have hp2 := hp.out
              have m3 : (p : Int) < 64 := by omega
              have htm : ((z : Int) + 63).tmod 64 = (p : Int) := by rw [Int.tmod_eq_emod_of_nonneg (by omega)]; omega
              clear hp2
              obtain ⟨lv_, hlv⟩ : ∃ b, Hid (bC A ((x + 4) % 5) z = b) := ⟨_, rfl⟩
              obtain ⟨rv_, hrv⟩ : ∃ b, Hid (bC A ((x + 1) % 5) ((z + 63) % 64) = b) := ⟨_, rfl⟩
              have KL : ∀ W i, Mod (· = D) W2 W → i = (x + 4) % 5 * 64 + z → W.cell? ⟨C, i, none⟩ = some (.bool lv_) := fun W i hW hi => by
                rw [hi, (hC2.mod hW hDC).cell (by omega), fC _ (by omega)]
                show some (Value.bool (bC A (((x + 4) % 5 * 64 + z) / 64) (((x + 4) % 5 * 64 + z) % 64))) = _
                rw [show ((x + 4) % 5 * 64 + z) / 64 = (x + 4) % 5 by omega, show ((x + 4) % 5 * 64 + z) % 64 = z by omega, hlv.out]
              have KR : ∀ W i, Mod (· = D) W2 W → i = (x + 1) % 5 * 64 + p → W.cell? ⟨C, i, none⟩ = some (.bool rv_) := fun W i hW hi => by
                rw [hi, ← hp.out, (hC2.mod hW hDC).cell (by omega), fC _ (by omega)]
                show some (Value.bool (bC A (((x + 1) % 5 * 64 + (z + 63) % 64) / 64) (((x + 1) % 5 * 64 + (z + 63) % 64) % 64))) = _
                rw [show ((x + 1) % 5 * 64 + (z + 63) % 64) / 64 = (x + 1) % 5 by omega, show ((x + 1) % 5 * 64 + (z + 63) % 64) % 64 = (z + 63) % 64 by omega, hrv.out]
              go_upto_region 23 with (fail)
              refine w_ext ?_
              rintro W0 hW0
              refine wp_region_held_drew (S := fun w' => Mod (fun x => x = D) W0 w') (by kernel_rfl) (Mod.refl _ _).drew (fun hHeld => ?_)
              have HH : Hid (Mod (fun x => x = D) W0 _) := hHeld
              clear hHeld
              refine wpAnyH_take (i := 0) (v := ?_) rfl (by kernel_rfl) (by kernel_rfl) (by kernel_rfl) (fun _ _ _ h => h) (Or.inl ⟨by rfl, ?_⟩) HH.out ?_
              rotate_left
              · intro w hSw; go_simp; try with_reducible rfl
              change wpAnyH _ _ _ _ _ _ _ (Act.put _ (some 62) _) _
              simp only [Act.put, List.setIfInBounds_toArray, List.set_cons_zero, List.set_cons_succ]
              refine wpAnyH_take (i := 1) (v := ?_) rfl (by kernel_rfl) (by kernel_rfl) (by kernel_rfl) (fun _ _ _ h => h) (Or.inl ⟨by rfl, ?_⟩) HH.out ?_
              rotate_left
              · intro w hSw; go_simp; try with_reducible rfl
              change wpAnyH _ _ _ _ _ _ _ (Act.put _ (some 63) _) _
              simp only [Act.put, List.setIfInBounds_toArray, List.set_cons_zero, List.set_cons_succ]
              refine wpAnyH_take (i := 2) (v := ?_) rfl (by kernel_rfl) (by kernel_rfl) (by kernel_rfl) (fun _ _ _ h => h) (Or.inl ⟨by rfl, ?_⟩) HH.out ?_
              rotate_left
              · intro w hSw; go_simp; try with_reducible rfl
              change wpAnyH _ _ _ _ _ _ _ (Act.put _ (some 64) _) _
              simp only [Act.put, List.setIfInBounds_toArray, List.set_cons_zero, List.set_cons_succ]
              refine wpAnyH_take (i := 3) (v := ?_) rfl (by kernel_rfl) (by kernel_rfl) (by kernel_rfl) (fun _ _ _ h => h) (Or.inl ⟨by rfl, ?_⟩) HH.out ?_
              rotate_left
              · intro w hSw; go_simp; try with_reducible rfl
              change wpAnyH _ _ _ _ _ _ _ (Act.put _ (some 65) _) _
              simp only [Act.put, List.setIfInBounds_toArray, List.set_cons_zero, List.set_cons_succ]
              refine wpAnyH_take (i := 4) (v := ?_) rfl (by kernel_rfl) (by kernel_rfl) (by kernel_rfl) (fun _ _ _ h => h) (Or.inl ⟨by rfl, ?_⟩) HH.out ?_
              rotate_left
              · intro w hSw; go_simp; try with_reducible rfl
              change wpAnyH _ _ _ _ _ _ _ (Act.put _ (some 66) _) _
              simp only [Act.put, List.setIfInBounds_toArray, List.set_cons_zero, List.set_cons_succ]
              refine wpAnyH_take (i := 5) rfl (by kernel_rfl) (by kernel_rfl) (by kernel_rfl) (fun _ _ _ h => h) (yieldsIf_load1 (by rfl) _ _ rfl _ _ rfl onek4 _ (fun w hSw => KL _ _ ((hM3.trans ((show Ext wr W0 by assumption).mod _)).trans hSw) (by omega))) HH.out ?_
              change wpAnyH _ _ _ _ _ _ _ (Act.put _ (some 67) _) _
              simp only [Act.put, List.setIfInBounds_toArray, List.set_cons_zero, List.set_cons_succ]
              refine wpAnyH_take (i := 6) (v := ?_) rfl (by kernel_rfl) (by kernel_rfl) (by kernel_rfl) (fun _ _ _ h => h) (Or.inl ⟨by rfl, ?_⟩) HH.out ?_
              rotate_left
              · intro w hSw; go_simp; try with_reducible rfl
              change wpAnyH _ _ _ _ _ _ _ (Act.put _ (some 68) _) _
              simp only [Act.put, List.setIfInBounds_toArray, List.set_cons_zero, List.set_cons_succ]
              refine wpAnyH_take (i := 7) (v := ?_) rfl (by kernel_rfl) (by kernel_rfl) (by kernel_rfl) (fun _ _ _ h => h) (Or.inl ⟨by rfl, ?_⟩) HH.out ?_
              rotate_left
              · intro w hSw; go_simp; try with_reducible rfl
              change wpAnyH _ _ _ _ _ _ _ (Act.put _ (some 69) _) _
              simp only [Act.put, List.setIfInBounds_toArray, List.set_cons_zero, List.set_cons_succ]
              refine wpAnyH_take (i := 8) (v := ?_) rfl (by kernel_rfl) (by kernel_rfl) (by kernel_rfl) (fun _ _ _ h => h) (Or.inl ⟨by rfl, ?_⟩) HH.out ?_
              rotate_left
              · intro w hSw; go_simp; try with_reducible rfl
              change wpAnyH _ _ _ _ _ _ _ (Act.put _ (some 70) _) _
              simp only [Act.put, List.setIfInBounds_toArray, List.set_cons_zero, List.set_cons_succ]
              refine wpAnyH_take (i := 9) (v := ?_) rfl (by kernel_rfl) (by kernel_rfl) (by kernel_rfl) (fun _ _ _ h => h) (Or.inl ⟨by rfl, ?_⟩) HH.out ?_
              rotate_left
              · intro w hSw; go_simp; try with_reducible rfl
              change wpAnyH _ _ _ _ _ _ _ (Act.put _ (some 71) _) _
              simp only [Act.put, List.setIfInBounds_toArray, List.set_cons_zero, List.set_cons_succ]
              refine wpAnyH_take (i := 10) (v := ?_) rfl (by kernel_rfl) (by kernel_rfl) (by kernel_rfl) (fun _ _ _ h => h) (Or.inl ⟨by rfl, ?_⟩) HH.out ?_
              rotate_left
              · intro w hSw; go_simp; try with_reducible rfl
              change wpAnyH _ _ _ _ _ _ _ (Act.put _ (some 72) _) _
              simp only [Act.put, List.setIfInBounds_toArray, List.set_cons_zero, List.set_cons_succ]
              refine wpAnyH_take (i := 11) (v := ?_) rfl (by kernel_rfl) (by kernel_rfl) (by kernel_rfl) (fun _ _ _ h => h) (Or.inl ⟨by rfl, ?_⟩) HH.out ?_
              rotate_left
              · intro w hSw; go_simp; try with_reducible rfl
              change wpAnyH _ _ _ _ _ _ _ (Act.put _ (some 73) _) _
              simp only [Act.put, List.setIfInBounds_toArray, List.set_cons_zero, List.set_cons_succ]
              refine wpAnyH_take (i := 12) rfl (by kernel_rfl) (by kernel_rfl) (by kernel_rfl) (fun _ _ _ h => h) (yieldsIf_load1 (by rfl) _ _ rfl _ _ rfl onek4 _ (fun w hSw => KR _ _ ((hM3.trans ((show Ext wr W0 by assumption).mod _)).trans hSw) (by omega))) HH.out ?_
              change wpAnyH _ _ _ _ _ _ _ (Act.put _ (some 74) _) _
              simp only [Act.put, List.setIfInBounds_toArray, List.set_cons_zero, List.set_cons_succ]
              refine wpAnyH_take (i := 13) (v := ?_) rfl (by kernel_rfl) (by kernel_rfl) (by kernel_rfl) (fun _ _ _ h => h) (Or.inl ⟨by rfl, ?_⟩) HH.out ?_
              rotate_left
              · intro w hSw; go_simp; try with_reducible rfl
              change wpAnyH _ _ _ _ _ _ _ (Act.put _ (some 75) _) _
              simp only [Act.put, List.setIfInBounds_toArray, List.set_cons_zero, List.set_cons_succ]
              refine wpAnyH_take (i := 14) (v := ?_) rfl (by kernel_rfl) (by kernel_rfl) (by kernel_rfl) (fun _ _ _ h => h) (Or.inl ⟨by rfl, ?_⟩) HH.out ?_
              rotate_left
              · intro w hSw; go_simp; try with_reducible rfl
              change wpAnyH _ _ _ _ _ _ _ (Act.put _ (some 76) _) _
              simp only [Act.put, List.setIfInBounds_toArray, List.set_cons_zero, List.set_cons_succ]
              refine wpAnyH_ready (rs := [15]) (by kernel_rfl) (by simp) ?_
              refine AllReadyH.cons rfl (fun K hK => ?_) AllReadyH.nil
              refine step_any rfl (op_store1 rfl onek4 rfl rfl rfl (bD.ext (by (repeat (first | with_reducible exact Ext.refl _ | with_reducible assumption | refine Ext.trans ?_ (by with_reducible assumption) | refine Ext.alloc ?_ _ _ | refine Ext.drew ?_ | refine Ext.drewN ?_ _)))) (by omega) ?_)
              rintro W6 b6 m6
              refine hK.out _ _ (HH.out.trans m6) (fun hHeld => ?_)
              clear hK K HH
              have HH : Hid (Mod (fun x => x = D) W0 _) := hHeld
              clear hHeld
              change wpAnyH _ _ _ _ _ _ _ (Act.put _ none _) _
              simp only [Act.put, List.setIfInBounds_toArray, List.set_cons_zero, List.set_cons_succ]
              refine wpAnyH_done (by kernel_rfl) ?_ _
              go_wp2
              go_roundw
              case rel =>
                refine ⟨z + 1, _, int_eq (by omega), by omega, b6, fun i hi => ?_, (hM3.trans ((show Ext wr W0 by assumption).drew.mod _)).trans m6⟩
                by_cases e : i = z
                · refine (congrArg (updv _ _ _) (show i = _ by omega)).trans ((updv_same _ _ _).trans ?_)
                  rw [e]
                  show Value.bool (lv_ != rv_) = .bool (dT A x z)
                  unfold dT
                  rw [hlv.out, hrv.out, xor_v]
                · rw [updv_ne _ _ (by omega)]; exact fD i (by omega)
              case measure => simp [intOf]; omega
            · have hzi : ¬ (z : Int) < 64 := by omega
              obtain rfl : z = 64 := by omega
              have bB3 := bB2.mod hM3 hDB
              have hC3 := hC2.mod hM3 hDC
              have hMw : Mod (· = B) w wr := hM2.trans' hM3 (fun i hi => Or.inr (by rw [show i = D from hi]; exact hDw))
              clear bB2 hC2 hM2 hM3
              go_upto_region 26 with (fail)
              try simp only [Act.put]
              go_loopw [78] (fun iv wr => ∃ (y : Nat) (cB : Nat → Value), iv = .int .i64 (y : Nat) ∧ y ≤ 5 ∧ Blk wr B 1600 tt cB ∧ FB 1600 cB (onWay (fl (bTheta A)) (fl A) (x * 320 + y * 64)) ∧ Blk wr C 320 445 cC ∧ Blk wr D 64 444 cD ∧ Mod (· = B) w wr) (fun iv _ => 5 - (intOf iv).toNat)
              case atStart => exact ⟨0, cB, rfl, by decide, bB3, fB, hC3, bD, hMw⟩
              case round =>
                clear bB3 hC3 hMw bD fB
                obtain ⟨y, cB, rfl, hy5, bB, fB, hC, bD, hM⟩ := hrel
                rcases Nat.lt_or_ge y 5 with hlty | hge
                · have hyi : (y : Int) < 5 := by omega
                  go_upto_region 30 with (fail)
                  try simp only [Act.put]
                  go_loopw [87] (fun iv wr => ∃ (z : Nat) (cB : Nat → Value), iv = .int .i64 (z : Nat) ∧ z ≤ 64 ∧ Blk wr B 1600 tt cB ∧ FB 1600 cB (onWay (fl (bTheta A)) (fl A) (x * 320 + y * 64 + z)) ∧ Blk wr C 320 445 cC ∧ Blk wr D 64 444 cD ∧ Mod (· = B) w wr) (fun iv _ => 64 - (intOf iv).toNat)
                  case atStart => exact ⟨0, cB, rfl, by decide, bB, fB, hC, bD, hM⟩
                  case round =>
                    clear bB fB hC bD hM
                    obtain ⟨z, cB, rfl, hz5, bB, fB, hC, bD, hM⟩ := hrel
                    rcases Nat.lt_or_ge z 64 with hltz | hge
                    · have hzi : (z : Int) < 64 := by omega
                      have hth : fl (bTheta A) (x * 320 + y * 64 + z) = (fl A (x * 320 + y * 64 + z) ^^ dT A x z) := by rw [fl_at _ hlty hltz, fl_at _ hlty hltz]; rfl
                      obtain ⟨av, hav⟩ : ∃ b, Hid (fl A (x * 320 + y * 64 + z) = b) := ⟨_, rfl⟩
                      obtain ⟨dv, hdv⟩ : ∃ b, Hid (dT A x z = b) := ⟨_, rfl⟩
                      rw [hav.out, hdv.out] at hth
                      have KA : ∀ W i, Ext wr W → i = x * 320 + y * 64 + z → W.cell? ⟨B, i, none⟩ = some (.bool av) := fun W i hW hi => by
                        rw [hi, (bB.ext hW).cell (by omega), fB _ (by omega), onWay_at, hav.out]
                      have KD : ∀ W i, Ext wr W → i = z → W.cell? ⟨D, i, none⟩ = some (.bool dv) := fun W i hW hi => by
                        rw [hi, (bD.ext hW).cell (by omega), fD _ (by omega), hdv.out]
                      go_upto_region 31 with (fail)
                      refine w_ext ?_
                      rintro W0 hW0
                      refine wp_region_held_drew (S := fun w' => (0 ≤ (w' : World).heap.size)) (by kernel_rfl) (Nat.zero_le _) (fun hHeld => ?_)
                      have HH : Hid ((0 ≤ (_ : World).heap.size)) := hHeld
                      clear hHeld
                      refine wpAnyH_take (i := 0) (v := ?_) rfl (by kernel_rfl) (by kernel_rfl) (by kernel_rfl) (fun _ _ _ h => h) (Or.inl ⟨by rfl, ?_⟩) HH.out ?_
                      rotate_left
                      · intro w hSw; go_simp; try with_reducible rfl
                      change wpAnyH _ _ _ _ _ _ _ (Act.put _ (some 89) _) _
                      simp only [Act.put, List.setIfInBounds_toArray, List.set_cons_zero, List.set_cons_succ]
                      refine wpAnyH_take (i := 1) (v := ?_) rfl (by kernel_rfl) (by kernel_rfl) (by kernel_rfl) (fun _ _ _ h => h) (Or.inl ⟨by rfl, ?_⟩) HH.out ?_
                      rotate_left
                      · intro w hSw; go_simp; try with_reducible rfl
                      change wpAnyH _ _ _ _ _ _ _ (Act.put _ (some 90) _) _
                      simp only [Act.put, List.setIfInBounds_toArray, List.set_cons_zero, List.set_cons_succ]
                      refine wpAnyH_take (i := 2) (v := ?_) rfl (by kernel_rfl) (by kernel_rfl) (by kernel_rfl) (fun _ _ _ h => h) (Or.inl ⟨by rfl, ?_⟩) HH.out ?_
                      rotate_left
                      · intro w hSw; go_simp; try with_reducible rfl
                      change wpAnyH _ _ _ _ _ _ _ (Act.put _ (some 91) _) _
                      simp only [Act.put, List.setIfInBounds_toArray, List.set_cons_zero, List.set_cons_succ]
                      refine wpAnyH_take (i := 4) (v := ?_) rfl (by kernel_rfl) (by kernel_rfl) (by kernel_rfl) (fun _ _ _ h => h) (Or.inl ⟨by rfl, ?_⟩) HH.out ?_
                      rotate_left
                      · intro w hSw; go_simp; try with_reducible rfl
                      change wpAnyH _ _ _ _ _ _ _ (Act.put _ (some 14) _) _
                      simp only [Act.put, List.setIfInBounds_toArray, List.set_cons_zero, List.set_cons_succ]
                      refine wpAnyH_ready (rs := [3]) (by kernel_rfl) (by simp) ?_
                      refine AllReadyH.cons rfl (fun K hK => ?_) AllReadyH.nil
                      refine step_any rfl (op_loadK rfl onek4 rfl (KD _ _ (by (repeat (first | with_reducible exact Ext.refl _ | with_reducible assumption | refine Ext.trans ?_ (by with_reducible assumption) | refine Ext.alloc ?_ _ _ | refine Ext.drew ?_ | refine Ext.drewN ?_ _))) (by omega)) ?_)
                      refine hK.out _ _ HH.out (fun hHeld => ?_)
                      clear hK K HH
                      have HH : Hid ((0 ≤ (_ : World).heap.size)) := hHeld
                      clear hHeld
                      change wpAnyH _ _ _ _ _ _ _ (Act.put _ (some 92) _) _
                      simp only [Act.put, List.setIfInBounds_toArray, List.set_cons_zero, List.set_cons_succ]
                      refine wpAnyH_take (i := 5) (v := ?_) rfl (by kernel_rfl) (by kernel_rfl) (by kernel_rfl) (fun _ _ _ h => h) (Or.inl ⟨by rfl, ?_⟩) HH.out ?_
                      rotate_left
                      · intro w hSw; go_simp; try with_reducible rfl
                      change wpAnyH _ _ _ _ _ _ _ (Act.put _ (some 15) _) _
                      simp only [Act.put, List.setIfInBounds_toArray, List.set_cons_zero, List.set_cons_succ]
                      refine wpAnyH_done (by kernel_rfl) ?_ _
                      go_upto_region 32 with (fail)
                      refine w_ext ?_
                      rintro W0 hW0
                      refine wp_region_held_drew (S := fun w' => (0 ≤ (w' : World).heap.size)) (by kernel_rfl) (Nat.zero_le _) (fun hHeld => ?_)
                      have HH : Hid ((0 ≤ (_ : World).heap.size)) := hHeld
                      clear hHeld
                      refine wpAnyH_take (i := 0) (v := ?_) rfl (by kernel_rfl) (by kernel_rfl) (by kernel_rfl) (fun _ _ _ h => h) (Or.inl ⟨by rfl, ?_⟩) HH.out ?_
                      rotate_left
                      · intro w hSw; go_simp; try with_reducible rfl
                      change wpAnyH _ _ _ _ _ _ _ (Act.put _ (some 93) _) _
                      simp only [Act.put, List.setIfInBounds_toArray, List.set_cons_zero, List.set_cons_succ]
                      refine wpAnyH_take (i := 1) (v := ?_) rfl (by kernel_rfl) (by kernel_rfl) (by kernel_rfl) (fun _ _ _ h => h) (Or.inl ⟨by rfl, ?_⟩) HH.out ?_
                      rotate_left
                      · intro w hSw; go_simp; try with_reducible rfl
                      change wpAnyH _ _ _ _ _ _ _ (Act.put _ (some 94) _) _
                      simp only [Act.put, List.setIfInBounds_toArray, List.set_cons_zero, List.set_cons_succ]
                      refine wpAnyH_take (i := 2) (v := ?_) rfl (by kernel_rfl) (by kernel_rfl) (by kernel_rfl) (fun _ _ _ h => h) (Or.inl ⟨by rfl, ?_⟩) HH.out ?_
                      rotate_left
                      · intro w hSw; go_simp; try with_reducible rfl
                      change wpAnyH _ _ _ _ _ _ _ (Act.put _ (some 95) _) _
                      simp only [Act.put, List.setIfInBounds_toArray, List.set_cons_zero, List.set_cons_succ]
                      refine wpAnyH_take (i := 3) (v := ?_) rfl (by kernel_rfl) (by kernel_rfl) (by kernel_rfl) (fun _ _ _ h => h) (Or.inl ⟨by rfl, ?_⟩) HH.out ?_
                      rotate_left
                      · intro w hSw; go_simp; try with_reducible rfl
                      change wpAnyH _ _ _ _ _ _ _ (Act.put _ (some 96) _) _
                      simp only [Act.put, List.setIfInBounds_toArray, List.set_cons_zero, List.set_cons_succ]
                      refine wpAnyH_take (i := 4) (v := ?_) rfl (by kernel_rfl) (by kernel_rfl) (by kernel_rfl) (fun _ _ _ h => h) (Or.inl ⟨by rfl, ?_⟩) HH.out ?_
                      rotate_left
                      · intro w hSw; go_simp; try with_reducible rfl
                      change wpAnyH _ _ _ _ _ _ _ (Act.put _ (some 97) _) _
                      simp only [Act.put, List.setIfInBounds_toArray, List.set_cons_zero, List.set_cons_succ]
                      refine wpAnyH_take (i := 5) (v := ?_) rfl (by kernel_rfl) (by kernel_rfl) (by kernel_rfl) (fun _ _ _ h => h) (Or.inl ⟨by rfl, ?_⟩) HH.out ?_
                      rotate_left
                      · intro w hSw; go_simp; try with_reducible rfl
                      change wpAnyH _ _ _ _ _ _ _ (Act.put _ (some 98) _) _
                      simp only [Act.put, List.setIfInBounds_toArray, List.set_cons_zero, List.set_cons_succ]
                      refine wpAnyH_take (i := 7) (v := ?_) rfl (by kernel_rfl) (by kernel_rfl) (by kernel_rfl) (fun _ _ _ h => h) (Or.inl ⟨by rfl, ?_⟩) HH.out ?_
                      rotate_left
                      · intro w hSw; go_simp; try with_reducible rfl
                      change wpAnyH _ _ _ _ _ _ _ (Act.put _ (some 100) _) _
                      simp only [Act.put, List.setIfInBounds_toArray, List.set_cons_zero, List.set_cons_succ]
                      refine wpAnyH_take (i := 9) (v := ?_) rfl (by kernel_rfl) (by kernel_rfl) (by kernel_rfl) (fun _ _ _ h => h) (Or.inl ⟨by rfl, ?_⟩) HH.out ?_
                      rotate_left
                      · intro w hSw; go_simp; try with_reducible rfl
                      change wpAnyH _ _ _ _ _ _ _ (Act.put _ (some 102) _) _
                      simp only [Act.put, List.setIfInBounds_toArray, List.set_cons_zero, List.set_cons_succ]
                      refine wpAnyH_ready (rs := [6]) (by kernel_rfl) (by simp) ?_
                      refine AllReadyH.cons rfl (fun K hK => ?_) AllReadyH.nil
                      refine step_any rfl (op_loadK rfl onek4 rfl (KA _ _ (by (repeat (first | with_reducible exact Ext.refl _ | with_reducible assumption | refine Ext.trans ?_ (by with_reducible assumption) | refine Ext.alloc ?_ _ _ | refine Ext.drew ?_ | refine Ext.drewN ?_ _))) (by omega)) ?_)
                      refine hK.out _ _ HH.out (fun hHeld => ?_)
                      clear hK K HH
                      have HH : Hid ((0 ≤ (_ : World).heap.size)) := hHeld
                      clear hHeld
                      change wpAnyH _ _ _ _ _ _ _ (Act.put _ (some 99) _) _
                      simp only [Act.put, List.setIfInBounds_toArray, List.set_cons_zero, List.set_cons_succ]
                      refine wpAnyH_take (i := 8) (v := ?_) rfl (by kernel_rfl) (by kernel_rfl) (by kernel_rfl) (fun _ _ _ h => h) (Or.inl ⟨by rfl, ?_⟩) HH.out ?_
                      rotate_left
                      · intro w hSw; go_simp; try with_reducible rfl
                      change wpAnyH _ _ _ _ _ _ _ (Act.put _ (some 101) _) _
                      simp only [Act.put, List.setIfInBounds_toArray, List.set_cons_zero, List.set_cons_succ]
                      refine wpAnyH_take (i := 10) (v := ?_) rfl (by kernel_rfl) (by kernel_rfl) (by kernel_rfl) (fun _ _ _ h => h) (Or.inl ⟨by rfl, ?_⟩) HH.out ?_
                      rotate_left
                      · intro w hSw; go_simp; try with_reducible rfl
                      change wpAnyH _ _ _ _ _ _ _ (Act.put _ (some 103) _) _
                      simp only [Act.put, List.setIfInBounds_toArray, List.set_cons_zero, List.set_cons_succ]
                      refine wpAnyH_ready (rs := [11]) (by kernel_rfl) (by simp) ?_
                      refine AllReadyH.cons rfl (fun K hK => ?_) AllReadyH.nil
                      refine step_any rfl (op_store1 rfl onek4 rfl rfl rfl (bB.ext (by (repeat (first | with_reducible exact Ext.refl _ | with_reducible assumption | refine Ext.trans ?_ (by with_reducible assumption) | refine Ext.alloc ?_ _ _ | refine Ext.drew ?_ | refine Ext.drewN ?_ _)))) (by omega) ?_)
                      rintro W7 b7 m7
                      refine hK.out _ _ (Nat.zero_le _) (fun hHeld => ?_)
                      clear hK K HH
                      have HH : Hid ((0 ≤ (_ : World).heap.size)) := hHeld
                      clear hHeld
                      change wpAnyH _ _ _ _ _ _ _ (Act.put _ none _) _
                      simp only [Act.put, List.setIfInBounds_toArray, List.set_cons_zero, List.set_cons_succ]
                      refine wpAnyH_done (by kernel_rfl) ?_ _
                      go_wp2
                      go_roundw
                      case rel =>
                        have eW : Ext wr W0 := by (repeat (first | with_reducible exact Ext.refl _ | with_reducible assumption | refine Ext.trans ?_ (by with_reducible assumption) | refine Ext.alloc ?_ _ _ | refine Ext.drew ?_ | refine Ext.drewN ?_ _))
                        refine ⟨z + 1, _, int_eq (by omega), by omega, b7, ?_, (hC.ext eW.drew).mod m7 (fun q => by have hq : C = B := q; omega), (bD.ext eW.drew).mod m7 (fun q => hDB (Eq.symm q)), (hM.trans_ext eW.drew).trans m7⟩
                        exact onWay_put (p := x * 320 + y * 64 + z) fB (by omega) ((xor_v av dv).trans (by rw [hth]))
                      case measure => simp [intOf]; omega
                    · have hzi : ¬ (z : Int) < 64 := by omega
                      obtain rfl : z = 64 := by omega
                      go_wp2
                      go_roundw
                      case rel => exact ⟨y + 1, cB, int_eq (by omega), by omega, bB, by rw [show x * 320 + (y + 1) * 64 = x * 320 + y * 64 + 64 by omega]; exact fB, hC, bD, hM⟩
                      case measure => simp [intOf]; omega
                · have hyi : ¬ (y : Int) < 5 := by omega
                  obtain rfl : y = 5 := by omega
                  go_wp2
                  go_roundw
                  case rel => exact ⟨x + 1, cB, int_eq (by omega), by omega, bB, by rw [show (x + 1) * 320 = x * 320 + 5 * 64 by omega]; exact fB, hC, hM⟩
                  case measure => simp [intOf]; omega
        · have hxi : ¬ (x : Int) < 5 := by omega
          obtain rfl : x = 5 := by omega
          go_wp2
          go_end0
          exact ⟨rfl, cB, bB, fB.congr (fun i hi => (onWay_all (n := 5 * 320) hi).symm), hM⟩
end Go.Proofs.YgvahwGreat
