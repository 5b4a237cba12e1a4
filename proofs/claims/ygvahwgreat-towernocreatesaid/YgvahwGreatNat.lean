import Derived.Test.YgvahwGreatNatH
namespace Go.Proofs.YgvahwGreat
open Go.RowKit

/-- How many digits a number has. -/
def dl (x : Nat) : Nat := (digs x).length
theorem dl_le_iff (x k : Nat) : dl x ≤ k ↔ x < 256 ^ k := digs_length_le x k
theorem dl_mono {x y : Nat} (h : x ≤ y) : dl x ≤ dl y := digs_length_mono h
theorem dl_lt (x : Nat) : x < 256 ^ dl x := (dl_le_iff x _).1 (Nat.le_refl _)
theorem dl_add (x y k : Nat) (hx : dl x ≤ k) (hy : dl y ≤ k) : dl (x + y) ≤ k + 1 := by
  rw [dl_le_iff] at *
  rw [Nat.pow_succ]; omega
theorem dl_mul (x y j k : Nat) (hx : dl x ≤ j) (hy : dl y ≤ k) : dl (x * y) ≤ j + k := by
  rw [dl_le_iff] at *
  rw [Nat.pow_add]
  exact Nat.mul_lt_mul_of_lt_of_lt hx hy
theorem dl_sub (x y k : Nat) (hx : dl x ≤ k) : dl (x - y) ≤ k := Nat.le_trans (dl_mono (Nat.sub_le _ _)) hx
theorem dl_div (x y k : Nat) (hx : dl x ≤ k) : dl (x / y) ≤ k := Nat.le_trans (dl_mono (Nat.div_le_self _ _)) hx
theorem dl_mod (x y k : Nat) (hx : dl x ≤ k) : dl (x % y) ≤ k := Nat.le_trans (dl_mono (Nat.mod_le _ _)) hx
theorem dl_u64 (x : Nat) (hx : x < 18446744073709551616) : dl x ≤ 8 := (dl_le_iff x 8).2 (by have h8 : (256 : Nat) ^ 8 = 18446744073709551616 := by decide
                                                                                             omega)
theorem dl_zero : dl 0 = 0 := rfl
theorem u64_dl (x : Nat) (h : dl x ≤ 8) : x < 18446744073709551616 := by
  have := (dl_le_iff x 8).1 h
  have h8 : (256 : Nat) ^ 8 = 18446744073709551616 := by decide
  omega

/-- The blocks of O are there. -/
def Small (O : Nat → Prop) (w : World) : Prop := ∀ b, O b → b < w.heap.size
theorem Small.ext {O : Nat → Prop} {w w' : World} (h : Small O w) (e : Ext w w') : Small O w' := fun b hb => Nat.lt_of_lt_of_le (h b hb) e.size

section
variable (O : Nat → Prop) (v u : Value) (x y : Nat) (w : World)

theorem nAdd (hO : Small O w) (h : NV O w v x) (g : NV O w u y) (hx : dl x ≤ 2000) (hy : dl y ≤ 2000) :
    Calls Hvah.prog 44 #[v, u] w fun e w' => ∃ r, e = .returned r ∧ NV O w' r (x + y) ∧ Ext w w' := by
  refine (add_nv O v u x y w hO h g (by unfold dl at hx; omega) (by unfold dl at hy; omega)).mono ?_
  rintro e w' ⟨r, rfl, hr, he⟩; exact ⟨r, rfl, hr.nv, he⟩
theorem nMul (hO : Small O w) (h : NV O w v x) (g : NV O w u y) (hx : dl x ≤ 2000) (hy : dl y ≤ 2000) :
    Calls Hvah.prog 60 #[v, u] w fun e w' => ∃ r, e = .returned r ∧ NV O w' r (x * y) ∧ Ext w w' := by
  refine (mul_nv O v u x y w hO h g (by unfold dl at hx hy; omega)).mono ?_
  rintro e w' ⟨r, rfl, hr, he⟩; exact ⟨r, rfl, hr.nv, he⟩
theorem nCmp (h : NV O w v x) (g : NV O w u y) :
    Calls Hvah.prog 130 #[v, u] w fun e w' => e = .returned (.int .i8 (cmpI x y)) ∧ ∃ n, w' = w.drewN n := cmp_nv O v u x y w h g
/-- Sub: the difference, or 0. -/
theorem nSub (hO : Small O w) (h : NV O w v x) (g : NV O w u y) :
    Calls Hvah.prog 134 #[v, u] w fun e w' => ∃ r, e = .returned (.tuple #[r, .bool (decide (y ≤ x))]) ∧ NV O w' r (x - y) ∧ Ext w w' := by
  by_cases hle : y ≤ x
  · refine (sub_over O v u x y w hO h g hle).mono ?_
    rintro e w' ⟨r, rfl, hr, he⟩; exact ⟨r, by simp [hle], hr.nv, he⟩
  · refine (sub_under O v u x y w h g (by omega)).mono ?_
    rintro e w' ⟨rfl, he⟩
    exact ⟨.slice none 0 0, by simp [hle], by rw [show x - y = 0 by omega]; exact NV.nil, he⟩
/-- DivMod: for y = 0 both are 0, as the quotient of Nat is. -/
theorem nDivMod (hO : Small O w) (h : NV O w v x) (g : NV O w u y) (hx : dl x ≤ 2000) (hy : dl y ≤ 2000) :
    Calls Hvah.prog 164 #[v, u] w fun e w' => ∃ q r, e = .returned (.tuple #[q, r, .bool (decide (0 < y))]) ∧ NV O w' q (x / y) ∧ NV O w' r (if y = 0 then 0 else x % y) ∧ Ext w w' := by
  by_cases hy0 : y = 0
  · subst hy0
    refine (divmod_zero O v u x w h g).mono ?_
    rintro e w' ⟨rfl, rfl⟩
    exact ⟨.slice none 0 0, .slice none 0 0, by simp, by simpa using NV.nil, by simpa using NV.nil, Ext.refl _⟩
  · refine (divmod_nv O v u x y w hO h g (by omega) (by unfold dl at hx; omega) (by unfold dl at hy; omega)).mono ?_
    rintro e w' ⟨q, r, rfl, hq, hr, he⟩
    exact ⟨q, r, by rw [show decide (0 < y) = true by simp; omega], hq.nv, by rw [if_neg hy0]; exact hr.nv, he⟩
theorem nNorm (hO : Small O w) (h : NV O w v x) :
    Calls Hvah.prog 132 #[v] w fun e w' => ∃ r, e = .returned r ∧ NL O w' r (digs x) ∧ Ext w w' := norm_nl O v x w hO h
theorem nU64 (h : NV O w v x) :
    Calls Hvah.prog 89 #[v] w fun e w' => e = .returned (.tuple #[.int .u64 (if x < 18446744073709551616 then x else 0 : Nat), .bool (decide (x < 18446744073709551616))]) ∧ w' = w := by
  by_cases hx : x < 18446744073709551616
  · refine (u64_yes O v x w h hx).mono ?_
    rintro e w' ⟨rfl, rfl⟩; exact ⟨by simp [hx], rfl⟩
  · refine (u64_no O v x w h (by omega)).mono ?_
    rintro e w' ⟨rfl, rfl⟩; exact ⟨by simp [hx], rfl⟩
end

theorem nNum (O : Nat → Prop) (x : Nat) (w : World) (hO : Small O w) (hx : x < 18446744073709551616) :
    Calls Hvah.prog 42 #[.int .u64 x] w fun e w' => ∃ r, e = .returned r ∧ NV O w' r x ∧ Ext w w' := by
  go_enter Hvah.func42, Hvah.ntmps42
  go_wp2_with (go_at_call 96; refine (fromU64_nl O x w hO hx).mono ?_; rintro e w' ⟨r, rfl, hr, he⟩)
  go_ret
  exact ⟨_, rfl, hr.nv, he⟩

theorem cmpI_lt {x y : Nat} (h : x < y) : cmpI x y = -1 := by simp [cmpI, h]
theorem cmpI_gt {x y : Nat} (h : y < x) : cmpI x y = 1 := by simp [cmpI, h, Nat.not_lt.2 (Nat.le_of_lt h)]
theorem cmpI_eq (x : Nat) : cmpI x x = 0 := by simp [cmpI]
theorem cmpI_eq0 (x y : Nat) : (cmpI x y == 0) = decide (x = y) := by
  unfold cmpI
  split
  · have : x ≠ y := by omega
    simp [this]
  · split
    · have : x ≠ y := by omega
      simp [this]
    · have : x = y := by omega
      simp [this]
theorem cmpI_lt0 (x y : Nat) : decide (cmpI x y < 0) = decide (x < y) := by
  unfold cmpI
  split
  · rename_i h; simp [h]
  · rename_i h; split <;> simp [h]
theorem cmpI_gt0 (x y : Nat) : decide (0 < cmpI x y) = decide (y < x) := by
  unfold cmpI
  split
  · have : ¬ y < x := by omega
    simp [this]
  · split
    · rename_i h; simp [h]
    · rename_i h; simp [h]
theorem cmpI_ge0 (x y : Nat) : decide (0 ≤ cmpI x y) = decide (y ≤ x) := by
  unfold cmpI
  split
  · have : ¬ y ≤ x := by omega
    simp [this]
  · split
    · have : y ≤ x := by omega
      simp [this]
    · have : y ≤ x := by omega
      simp [this]
theorem cmpI_le0 (x y : Nat) : decide (cmpI x y ≤ 0) = decide (x ≤ y) := by
  unfold cmpI
  split
  · have : x ≤ y := by omega
    simp [this]
  · split
    · have : ¬ x ≤ y := by omega
      simp [this]
    · have : x ≤ y := by omega
      simp [this]

theorem nIsZero (O : Nat → Prop) (v : Value) (x : Nat) (w : World) (h : NV O w v x) :
    Calls Hvah.prog 88 #[v] w fun e w' => e = .returned (.bool (decide (x = 0))) ∧ ∃ n, w' = w.drewN n := by
  go_enter Hvah.func88, Hvah.ntmps88
  go_wp2_with (go_at_call 130; refine (nCmp O v _ x 0 w h NV.nil).mono ?_; rintro e w' ⟨rfl, n, rfl⟩)
  go_ret
  exact ⟨by rw [← cmpI_eq0 x 0]; rfl, n, rfl⟩

theorem nLess (O : Nat → Prop) (v u : Value) (x y : Nat) (w : World) (hO : Small O w) (h : NV O w v x) (g : NV O w u y) :
    Calls Hvah.prog 55 #[v, u] w fun e w' => ∃ r, e = .returned r ∧ NV O w' r (x - y) ∧ Ext w w' := by
  go_enter Hvah.func55, Hvah.ntmps55
  go_wp2_with (go_at_call 134; refine (nSub O v u x y w hO h g).mono ?_; rintro e w' ⟨r, rfl, hr, he⟩)
  go_ret
  exact ⟨_, rfl, hr, he⟩

theorem nMin (O : Nat → Prop) (v u : Value) (x y : Nat) (w : World) (h : NV O w v x) (g : NV O w u y) :
    Calls Hvah.prog 77 #[v, u] w fun e w' => ∃ r, e = .returned r ∧ NV O w' r (min x y) ∧ Ext w w' := by
  by_cases hlt : x < y
  · have := cmpI_lt hlt
    go_enter Hvah.func77, Hvah.ntmps77
    go_wp2_with (go_at_call 130; refine (nCmp O v u x y w h g).mono ?_; rintro e w' ⟨rfl, n, rfl⟩)
    go_ret
    exact ⟨_, rfl, by rw [Nat.min_eq_left (by omega)]; exact h.ext ((Ext.refl _).drewN _), (Ext.refl _).drewN _⟩
  · have := (cmpI_ge x y (by omega)).1
    go_enter Hvah.func77, Hvah.ntmps77
    go_wp2_with (go_at_call 130; refine (nCmp O v u x y w h g).mono ?_; rintro e w' ⟨rfl, n, rfl⟩)
    go_ret
    exact ⟨_, rfl, by rw [Nat.min_eq_right (by omega)]; exact g.ext ((Ext.refl _).drewN _), (Ext.refl _).drewN _⟩

theorem cmpI_le {x y : Nat} (h : x ≤ y) : cmpI x y ≤ 0 := by
  have := cmpI_le0 x y; simpa [h] using this
theorem nMax (O : Nat → Prop) (v u : Value) (x y : Nat) (w : World) (h : NV O w v x) (g : NV O w u y) :
    Calls Hvah.prog 154 #[v, u] w fun e w' => ∃ r, e = .returned r ∧ NV O w' r (max x y) ∧ Ext w w' := by
  by_cases hlt : y < x
  · have := cmpI_gt hlt
    go_enter Hvah.func154, Hvah.ntmps154
    go_wp2_with (go_at_call 130; refine (nCmp O v u x y w h g).mono ?_; rintro e w' ⟨rfl, n, rfl⟩)
    go_ret
    exact ⟨_, rfl, by rw [Nat.max_eq_left (by omega)]; exact h.ext ((Ext.refl _).drewN _), (Ext.refl _).drewN _⟩
  · have := cmpI_le (x := x) (y := y) (by omega)
    go_enter Hvah.func154, Hvah.ntmps154
    go_wp2_with (go_at_call 130; refine (nCmp O v u x y w h g).mono ?_; rintro e w' ⟨rfl, n, rfl⟩)
    go_ret
    exact ⟨_, rfl, by rw [Nat.max_eq_right (by omega)]; exact g.ext ((Ext.refl _).drewN _), (Ext.refl _).drewN _⟩

theorem nDivided (O : Nat → Prop) (v : Value) (x k : Nat) (w : World) (hO : Small O w) (h : NV O w v x) (hk : k < 18446744073709551616) (hx : dl x ≤ 2000) :
    Calls Hvah.prog 78 #[v, .int .u64 k] w fun e w' => ∃ r, e = .returned r ∧ NV O w' r (x / k) ∧ Ext w w' := by
  have hdk := dl_u64 k hk
  go_enter Hvah.func78, Hvah.ntmps78
  go_wp2_with (first
    | (go_at_call 42; refine (nNum O k w hO hk).mono ?_; rintro e w1 ⟨r, rfl, hr, he⟩)
    | (go_at_call 164; refine (nDivMod O v r x k w1 (hO.ext he) (h.ext he) hr hx (by omega)).mono ?_; rintro e w2 ⟨q, m, rfl, hq, hm, he2⟩))
  go_ret
  exact ⟨_, rfl, hq, he.trans he2⟩

theorem nWords (O : Nat → Prop) (v : Value) (x : Nat) (w : World) (hO : Small O w) (h : NV O w v x) (hx : dl x ≤ 1000) :
    Calls Hvah.prog 135 #[v] w fun e w' => ∃ r, e = .returned r ∧ NV O w' r ((x + 31) / 32) ∧ Ext w w' := by
  have h31 : dl 31 ≤ 1000 := by decide
  have hs := dl_add x 31 1000 hx h31
  go_enter Hvah.func135, Hvah.ntmps135
  go_wp2_with (first
    | (go_at_call 42; refine (nNum O 31 w hO (by decide)).mono ?_; rintro e w1 ⟨r, rfl, hr, he⟩)
    | (go_at_call 44; refine (nAdd O v r x 31 w1 (hO.ext he) (h.ext he) hr (by omega) (by omega)).mono ?_; rintro e w2 ⟨s, rfl, hq, he2⟩; replace he := he.trans he2)
    | (go_at_call 78; refine (nDivided O s (x + 31) 32 w2 (hO.ext he) hq (by decide) (by omega)).mono ?_; rintro e w3 ⟨t, rfl, ht, he3⟩))
  go_ret
  exact ⟨_, rfl, ht, he.trans he3⟩
end Go.Proofs.YgvahwGreat
