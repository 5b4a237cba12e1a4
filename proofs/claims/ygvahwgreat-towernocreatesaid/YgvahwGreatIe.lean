import Derived.Test.YgvahwGreatIb
namespace Go.Proofs.YgvahwGreat
open Go.RowKit
set_option linter.unusedSimpArgs false

/-- Digit j of a word. -/
def dg (x j : Nat) : Nat := x / 256 ^ (31 - j) % 256
theorem dg_lt (x j : Nat) : dg x j < 256 := Nat.mod_lt _ (by decide)
theorem addStep8 (x y P : Nat) (hP : 0 < P) : ((x % P + y % P) / P + (x / P % 256 + y / P % 256)) % 256 = (x + y) / P % 256 ∧ ((x % P + y % P) / P + (x / P % 256 + y / P % 256)) / 256 = (x % (P * 256) + y % (P * 256)) / (P * 256) := by
  have hs : (x + y) / P = x / P + y / P + (x % P + y % P) / P := by
    conv => lhs; rw [← Nat.mod_add_div x P, ← Nat.mod_add_div y P]
    rw [show x % P + P * (x / P) + (y % P + P * (y / P)) = (x % P + y % P) + P * (x / P + y / P) by rw [Nat.mul_add]; omega, Nat.add_mul_div_left _ _ hP]
    omega
  have hm : (x % (P * 256) + y % (P * 256)) / (P * 256) = ((x % P + y % P) / P + (x / P % 256 + y / P % 256)) / 256 := by
    rw [Nat.mod_mul, Nat.mod_mul, ← Nat.div_div_eq_div_mul]
    rw [show x % P + P * (x / P % 256) + (y % P + P * (y / P % 256)) = (x % P + y % P) + P * (x / P % 256 + y / P % 256) by rw [Nat.mul_add]; omega, Nat.add_mul_div_left _ _ hP]
  refine ⟨?_, hm.symm⟩
  rw [hs]
  generalize (x % P + y % P) / P = c
  omega
theorem val_getDi : ∀ (l : List Nat) (i : Nat), Digits l → l.getD i 0 = val l / 256 ^ i % 256
  | [], i, _ => by simp [val]
  | d :: l, 0, h => by
    have := h d (by simp)
    show d = (d + 256 * val l) / 256 ^ 0 % 256
    rw [Nat.pow_zero, Nat.div_one]; omega
  | d :: l, i + 1, h => by
    have h1 := h d (by simp)
    have ih := val_getDi l i (fun x hx => h x (List.mem_cons_of_mem _ hx))
    rw [List.getD_cons_succ, ih]
    show _ = (d + 256 * val l) / 256 ^ (i + 1) % 256
    rw [Nat.pow_succ, Nat.mul_comm (256 ^ i) 256, ← Nat.div_div_eq_div_mul, show (d + 256 * val l) / 256 = val l by omega]
theorem beL32_at {a : Nat} (ha : a < P256) (j : Nat) (hj : j < 32) : (beL 32 a).getD j 0 = dg a j := by
  have hl := len32 ha
  have e : (beL 32 a).getD j 0 = (beL 32 a).reverse.getD (31 - j) 0 := by
    rw [List.getD_eq_getElem?_getD, List.getD_eq_getElem?_getD, List.getElem?_reverse (by omega), hl, show 32 - 1 - (31 - j) = j by omega]
  rw [e, val_getDi _ _ (fun d hd => digits_beL _ _ d (by simpa using hd))]
  have hv : val (beL 32 a).reverse = a := bev_beL 32 a
  rw [hv]; rfl
theorem bw_get {x : Nat} (hx : x < P256) (j : Nat) (hj : j < 32) : (bw x)[j]? = some (.int .u8 (dg x j : Nat)) := by
  have h1 := beL32_at hx j hj
  have hl := len32 hx
  unfold bw bcells
  simp only [List.getElem?_toArray, List.getElem?_map]
  rw [List.getElem?_eq_getElem (by omega)]
  rw [List.getD_eq_getElem?_getD, List.getElem?_eq_getElem (by omega)] at h1
  simp only [Option.getD_some] at h1
  simp [h1]
theorem bat_iff {c : Nat → Value} {o x : Nat} (hx : x < P256) : BAt c o x ↔ ∀ j, j < 32 → c (o + j) = .int .u8 (dg x j : Nat) := by
  constructor
  · intro h j hj; exact h j _ (bw_get hx j hj)
  · intro h j v hv
    have hj := (Array.getElem?_eq_some_iff.1 hv).1
    rw [bwS hx] at hj
    rw [bw_get hx j hj] at hv
    injection hv with hv
    rw [h j hj, hv]
/-- On the way: from i on the sum's digits stand. -/
def onAdd (x y i j : Nat) : Nat := if i ≤ j then dg (x + y) j else dg x j
section
variable {w : World} {S b off x y : Nat} {c : Nat → Value}
set_option maxRecDepth 100000 in
set_option maxHeartbeats 6400000 in
theorem oAddTo (hB : Blk w S 32 33 c) (hx : BAt c 0 x) (hxl : x < P256) (hyl : y < P256) (hR : RowIn w b off (bw y)) (hb : b < w.heap.size) (hne : ¬ b = S) : Calls Hvah.prog 95 #[.pointer (some ⟨S, 0, none⟩), .pointer (some ⟨b, off, none⟩)] w fun e w' => ∃ c', e = .returned (.bool (decide (x + y < P256))) ∧ Blk w' S 32 33 c' ∧ BAt c' 0 ((x + y) % P256) ∧ Mod (· = S) w w' := by
  have hx' := (bat_iff hxl).1 hx
  simp only [Nat.zero_add] at hx'
  have hy' : ∀ j, j < 32 → w.cell? ⟨b, off + j, none⟩ = some (.int .u8 (dg y j : Nat)) := fun j hj => hR j _ (bw_get hyl j hj)
  clear hx hR
  have hP : P256 = 256 ^ 32 := by rw [P256_eq]
  obtain ⟨hP'⟩ : Nonempty (Hid (P256 = 256 ^ 32)) := ⟨hP⟩
  clear hP
  go_enter Hvah.func95, Hvah.ntmps95
  go_upto_region 3 with (fail)
  try simp only [Act.put]
  go_loopw [5, 6] (fun cv iv wr => ∃ (i cy : Nat) (c1 : Nat → Value), cv = .int .u16 (cy : Nat) ∧ iv = .int .i64 (i : Nat) ∧ i ≤ 32 ∧ cy ≤ 1 ∧ Hid (cy = (x % 256 ^ (32 - i) + y % 256 ^ (32 - i)) / 256 ^ (32 - i)) ∧ Blk wr S 32 33 c1 ∧ Hid (∀ j, j < 32 → c1 j = .int .u8 (onAdd x y i j : Nat)) ∧ Mod (· = S) w wr) (fun _ iv _ => (intOf iv).toNat)
  case atStart => exact ⟨32, 0, c, rfl, rfl, by decide, by decide, (by simp [Nat.mod_one] : 0 = (x % 256 ^ (32 - 32) + y % 256 ^ (32 - 32)) / 256 ^ (32 - 32)), hB, (fun j hj => by rw [hx' j hj]; unfold onAdd; rw [if_neg (by omega)] : ∀ j, j < 32 → c j = .int .u8 (onAdd x y 32 j : Nat)), Mod.refl _ _⟩
  case round =>
    obtain ⟨i, cy, c1, rfl, rfl, hi, hcy, hcc, bc, hd, hm⟩ := hrel
    rcases Nat.eq_zero_or_pos i with hi0 | hi0
    · have z0 : ¬ (0 : Int) < i := by omega
      have hcc' := hcc.out
      have hPP := hP'.out
      subst hi0
      rw [Nat.sub_zero, ← hPP, Nat.mod_eq_of_lt hxl, Nat.mod_eq_of_lt hyl] at hcc'
      have hd' := hd.out
      have hP0 : 0 < P256 := Nat.lt_of_le_of_lt (Nat.zero_le _) hxl
      have hfin : cy = 0 ↔ x + y < P256 := by
        rw [hcc', Nat.div_eq_zero_iff]
        constructor
        · rintro (h | h)
          · omega
          · exact h
        · exact Or.inr
      have hBA : BAt c1 0 ((x + y) % P256) := (bat_iff (Nat.mod_lt _ hP0)).2 (fun j hj => by
        rw [Nat.zero_add, hd' j hj]
        unfold onAdd
        rw [if_pos (Nat.zero_le _)]
        congr 2
        unfold dg
        rw [hPP]
        have e : (256 : Nat) ^ 32 = 256 ^ (31 - j) * 256 ^ (j + 1) := by rw [← Nat.pow_add]; congr 1; omega
        rw [e, Nat.mod_mul_right_div_self, Nat.mod_mod_of_dvd]
        exact ⟨256 ^ j, by rw [Nat.pow_succ]; exact Nat.mul_comm _ _⟩)
      clear hcc' hPP hd' hcc hd hP' z0
      rcases Nat.eq_zero_or_pos cy with hc0 | hc0
      · have q1 := hfin.1 hc0
        subst hc0
        clear hfin
        go_wp2
        go_ret
        exact ⟨c1, by simp [q1], bc, hBA, hm⟩
      · have q1 : ¬ (x + y < P256) := fun q => by have := hfin.2 q; omega
        have zc : ¬ (cy : Int) = 0 := by omega
        clear hfin hc0
        go_wp2
        go_ret
        exact ⟨c1, by simp [q1]; omega, bc, hBA, hm⟩
    · obtain ⟨k, hk⟩ : ∃ k, Hid (i = k + 1) := ⟨i - 1, by show i = i - 1 + 1; omega⟩
      have z1 : (0 : Int) < i := by omega
      have j1 : IntKind.i64.wrap ((i : Int) - 1) = (k : Int) := by have := hk.out; rw [IntKind.wrap_i64]; omega
      have hkl : k < 32 := by have := hk.out; omega
      have hkl2 : (k : Int) < 32 := by omega
      have hck : c1 k = .int .u8 (dg x k : Nat) := by have := hk.out; rw [hd.out k hkl]; unfold onAdd; rw [if_neg (by omega)]
      have hyk : wr.cell? ⟨b, off + k, none⟩ = some (.int .u8 (dg y k : Nat)) := (hm.cell (p := ⟨b, off + k, none⟩) hb hne).trans (hy' k hkl)
      have hst := addStep8 x y (256 ^ (31 - k)) (Nat.pow_pos (by decide))
      rw [← Nat.pow_succ] at hst
      have e31 : (31 - k).succ = 32 - k := by omega
      have e32 : 32 - i = 31 - k := by have := hk.out; omega
      rw [e31] at hst
      have hcc' := hcc.out
      rw [e32] at hcc'
      rw [← hcc'] at hst
      change (cy + (dg x k + dg y k)) % 256 = dg (x + y) k ∧ _ at hst
      change _ ∧ (cy + (dg x k + dg y k)) / 256 = _ at hst
      have hdx := dg_lt x k
      have hdy := dg_lt y k
      generalize dg x k = dx at *
      generalize dg y k = dy at *
      obtain ⟨dz, hdz⟩ : ∃ z, Hid (dg (x + y) k = z) := ⟨_, rfl⟩
      rw [hdz.out] at hst
      obtain ⟨hs1, hs2⟩ := hst
      obtain ⟨tot, htot⟩ : ∃ z, Hid (cy + (dx + dy) = z) := ⟨_, rfl⟩
      rw [htot.out] at hs1 hs2
      obtain ⟨sxy, hsxy⟩ : ∃ z, Hid (dx + dy = z) := ⟨_, rfl⟩
      obtain ⟨c2, hc2⟩ : ∃ z, Hid (tot / 256 = z) := ⟨_, rfl⟩
      rw [hc2.out] at hs2
      have k1 : IntKind.u16.wrap (dx : Int) = (dx : Int) := by rw [IntKind.wrap_u16]; omega
      have k2 : IntKind.u16.wrap (dy : Int) = (dy : Int) := by rw [IntKind.wrap_u16]; omega
      have k3 : IntKind.u16.wrap ((dx : Int) + dy) = (sxy : Int) := by have := hsxy.out; rw [IntKind.wrap_u16]; omega
      have k4 : IntKind.u16.wrap ((cy : Int) + sxy) = (tot : Int) := by have := hsxy.out; have := htot.out; rw [IntKind.wrap_u16]; omega
      have k5 : IntKind.u8.wrap (tot : Int) = (dz : Int) := by rw [IntKind.wrap_u8]; omega
      have hc2' := hc2.out
      have htl : tot < 65536 := by have := htot.out; omega
      have k6 : (tot : Int) / 256 = (c2 : Int) := by omega
      have k7 : (tot : Int) / 2 ^ 8 = (c2 : Int) := by rw [show (2 : Int) ^ 8 = 256 by decide]; exact k6
      have k8 : IntKind.u16.wrap (c2 : Int) = (c2 : Int) := by rw [IntKind.wrap_u16]; omega
      have hc2l : c2 ≤ 1 := by have := htot.out; omega
      obtain ⟨hs1'⟩ : Nonempty (Hid (tot % 256 = dz)) := ⟨hs1⟩
      obtain ⟨hs2'⟩ : Nonempty (Hid (c2 = (x % 256 ^ (32 - k) + y % 256 ^ (32 - k)) / 256 ^ (32 - k))) := ⟨hs2⟩
      have hSk : wr.cell? ⟨S, k, none⟩ = some (.int .u8 (dx : Nat)) := by rw [bc.cell hkl, hck]
      clear hs1 hs2 hcc' e31 e32 hc2'
      go_upto_region 5 with (fail)
      go_quiet (fail)
      go_wp2_with (first
        | ((with_reducible (refine Veil.out ?_; apply wl_storeC one5i)); (case hx => rfl); (case hy => rfl); (case h1 => rfl); (case hB => exact bc); (case hi => exact hkl); rintro W5 b5 m5))
      go_roundw
      case rel =>
        have q1 := hk.out
        refine ⟨k, c2, _, rfl, rfl, by omega, hc2l, hs2', b5, ?_, Mod.trans (hm.drewN _) m5⟩
        show ∀ j, j < 32 → _ = Value.int .u8 (onAdd x y k j : Nat)
        intro j hj
        by_cases hjk : j = k
        · subst hjk
          rw [updv_same]
          unfold onAdd
          rw [if_pos (Nat.le_refl _), hdz.out]
          first | rfl | simp [Act.eval]
        · rw [updv_ne _ _ hjk, hd.out j hj]
          unfold onAdd
          by_cases hjl : k ≤ j
          · rw [if_pos hjl, if_pos (by omega)]
          · rw [if_neg hjl, if_neg (by omega)]
      case measure => have q1 := hk.out; simp [intOf]; omega
end
end Go.Proofs.YgvahwGreat
