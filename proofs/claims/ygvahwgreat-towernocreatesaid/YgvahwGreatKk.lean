import Derived.Test.YgvahwGreatKg
import Derived.Test.YgvahwGreatKh
import Derived.Test.YgvahwGreatKi
import Derived.Test.YgvahwGreatKj
namespace Go.Proofs.YgvahwGreat
open Go.RowKit
set_option linter.unusedSimpArgs false
set_option maxRecDepth 100000
/-- One round on bits. -/
def bStep (A : Nat → Nat → Nat → Bool) (r : Nat) : Nat → Nat → Nat → Bool := bIota (bChi (bPi (bRho (bTheta A)))) (kRC.getD r 0)
def bRounds (A : Nat → Nat → Nat → Bool) : Nat → Nat → Nat → Nat → Bool
  | 0 => A
  | r + 1 => bStep (bRounds A r) r
theorem oddPos {i : Nat} (hi : i < 1600) : i / 64 % 5 < 5 ∧ i / 320 < 5 ∧ i % 64 < 64 := by omega
theorem FB.agg {n : Nat} {c : Nat → Value} {r : Array Value} {f : Nat → Bool} (h : FB n (cf r) f) (hr : r.size = n) : FB n (layv c 0 r) f := fun i hi => by
  have := layv_in c 0 r (j := i) (by omega)
  rw [Nat.zero_add] at this
  rw [this]; exact h i hi
theorem FB.onesA {n : Nat} {r : Array Value} {f : Nat → Bool} (h : FB n (cf r) f) (hr : r.size = n) : Ones r := ones_of (fun i hi => by rw [h i (by omega)]; rfl)
/-- Bit x, y, z at 64(5y+x)+z. -/
def fs (A : Nat → Nat → Nat → Bool) (i : Nat) : Bool := A (i / 64 % 5) (i / 320) (i % 64)
set_option maxRecDepth 100000 in
set_option maxHeartbeats 6400000 in
theorem kF_ {w : World} {B : Nat} {tt : TypeId} {c : Nat → Value} {A : Nat → Nat → Nat → Bool} (hB : Blk w B 1600 tt c) (hc : FB 1600 c (fs A)) : Calls Hvah.prog 338 #[.pointer (some ⟨B, 0, none⟩)] w fun e w' => e = .returned (.tuple #[]) ∧ ∃ c', Blk w' B 1600 tt c' ∧ FB 1600 c' (fs (bRounds A 24)) ∧ Mod (· = B) w w' := by
  have hBl := hB.lt
  go_enter Hvah.func338, Hvah.ntmps338
  go_upto_region 3 with (first | ((with_reducible (refine Veil.out ?_; apply wl_allocF z439)); rintro N W1 e1 bN0 gN))
  try simp only [Act.put]
  have hBN : ¬ B = N := fun q => by omega
  go_loopw [12] (fun iv wr => ∃ (i : Nat) (cN : Nat → Value), iv = .int .i64 (i : Nat) ∧ i ≤ 1600 ∧ Blk wr N 1600 447 cN ∧ (∀ x y z, x < 5 → y < 5 → z < 64 → 64 * (5 * y + x) + z < i → cN (x * 320 + y * 64 + z) = .bool (A x y z)) ∧ Ext w wr) (fun iv _ => 1600 - (intOf iv).toNat)
  case atStart => exact ⟨0, _, rfl, by decide, bN0, fun x y z _ _ _ h => absurd h (Nat.not_lt_zero _), by (repeat (first | with_reducible exact Ext.refl _ | with_reducible assumption | refine Ext.trans ?_ (by with_reducible assumption) | refine Ext.alloc ?_ _ _ | refine Ext.drew ?_ | refine Ext.drewN ?_ _))⟩
  case round =>
    obtain ⟨i, cN, rfl, hi, hN, fN, hE⟩ := hrel
    rcases Nat.lt_or_ge i 1600 with hlt | hge
    · have hii : (i : Int) < 1600 := by omega
      obtain ⟨av, hav⟩ : ∃ b, Hid (fs A i = b) := ⟨_, rfl⟩
      have KA : ∀ W j, Ext wr W → j = i → W.cell? ⟨B, j, none⟩ = some (.bool av) := fun W j hW hj => by
        rw [hj, ((hB.ext hE).ext hW).cell (by omega), hc _ hlt, hav.out]
      obtain ⟨x, hx⟩ : ∃ x, Hid (i / 64 % 5 = x) := ⟨_, rfl⟩
      obtain ⟨y, hy⟩ : ∃ y, Hid (i / 320 = y) := ⟨_, rfl⟩
      obtain ⟨z, hz⟩ : ∃ z, Hid (i % 64 = z) := ⟨_, rfl⟩
      have hx2 := hx.out
      have hy2 := hy.out
      have hz2 := hz.out
      have t1 : ((i : Int) / 64) % 5 = x := by omega
      have t2 : (i : Int) / 320 = y := by omega
      have t3 : (i : Int) % 64 = z := by omega
      have x5 : (x : Int) < 5 := by omega
      have y5 : (y : Int) < 5 := by omega
      have z5 : (z : Int) < 64 := by omega
      clear hx2 hy2 hz2
      go_upto_region 4 with (fail)
      refine w_ext ?_
      rintro W0 hW0
      refine wp_region_held_drew (S := fun w' => (0 ≤ (w' : World).heap.size)) (by kernel_rfl) (Nat.zero_le _) (fun hHeld => ?_)
      have HH : Hid ((0 ≤ (_ : World).heap.size)) := hHeld
      clear hHeld
      refine wpAnyH_take (i := 0) (v := ?_) rfl (by kernel_rfl) (by kernel_rfl) (by kernel_rfl) (fun _ _ _ h => h) (Or.inl ⟨by rfl, ?_⟩) HH.out ?_
      rotate_left
      · intro w hSw; go_simp; try with_reducible rfl
      change wpAnyH _ _ _ _ _ _ _ (Act.put _ (some 14) _) _
      simp only [Act.put, List.setIfInBounds_toArray, List.set_cons_zero, List.set_cons_succ]
      refine wpAnyH_take (i := 1) (v := ?_) rfl (by kernel_rfl) (by kernel_rfl) (by kernel_rfl) (fun _ _ _ h => h) (Or.inl ⟨by rfl, ?_⟩) HH.out ?_
      rotate_left
      · intro w hSw; go_simp; try with_reducible rfl
      change wpAnyH _ _ _ _ _ _ _ (Act.put _ (some 15) _) _
      simp only [Act.put, List.setIfInBounds_toArray, List.set_cons_zero, List.set_cons_succ]
      refine wpAnyH_take (i := 2) (v := ?_) rfl (by kernel_rfl) (by kernel_rfl) (by kernel_rfl) (fun _ _ _ h => h) (Or.inl ⟨by rfl, ?_⟩) HH.out ?_
      rotate_left
      · intro w hSw; go_simp; try with_reducible rfl
      change wpAnyH _ _ _ _ _ _ _ (Act.put _ (some 16) _) _
      simp only [Act.put, List.setIfInBounds_toArray, List.set_cons_zero, List.set_cons_succ]
      refine wpAnyH_take (i := 4) (v := ?_) rfl (by kernel_rfl) (by kernel_rfl) (by kernel_rfl) (fun _ _ _ h => h) (Or.inl ⟨by rfl, ?_⟩) HH.out ?_
      rotate_left
      · intro w hSw; go_simp; try with_reducible rfl
      change wpAnyH _ _ _ _ _ _ _ (Act.put _ (some 3) _) _
      simp only [Act.put, List.setIfInBounds_toArray, List.set_cons_zero, List.set_cons_succ]
      refine wpAnyH_ready (rs := [3]) (by kernel_rfl) (by simp) ?_
      refine AllReadyH.cons rfl (fun K hK => ?_) AllReadyH.nil
      refine step_any rfl (op_loadK rfl onek4 rfl (KA _ _ (by (repeat (first | with_reducible exact Ext.refl _ | with_reducible assumption | refine Ext.trans ?_ (by with_reducible assumption) | refine Ext.alloc ?_ _ _ | refine Ext.drew ?_ | refine Ext.drewN ?_ _))) (by omega)) ?_)
      refine hK.out _ _ HH.out (fun hHeld => ?_)
      clear hK K HH
      have HH : Hid ((0 ≤ (_ : World).heap.size)) := hHeld
      clear hHeld
      change wpAnyH _ _ _ _ _ _ _ (Act.put _ (some 17) _) _
      simp only [Act.put, List.setIfInBounds_toArray, List.set_cons_zero, List.set_cons_succ]
      refine wpAnyH_take (i := 5) (v := ?_) rfl (by kernel_rfl) (by kernel_rfl) (by kernel_rfl) (fun _ _ _ h => h) (Or.inl ⟨by rfl, ?_⟩) HH.out ?_
      rotate_left
      · intro w hSw; go_simp; try with_reducible rfl
      change wpAnyH _ _ _ _ _ _ _ (Act.put _ (some 4) _) _
      simp only [Act.put, List.setIfInBounds_toArray, List.set_cons_zero, List.set_cons_succ]
      refine wpAnyH_done (by kernel_rfl) ?_ _
      go_wp2_with ((with_reducible (refine Veil.out ?_; apply wl_storeC onek4)); (case hx => rfl); (case hy => rfl); (case h1 => rfl); (case hB => exact hN.ext (by (repeat (first | with_reducible exact Ext.refl _ | with_reducible assumption | refine Ext.trans ?_ (by with_reducible assumption) | refine Ext.alloc ?_ _ _ | refine Ext.drew ?_ | refine Ext.drewN ?_ _)))); (case hi => omega); rintro W6 b6 m6)
      go_roundw
      case rel =>
        refine ⟨i + 1, _, int_eq (by omega), by omega, b6, fun x' y' z' h1 h2 h3 h4 => ?_, Ext.trans_mod (show Ext w W0 by (repeat (first | with_reducible exact Ext.refl _ | with_reducible assumption | refine Ext.trans ?_ (by with_reducible assumption) | refine Ext.alloc ?_ _ _ | refine Ext.drew ?_ | refine Ext.drewN ?_ _))).drew m6 (fun q hq => by have hq2 : q = N := hq; rw [hq2]; exact gN)⟩
        have hx2 := hx.out
        have hy2 := hy.out
        have hz2 := hz.out
        by_cases e : 64 * (5 * y' + x') + z' = i
        · clear t1 t2 t3 KA
          have q1 : i / 64 = 5 * y' + x' := by omega
          have q3 : (5 * y' + x') % 5 = x' := by omega
          have q4 : i / 320 = y' := by omega
          have q5 : i % 64 = z' := by omega
          rw [q1] at hx2
          obtain rfl : x' = x := q3.symm.trans hx2
          obtain rfl : y' = y := q4.symm.trans hy2
          obtain rfl : z' = z := q5.symm.trans hz2
          refine (updv_same _ _ _).trans ?_
          show Value.bool av = _
          rw [← hav.out]; unfold fs; rw [hx.out, hy.out, hz.out]
        · clear t1 t2 t3 KA
          have hi3 : i = 64 * (5 * y + x) + z := by omega
          rw [updv_ne _ _ (fun heq => e (by
            have hxx : x' = x := by omega
            have hyy : y' = y := by omega
            omega))]
          exact fN x' y' z' h1 h2 h3 (by omega)
      case measure => simp [intOf]; omega
    · have hii : ¬ (i : Int) < 1600 := by omega
      obtain rfl : i = 1600 := by omega
      replace fN : FB 1600 cN (fl A) := fun i hi => by
        have := fN (i / 320) (i / 64 % 5) (i % 64) (by omega) (by omega) (by omega) (by omega)
        rw [show i / 320 * 320 + i / 64 % 5 * 64 + i % 64 = i by omega] at this
        exact this
      go_upto_region 8 with (fail)
      try simp only [Act.put]
      go_loopw [5] (fun iv wr => ∃ (i : Nat) (cN : Nat → Value), iv = .int .u8 (i : Nat) ∧ i ≤ 24 ∧ Blk wr N 1600 447 cN ∧ FB 1600 cN (fl (bRounds A i)) ∧ Ext w wr) (fun iv _ => 24 - (intOf iv).toNat)
      case atStart => exact ⟨0, cN, rfl, by decide, hN, fN, hE⟩
      case round =>
        clear hN fN hE
        obtain ⟨i, cN, rfl, hi, hN, fN, hE⟩ := hrel
        rcases Nat.lt_or_ge i 24 with hlt | hge
        · have hii : (i : Int) < 24 := by omega
          go_upto_region 11 with (go_at_call 397; refine (kTheta hN fN).mono ?_; rintro e w3 ⟨rfl, c3, b3, f3, m3⟩)
          have hE3 : Ext w w3 := Ext.trans_mod hE m3 (fun q hq => by have hq2 : q = N := hq; rw [hq2]; exact gN)
          go_upto_region 12 with (first | (go_at_call 398; refine (kRho b3 f3).mono ?_; rintro e w4 ⟨r4, rfl, s4, f4, e4⟩) | ((with_reducible (refine Veil.out ?_; apply wl_allocF z439)); rintro B5 W5 e5 ba5 g5) | ((with_reducible (refine Veil.out ?_; apply wl_storeRow rt439)); (case hx => rfl); (case hy => rfl); (case hr => exact s4); (case h1 => exact f4.onesA s4); (case hB => exact ba5.ext (by (repeat (first | with_reducible exact Ext.refl _ | with_reducible assumption | refine Ext.trans ?_ (by with_reducible assumption) | refine Ext.alloc ?_ _ _ | refine Ext.drew ?_ | refine Ext.drewN ?_ _)))); (case hi => decide); rintro V5 b5 m5))
          have f5 := FB.agg (c := fun _ => .bool false) f4 s4
          have hE5 : Ext w4 V5 := Ext.trans_mod (show Ext w4 _ by (repeat (first | with_reducible exact Ext.refl _ | with_reducible assumption | refine Ext.trans ?_ (by with_reducible assumption) | refine Ext.alloc ?_ _ _ | refine Ext.drew ?_ | refine Ext.drewN ?_ _))) m5 (fun q hq => by have hq2 : q = B5 := hq; rw [hq2]; exact g5)
          clear m5 ba5
          go_upto_region 13 with (first | (go_at_call 399; refine (kPi b5 f5).mono ?_; rintro e w6 ⟨r6, rfl, s6, f6, e6⟩) | ((with_reducible (refine Veil.out ?_; apply wl_allocF z439)); rintro B7 W7 e7 ba7 g7) | ((with_reducible (refine Veil.out ?_; apply wl_storeRow rt439)); (case hx => rfl); (case hy => rfl); (case hr => exact s6); (case h1 => exact f6.onesA s6); (case hB => exact ba7.ext (by (repeat (first | with_reducible exact Ext.refl _ | with_reducible assumption | refine Ext.trans ?_ (by with_reducible assumption) | refine Ext.alloc ?_ _ _ | refine Ext.drew ?_ | refine Ext.drewN ?_ _)))); (case hi => decide); rintro V7 b7 m7))
          have f7 := FB.agg (c := fun _ => .bool false) f6 s6
          have hE7 : Ext w6 V7 := Ext.trans_mod (show Ext w6 _ by (repeat (first | with_reducible exact Ext.refl _ | with_reducible assumption | refine Ext.trans ?_ (by with_reducible assumption) | refine Ext.alloc ?_ _ _ | refine Ext.drew ?_ | refine Ext.drewN ?_ _))) m7 (fun q hq => by have hq2 : q = B7 := hq; rw [hq2]; exact g7)
          clear m7 ba7
          go_upto_region 14 with (first | (go_at_call 400; refine (kChi_ b7 f7).mono ?_; rintro e w8 ⟨r8, rfl, s8, f8, e8⟩) | ((with_reducible (refine Veil.out ?_; apply wl_storeRow rt439)); (case hx => rfl); (case hy => rfl); (case hr => exact s8); (case h1 => exact f8.onesA s8); (case hB => exact b3.ext (by (repeat (first | with_reducible exact Ext.refl _ | with_reducible assumption | refine Ext.trans ?_ (by with_reducible assumption) | refine Ext.alloc ?_ _ _ | refine Ext.drew ?_ | refine Ext.drewN ?_ _)))); (case hi => decide); rintro V9 b9 m9))
          have f9 := FB.agg (c := c3) f8 s8
          go_wp2_with (go_at_call 401; refine (kIota b9 f9 i hlt).mono ?_; rintro e w10 ⟨rfl, c10, b10, f10, m10⟩)
          go_roundw
          case rel =>
            refine ⟨i + 1, c10, int_eq (by omega), by omega, b10, f10, ?_⟩
            refine Ext.trans_mod (show Ext w w8 by (repeat (first | with_reducible exact Ext.refl _ | with_reducible assumption | refine Ext.trans ?_ (by with_reducible assumption) | refine Ext.alloc ?_ _ _ | refine Ext.drew ?_ | refine Ext.drewN ?_ _))) (m9.trans m10) (fun q hq => by have hq2 : q = N := hq; rw [hq2]; exact gN)
          case measure => simp [intOf]; omega
        · have hii : ¬ (i : Int) < 24 := by omega
          obtain rfl : i = 24 := by omega
          go_upto_region 16 with (fail)
          try simp only [Act.put]
          go_loopw [40] (fun iv wr => ∃ (i : Nat) (cB : Nat → Value), iv = .int .i64 (i : Nat) ∧ i ≤ 1600 ∧ Blk wr B 1600 tt cB ∧ FB 1600 cB (onWay (fs (bRounds A 24)) (fs A) i) ∧ Blk wr N 1600 447 cN ∧ Mod (· = B) w wr) (fun iv _ => 1600 - (intOf iv).toNat)
          case atStart => exact ⟨0, c, rfl, by decide, hB.ext hE, hc.congr (fun i _ => onWay_0 _ _ i), hN, hE.mod _⟩
          case round =>
            clear hN hE
            obtain ⟨i, cB, rfl, hi, bB, fB, hN, hM⟩ := hrel
            rcases Nat.lt_or_ge i 1600 with hlt | hge
            · have hii : (i : Int) < 1600 := by omega
              obtain ⟨av, hav⟩ : ∃ b, Hid (fs (bRounds A 24) i = b) := ⟨_, rfl⟩
              obtain ⟨x, hx⟩ : ∃ x, Hid (i / 64 % 5 = x) := ⟨_, rfl⟩
              obtain ⟨y, hy⟩ : ∃ y, Hid (i / 320 = y) := ⟨_, rfl⟩
              obtain ⟨z, hz⟩ : ∃ z, Hid (i % 64 = z) := ⟨_, rfl⟩
              obtain ⟨q, hq⟩ : ∃ z, Hid (i / 64 = z) := ⟨_, rfl⟩
              have hx2 := hx.out
              have hy2 := hy.out
              have hz2 := hz.out
              have hq2 := hq.out
              have hx5 : x < 5 := by omega
              have hy5 : y < 5 := by omega
              have hz5 : z < 64 := by omega
              have KN : ∀ W j, Ext wr W → j = x * 320 + y * 64 + z → W.cell? ⟨N, j, none⟩ = some (.bool av) := fun W j hW hj => by
                rw [hj, (hN.ext hW).cell (by omega), fN _ (by omega), fl_at _ hy5 hz5, ← hav.out]
                unfold fs
                rw [hx2, hy2, hz2]
              have wq : IntKind.i64.wrap (q : Int) = q := by rw [IntKind.wrap_i64]; omega
              have wy : IntKind.i64.wrap (y : Int) = y := by rw [IntKind.wrap_i64]; omega
              have d1 : (i : Int).tdiv 64 = q := by rw [Int.tdiv_eq_ediv_of_nonneg (by omega)]; omega
              have d2 : (q : Int).tmod 5 = x := by rw [Int.tmod_eq_emod_of_nonneg (by omega)]; omega
              have d3 : (i : Int).tdiv 320 = y := by rw [Int.tdiv_eq_ediv_of_nonneg (by omega)]; omega
              have d4 : (i : Int).tmod 64 = z := by rw [Int.tmod_eq_emod_of_nonneg (by omega)]; omega
              have t0 : (i : Int) / 64 = q := by omega
              have t1 : (q : Int) % 5 = x := by omega
              have t2 : (i : Int) / 320 = y := by omega
              have t3 : (i : Int) % 64 = z := by omega
              have x5 : (x : Int) < 5 := by omega
              have y5 : (y : Int) < 5 := by omega
              have z5 : (z : Int) < 64 := by omega
              clear hx2 hy2 hz2 hq2
              go_upto_region 18 with (fail)
              refine w_ext ?_
              rintro W0 hW0
              refine wp_region_held_drew (S := fun w' => (0 ≤ (w' : World).heap.size)) (by kernel_rfl) (Nat.zero_le _) (fun hHeld => ?_)
              have HH : Hid ((0 ≤ (_ : World).heap.size)) := hHeld
              clear hHeld
              refine wpAnyH_take (i := 0) (v := ?_) rfl (by kernel_rfl) (by kernel_rfl) (by kernel_rfl) (fun _ _ _ h => h) (Or.inl ⟨by rfl, ?_⟩) HH.out ?_
              rotate_left
              · intro w hSw; go_simp; try with_reducible rfl
              change wpAnyH _ _ _ _ _ _ _ (Act.put _ (some 43) _) _
              simp only [Act.put, List.setIfInBounds_toArray, List.set_cons_zero, List.set_cons_succ]
              refine wpAnyH_take (i := 1) (v := ?_) rfl (by kernel_rfl) (by kernel_rfl) (by kernel_rfl) (fun _ _ _ h => h) (Or.inl ⟨by rfl, ?_⟩) HH.out ?_
              rotate_left
              · intro w hSw; go_simp; try with_reducible rfl
              change wpAnyH _ _ _ _ _ _ _ (Act.put _ (some 44) _) _
              simp only [Act.put, List.setIfInBounds_toArray, List.set_cons_zero, List.set_cons_succ]
              refine wpAnyH_take (i := 2) (v := ?_) rfl (by kernel_rfl) (by kernel_rfl) (by kernel_rfl) (fun _ _ _ h => h) (Or.inl ⟨by rfl, ?_⟩) HH.out ?_
              rotate_left
              · intro w hSw; go_simp; try with_reducible rfl
              change wpAnyH _ _ _ _ _ _ _ (Act.put _ (some 45) _) _
              simp only [Act.put, List.setIfInBounds_toArray, List.set_cons_zero, List.set_cons_succ]
              refine wpAnyH_take (i := 3) (v := ?_) rfl (by kernel_rfl) (by kernel_rfl) (by kernel_rfl) (fun _ _ _ h => h) (Or.inl ⟨by rfl, ?_⟩) HH.out ?_
              rotate_left
              · intro w hSw; go_simp; try with_reducible rfl
              change wpAnyH _ _ _ _ _ _ _ (Act.put _ (some 46) _) _
              simp only [Act.put, List.setIfInBounds_toArray, List.set_cons_zero, List.set_cons_succ]
              refine wpAnyH_take (i := 4) (v := ?_) rfl (by kernel_rfl) (by kernel_rfl) (by kernel_rfl) (fun _ _ _ h => h) (Or.inl ⟨by rfl, ?_⟩) HH.out ?_
              rotate_left
              · intro w hSw; go_simp; try with_reducible rfl
              change wpAnyH _ _ _ _ _ _ _ (Act.put _ (some 47) _) _
              simp only [Act.put, List.setIfInBounds_toArray, List.set_cons_zero, List.set_cons_succ]
              refine wpAnyH_take (i := 5) (v := ?_) rfl (by kernel_rfl) (by kernel_rfl) (by kernel_rfl) (fun _ _ _ h => h) (Or.inl ⟨by rfl, ?_⟩) HH.out ?_
              rotate_left
              · intro w hSw; go_simp; try with_reducible rfl
              change wpAnyH _ _ _ _ _ _ _ (Act.put _ (some 48) _) _
              simp only [Act.put, List.setIfInBounds_toArray, List.set_cons_zero, List.set_cons_succ]
              refine wpAnyH_take (i := 6) (v := ?_) rfl (by kernel_rfl) (by kernel_rfl) (by kernel_rfl) (fun _ _ _ h => h) (Or.inl ⟨by rfl, ?_⟩) HH.out ?_
              rotate_left
              · intro w hSw; go_simp; try with_reducible rfl
              change wpAnyH _ _ _ _ _ _ _ (Act.put _ (some 49) _) _
              simp only [Act.put, List.setIfInBounds_toArray, List.set_cons_zero, List.set_cons_succ]
              refine wpAnyH_take (i := 7) (v := ?_) rfl (by kernel_rfl) (by kernel_rfl) (by kernel_rfl) (fun _ _ _ h => h) (Or.inl ⟨by rfl, ?_⟩) HH.out ?_
              rotate_left
              · intro w hSw; go_simp; try with_reducible rfl
              change wpAnyH _ _ _ _ _ _ _ (Act.put _ (some 50) _) _
              simp only [Act.put, List.setIfInBounds_toArray, List.set_cons_zero, List.set_cons_succ]
              refine wpAnyH_take (i := 8) (v := ?_) rfl (by kernel_rfl) (by kernel_rfl) (by kernel_rfl) (fun _ _ _ h => h) (Or.inl ⟨by rfl, ?_⟩) HH.out ?_
              rotate_left
              · intro w hSw; go_simp; try with_reducible rfl
              change wpAnyH _ _ _ _ _ _ _ (Act.put _ (some 51) _) _
              simp only [Act.put, List.setIfInBounds_toArray, List.set_cons_zero, List.set_cons_succ]
              refine wpAnyH_take (i := 9) (v := ?_) rfl (by kernel_rfl) (by kernel_rfl) (by kernel_rfl) (fun _ _ _ h => h) (Or.inl ⟨by rfl, ?_⟩) HH.out ?_
              rotate_left
              · intro w hSw; go_simp; try with_reducible rfl
              change wpAnyH _ _ _ _ _ _ _ (Act.put _ (some 52) _) _
              simp only [Act.put, List.setIfInBounds_toArray, List.set_cons_zero, List.set_cons_succ]
              refine wpAnyH_take (i := 10) (v := ?_) rfl (by kernel_rfl) (by kernel_rfl) (by kernel_rfl) (fun _ _ _ h => h) (Or.inl ⟨by rfl, ?_⟩) HH.out ?_
              rotate_left
              · intro w hSw; go_simp; try with_reducible rfl
              change wpAnyH _ _ _ _ _ _ _ (Act.put _ (some 53) _) _
              simp only [Act.put, List.setIfInBounds_toArray, List.set_cons_zero, List.set_cons_succ]
              refine wpAnyH_take (i := 11) (v := ?_) rfl (by kernel_rfl) (by kernel_rfl) (by kernel_rfl) (fun _ _ _ h => h) (Or.inl ⟨by rfl, ?_⟩) HH.out ?_
              rotate_left
              · intro w hSw; go_simp; try with_reducible rfl
              change wpAnyH _ _ _ _ _ _ _ (Act.put _ (some 54) _) _
              simp only [Act.put, List.setIfInBounds_toArray, List.set_cons_zero, List.set_cons_succ]
              refine wpAnyH_take (i := 13) (v := ?_) rfl (by kernel_rfl) (by kernel_rfl) (by kernel_rfl) (fun _ _ _ h => h) (Or.inl ⟨by rfl, ?_⟩) HH.out ?_
              rotate_left
              · intro w hSw; go_simp; try with_reducible rfl
              change wpAnyH _ _ _ _ _ _ _ (Act.put _ (some 56) _) _
              simp only [Act.put, List.setIfInBounds_toArray, List.set_cons_zero, List.set_cons_succ]
              refine wpAnyH_ready (rs := [12]) (by kernel_rfl) (by simp) ?_
              refine AllReadyH.cons rfl (fun K hK => ?_) AllReadyH.nil
              refine step_any rfl (op_loadK rfl onek4 rfl (KN _ _ (by (repeat (first | with_reducible exact Ext.refl _ | with_reducible assumption | refine Ext.trans ?_ (by with_reducible assumption) | refine Ext.alloc ?_ _ _ | refine Ext.drew ?_ | refine Ext.drewN ?_ _))) (by omega)) ?_)
              refine hK.out _ _ HH.out (fun hHeld => ?_)
              clear hK K HH
              have HH : Hid ((0 ≤ (_ : World).heap.size)) := hHeld
              clear hHeld
              change wpAnyH _ _ _ _ _ _ _ (Act.put _ (some 55) _) _
              simp only [Act.put, List.setIfInBounds_toArray, List.set_cons_zero, List.set_cons_succ]
              refine wpAnyH_take (i := 14) (v := ?_) rfl (by kernel_rfl) (by kernel_rfl) (by kernel_rfl) (fun _ _ _ h => h) (Or.inl ⟨by rfl, ?_⟩) HH.out ?_
              rotate_left
              · intro w hSw; go_simp; try with_reducible rfl
              change wpAnyH _ _ _ _ _ _ _ (Act.put _ (some 57) _) _
              simp only [Act.put, List.setIfInBounds_toArray, List.set_cons_zero, List.set_cons_succ]
              refine wpAnyH_ready (rs := [15]) (by kernel_rfl) (by simp) ?_
              refine AllReadyH.cons rfl (fun K hK => ?_) AllReadyH.nil
              refine step_any rfl (op_store1 rfl onek4 rfl rfl rfl (bB.ext (by (repeat (first | with_reducible exact Ext.refl _ | with_reducible assumption | refine Ext.trans ?_ (by with_reducible assumption) | refine Ext.alloc ?_ _ _ | refine Ext.drew ?_ | refine Ext.drewN ?_ _)))) (by omega) ?_)
              rintro W7 b7 m7
              refine hK.out _ _ (Nat.zero_le _) (fun hHeld => ?_)
              clear hK K HH
              have HH : Hid ((0 ≤ (_ : World).heap.size)) := hHeld
              clear hHeld
              change wpAnyH _ _ _ _ _ _ _ (Act.put _ none _) _
              simp only [Act.put, List.setIfInBounds_toArray, List.set_cons_zero, List.set_cons_succ]
              refine wpAnyH_done (by kernel_rfl) ?_ _
              go_wp2
              go_roundw
              case rel =>
                have eW : Ext wr W0 := by (repeat (first | with_reducible exact Ext.refl _ | with_reducible assumption | refine Ext.trans ?_ (by with_reducible assumption) | refine Ext.alloc ?_ _ _ | refine Ext.drew ?_ | refine Ext.drewN ?_ _))
                refine ⟨i + 1, _, int_eq (by omega), by omega, b7, ?_, (hN.ext eW.drew).mod m7 (fun q => hBN (Eq.symm q)), (hM.trans_ext eW.drew).trans m7⟩
                exact onWay_put (p := i) fB (by omega) (by rw [hav.out]; rfl)
              case measure => simp [intOf]; omega
            · have hii : ¬ (i : Int) < 1600 := by omega
              obtain rfl : i = 1600 := by omega
              go_wp2
              go_end0
              exact ⟨rfl, cB, bB, fB.congr (fun i hi => (onWay_all hi).symm), hM⟩
end Go.Proofs.YgvahwGreat
