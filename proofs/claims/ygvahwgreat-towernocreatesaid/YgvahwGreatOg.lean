import Derived.Test.YgvahwGreatOc
import Derived.Test.YgvahwGreatMl
import Derived.Test.YgvahwGreatRowsN
namespace Go.Proofs.YgvahwGreat
open Go.RowKit
set_option linter.unusedSimpArgs false
theorem rt70 : RowT 83 8 := rowT_of (by kernel_rfl) (by kernel_rfl)
theorem Blk.alike {w : World} {b n : Nat} {t : TypeId} {c c' : Nat → Value} (h : Blk w b n t c) (hc : ∀ i, i < n → c i = c' i) : Blk w b n t c' := by
  obtain ⟨a, h1, h2, h3⟩ := h
  exact ⟨a, h1, h2, fun i hi => by rw [h3 i hi, hc i hi]⟩
theorem z70 : zeroOf Hvah.prog 83 = some #[.int .u64 0, .int .u64 0, .int .u64 0, .int .u64 0, .int .u64 0, .int .u64 0, .int .u64 0, .int .u64 0] := by kernel_rfl
theorem z70_at {i : Nat} (hi : i < 8) : cf #[.int .u64 0, .int .u64 0, .int .u64 0, .int .u64 0, .int .u64 0, .int .u64 0, .int .u64 0, .int .u64 0] i = .int .u64 0 := by
  have : i = 0 ∨ i = 1 ∨ i = 2 ∨ i = 3 ∨ i = 4 ∨ i = 5 ∨ i = 6 ∨ i = 7 := by omega
  rcases this with rfl | rfl | rfl | rfl | rfl | rfl | rfl | rfl <;> rfl
theorem destA_succ (c : List Nat) (p n i : Nat) : destA c p (n + 1) i = if i < c.length then (if i = p then decide (c.getD i 0 = 91) else destA c p n (i + 1 + immA (c.getD i 0))) else false := rfl
theorem destA_past {c : List Nat} {p : Nat} : ∀ (n i : Nat), p < i → destA c p n i = false
  | 0, _, _ => rfl
  | n + 1, i, h => by
    unfold destA
    split
    · rw [if_neg (by omega)]; exact destA_past n _ (by omega)
    · rfl
theorem destA_out {c : List Nat} {p : Nat} (hp : c.length ≤ p) : ∀ (n i : Nat), destA c p n i = false
  | 0, _ => rfl
  | n + 1, i => by
    unfold destA
    split
    · rw [if_neg (by omega)]; exact destA_out hp n _
    · rfl
/-- What stands ahead of place i of the scan. -/
structure ScanAt (code : List Nat) (M : Nat → Nat) (i : Nat) : Prop where
  lt : ∀ j, j < 8 → M j < 18446744073709551616
  bit : ∀ j k, j < 8 → k < 64 → (M j).testBit k = decide (64 * j + k < i ∧ isDestA code (64 * j + k) = true)
  way : ∃ n, code.length ≤ n + i ∧ ∀ p, i ≤ p → isDestA code p = destA code p n i
theorem ScanAt.start (code : List Nat) : ScanAt code (fun _ => 0) 0 := ⟨fun _ _ => by decide, fun j k _ _ => by simp, code.length, by omega, fun _ _ => rfl⟩
theorem ScanAt.fin {code : List Nat} {M : Nat → Nat} {i : Nat} (h : ScanAt code M i) (hi : code.length ≤ i) (j : Nat) (hj : j < 8) : M j = destW code j := by
  apply Nat.eq_of_testBit_eq
  intro k
  rcases Nat.lt_or_ge k 64 with hk | hk
  · rw [h.bit j k hj hk, (destW_bit code j k hk).1]
    rcases Nat.lt_or_ge (64 * j + k) code.length with h1 | h1
    · simp [h1, Nat.lt_of_lt_of_le h1 hi]
    · have : isDestA code (64 * j + k) = false := destA_out h1 _ _
      simp [this]
  · have hp : (18446744073709551616 : Nat) ≤ 2 ^ k := by rw [show (18446744073709551616 : Nat) = 2 ^ 64 from rfl]; exact Nat.pow_le_pow_right (by decide) hk
    rw [Nat.testBit_lt_two_pow (Nat.lt_of_lt_of_le (h.lt j hj) hp), Nat.testBit_lt_two_pow (Nat.lt_of_lt_of_le (destW_bit code j 0 (by decide)).2 hp)]
theorem ScanAt.here {code : List Nat} {M : Nat → Nat} {i : Nat} (h : ScanAt code M i) (hi : i < code.length) : isDestA code i = decide (code.getD i 0 = 91) ∧ (∀ p, i < p → p < i + 1 + immA (code.getD i 0) → isDestA code p = false) ∧ ∃ n, code.length ≤ n + (i + 1 + immA (code.getD i 0)) ∧ ∀ p, i + 1 + immA (code.getD i 0) ≤ p → isDestA code p = destA code p n (i + 1 + immA (code.getD i 0)) := by
  obtain ⟨n, h1, h2⟩ := h.way
  obtain ⟨m, rfl⟩ : ∃ m, n = m + 1 := ⟨n - 1, by omega⟩
  refine ⟨?_, fun p h3 h4 => ?_, m, by omega, fun p h3 => ?_⟩
  · rw [h2 i (Nat.le_refl _), destA_succ, if_pos hi, if_pos rfl]
  · rw [h2 p (by omega), destA_succ, if_pos hi, if_neg (by omega)]; exact destA_past _ _ h4
  · rw [h2 p (by omega), destA_succ, if_pos hi, if_neg (by omega)]
theorem ScanAt.skip {code : List Nat} {M : Nat → Nat} {i : Nat} (h : ScanAt code M i) (hi : i < code.length) (hn : code.getD i 0 ≠ 91) : ScanAt code M (i + 1 + immA (code.getD i 0)) := by
  obtain ⟨h1, h2, h3⟩ := h.here hi
  refine ⟨h.lt, fun j k hj hk => ?_, h3⟩
  rw [h.bit j k hj hk]
  clear h3
  generalize code.getD i 0 = x at *
  rcases Nat.lt_trichotomy (64 * j + k) i with q | q | q
  · have q3 : 64 * j + k < i + 1 + immA x := by omega
    simp [q, q3]
  · rw [q, h1]; simp [hn]
  · rcases Nat.lt_or_ge (64 * j + k) (i + 1 + immA x) with q2 | q2
    · rw [h2 _ q q2]; simp
    · have q3 : ¬ 64 * j + k < i := by omega
      have q4 : ¬ 64 * j + k < i + 1 + immA x := by omega
      rw [decide_eq_false (fun z => q3 z.1), decide_eq_false (fun z => q4 z.1)]
theorem ScanAt.mark {code : List Nat} {M : Nat → Nat} {i : Nat} (h : ScanAt code M i) (hi : i < code.length) (hn : code.getD i 0 = 91) : ScanAt code (fun j => if j = i / 64 then M j ||| 2 ^ (i % 64) else M j) (i + 1) := by
  obtain ⟨h1, h2, h3⟩ := h.here hi
  rw [hn] at h3
  have himm : immA 91 = 0 := rfl
  rw [himm, Nat.add_zero] at h3
  refine ⟨fun j hj => ?_, fun j k hj hk => ?_, h3⟩
  · show (if j = i / 64 then M j ||| 2 ^ (i % 64) else M j) < _
    split
    · exact Nat.or_lt_two_pow (n := 64) (h.lt j hj) (Nat.pow_lt_pow_right (by decide) (Nat.mod_lt _ (by decide)))
    · exact h.lt j hj
  · show (if j = i / 64 then M j ||| 2 ^ (i % 64) else M j).testBit k = _
    by_cases q : 64 * j + k = i
    · have e1 : j = i / 64 := by omega
      have e2 : i % 64 = k := by omega
      rw [if_pos e1, Nat.testBit_or, e2, Nat.testBit_two_pow_self, Bool.or_true, q, h1, hn]
      simp
    · have e3 : (if j = i / 64 then M j ||| 2 ^ (i % 64) else M j).testBit k = (M j).testBit k := by
        split
        · rw [Nat.testBit_or, Nat.testBit_two_pow]
          have : ¬ i % 64 = k := by omega
          simp [this]
        · rfl
      rw [e3, h.bit j k hj hk]
      have : 64 * j + k < i ↔ 64 * j + k < i + 1 := by omega
      simp [this]
/-- The eight words as a row. -/
def dsRow (code : List Nat) : Array Value := rowOf (fun j => .int .u64 (destW code j : Nat)) 0 8
section
variable {w : World}
set_option maxRecDepth 100000 in
set_option maxHeartbeats 6400000 in
theorem cScan {O : Nat → Prop} {v : Value} {code : List Nat} (hv : NL O w v code) (hl : code.length ≤ 512) : Calls Hvah.prog 186 #[v] w fun e w' => e = .returned (.agg (dsRow code)) ∧ Ext w w' := by
  obtain ⟨vo, vc, rfl, i1, i2, i3⟩ := hv
  obtain ⟨n, hn⟩ : ∃ n, Hid (code.length = n) := ⟨_, rfl⟩
  have hl2 : ¬ (512 : Int) < n := by have := hn.out; omega
  rw [hn.out] at hl i1
  rw [hn.out]
  go_enter Hvah.func186, Hvah.ntmps186
  go_wp2_with (first | ((with_reducible (refine Veil.out ?_; apply wl_allocB z70)); (case hn => rfl); first | (have _q := b2; rintro B3 W3 e3 b3 g3) | (rintro B2 W2 e2 b2 g2)))
  have hE0 : Ext w W3 := by (repeat (first | with_reducible exact Ext.refl _ | with_reducible assumption | refine Ext.trans ?_ (by with_reducible assumption) | refine Ext.alloc ?_ _ _ | refine Ext.drew ?_ | refine Ext.drewN ?_ _))
  have hg2 : w.heap.size ≤ B2 := g2
  have hg3 : w.heap.size ≤ B3 := Nat.le_trans (Ext.size (show Ext w W2 by (repeat (first | with_reducible exact Ext.refl _ | with_reducible assumption | refine Ext.trans ?_ (by with_reducible assumption) | refine Ext.alloc ?_ _ _ | refine Ext.drew ?_ | refine Ext.drewN ?_ _)))) g3
  have hn23 : ¬ B2 = B3 := fun q => by have := b2.lt; omega
  replace b2 := b2.ext (show Ext W2 W3 by (repeat (first | with_reducible exact Ext.refl _ | with_reducible assumption | refine Ext.trans ?_ (by with_reducible assumption) | refine Ext.alloc ?_ _ _ | refine Ext.drew ?_ | refine Ext.drewN ?_ _)))
  clear e2 e3 g2 g3
  go_loopw [4] (fun iv wr => ∃ i M, iv = .int .i64 (i : Nat) ∧ i ≤ n + 32 ∧ ScanAt code M i ∧ Blk wr B3 8 83 (fun j => .int .u64 (M j : Nat)) ∧ (∃ c2, Blk wr B2 8 83 c2) ∧ Ext w wr) (fun iv _ => n - (intOf iv).toNat)
  case atStart => exact ⟨0, fun _ => 0, rfl, by omega, ScanAt.start code, b3.alike (fun j hj => z70_at hj), ⟨_, b2⟩, hE0⟩
  case round =>
    obtain ⟨i, M, rfl, hile, hsc, hb3, ⟨c2, hb2⟩, hE⟩ := hrel
    rcases Nat.lt_or_ge i n with hlt | hge
    · have hlt' : i < code.length := by rw [hn.out]; exact hlt
      have hii : (i : Int) < n := by omega
      have hne : code ≠ [] := fun q => by rw [q] at hlt'; cases hlt'
      obtain ⟨bb, bo, rfl, hbn, hbl, hbc⟩ := i3.spot hne
      have KC : ∀ W, Ext wr W → W.cell? ⟨bb, bo + i, none⟩ = some (.int .u8 (code.getD i 0 : Nat)) := fun W hW => by
        rw [(hE.trans hW).rc _ _ hbl, hbc i hlt', List.getD_eq_getElem?_getD, List.getElem?_eq_getElem hlt']; rfl
      have hd : code.getD i 0 < 256 := by rw [List.getD_eq_getElem?_getD, List.getElem?_eq_getElem hlt']; exact i3.lt _ (List.getElem_mem hlt')
      have hsk := hsc.skip hlt'
      have hmk := hsc.mark hlt'
      have HI := fun W => oImm (code.getD i 0) W hd
      have him : immA (code.getD i 0) ≤ 32 := by unfold immA; split <;> omega
      have hwi : IntKind.i64.wrap (i : Int) = i := by rw [IntKind.wrap_i64]; omega
      by_cases h91 : code.getD i 0 = 91
      · rw [h91] at KC HI
        clear hsk hd him hbc i3
        have HI2 : ∀ W, Calls Hvah.prog 160 #[.int .u8 91] W fun e w' => e = .returned (.int .u8 0) ∧ w' = W := HI
        clear HI
        obtain ⟨q, hq⟩ : ∃ q, Hid (i / 64 = q) := ⟨_, rfl⟩
        obtain ⟨r, hr⟩ : ∃ r, Hid (i % 64 = r) := ⟨_, rfl⟩
        have d1 : (i : Int) / 64 = (q : Nat) := by have := hq.out; omega
        have d2 : (i : Int) % 64 = (r : Nat) := by have := hr.out; omega
        have d3 : Int.tdiv (i : Int) 64 = (q : Nat) := by rw [Int.tdiv_eq_ediv_of_nonneg (by omega), d1]
        have d4 : Int.tmod (i : Int) 64 = (r : Nat) := by rw [Int.tmod_eq_emod_of_nonneg (by omega), d2]
        have hq8 : (q : Int) < 8 := by have := hq.out; omega
        have hr64 : (r : Int) < 64 := by have := hr.out; omega
        have hwq : IntKind.i64.wrap (q : Int) = q := by rw [IntKind.wrap_i64]; omega
        have hwr : IntKind.i64.wrap (r : Int) = r := by rw [IntKind.wrap_i64]; omega
        have hor : bits .or .u64 ((M q : Nat) : Int) (IntKind.u64.wrap (2 ^ r)) = ((M q ||| 2 ^ r : Nat) : Int) := by
          have hp : (2 : Nat) ^ r < 18446744073709551616 := Nat.pow_lt_pow_right (a := 2) (m := r) (n := 64) (by decide) (by omega)
          have e0 : ((2 : Int) ^ r) = ((2 ^ r : Nat) : Int) := by rw [Int.natCast_pow]; rfl
          rw [e0]
          clear e0
          generalize (2 : Nat) ^ r = z at *
          rw [IntKind.wrap_u64, show ((z : Int) % 18446744073709551616) = (z : Int) by omega]
          exact u64_or_nat _ _ (hsc.lt q (by omega)) hp
        have KCB := fun W (hW : Ext wr W) => hb3.ext hW
        go_upto_region 8 with (first | ((with_reducible (refine Veil.out ?_; apply wl_loadC one5)); (case hw => rfl); (case hx => rfl); (case hc => exact KC _ (by (repeat (first | with_reducible exact Ext.refl _ | with_reducible assumption | refine Ext.trans ?_ (by with_reducible assumption) | refine Ext.alloc ?_ _ _ | refine Ext.drew ?_ | refine Ext.drewN ?_ _))))))
        refine w_ext ?_
        rintro W0 hW0
        refine wp_region_held_drew (S := fun w' => Mod (fun x => x = B3) W0 w') (by kernel_rfl) (Mod.refl _ _).drew (fun hHeld => ?_)
        have HH : Hid (Mod (fun x => x = B3) W0 _) := hHeld
        clear hHeld
        refine wpAnyH_take (i := 0) (v := ?_) rfl (by kernel_rfl) (by kernel_rfl) (by kernel_rfl) (fun _ _ _ h => h) (Or.inl ⟨by rfl, ?_⟩) HH.out ?_
        rotate_left
        · intro w hSw; go_simp; try with_reducible rfl
        change wpAnyH _ _ _ _ _ _ _ (Act.put _ (some 27) _) _
        simp only [Act.put, List.setIfInBounds_toArray, List.set_cons_zero, List.set_cons_succ]
        refine wpAnyH_take (i := 1) (v := ?_) rfl (by kernel_rfl) (by kernel_rfl) (by kernel_rfl) (fun _ _ _ h => h) (Or.inl ⟨by rfl, ?_⟩) HH.out ?_
        rotate_left
        · intro w hSw; go_simp; try with_reducible rfl
        change wpAnyH _ _ _ _ _ _ _ (Act.put _ (some 28) _) _
        simp only [Act.put, List.setIfInBounds_toArray, List.set_cons_zero, List.set_cons_succ]
        refine wpAnyH_take (i := 2) (v := ?_) rfl (by kernel_rfl) (by kernel_rfl) (by kernel_rfl) (fun _ _ _ h => h) (Or.inl ⟨by rfl, ?_⟩) HH.out ?_
        rotate_left
        · intro w hSw; go_simp; try with_reducible rfl
        change wpAnyH _ _ _ _ _ _ _ (Act.put _ (some 29) _) _
        simp only [Act.put, List.setIfInBounds_toArray, List.set_cons_zero, List.set_cons_succ]
        refine wpAnyH_take (i := 4) (v := ?_) rfl (by kernel_rfl) (by kernel_rfl) (by kernel_rfl) (fun _ _ _ h => h) (Or.inl ⟨by rfl, ?_⟩) HH.out ?_
        rotate_left
        · intro w hSw; go_simp; try with_reducible rfl
        change wpAnyH _ _ _ _ _ _ _ (Act.put _ (some 31) _) _
        simp only [Act.put, List.setIfInBounds_toArray, List.set_cons_zero, List.set_cons_succ]
        refine wpAnyH_take (i := 5) (v := ?_) rfl (by kernel_rfl) (by kernel_rfl) (by kernel_rfl) (fun _ _ _ h => h) (Or.inl ⟨by rfl, ?_⟩) HH.out ?_
        rotate_left
        · intro w hSw; go_simp; try with_reducible rfl
        change wpAnyH _ _ _ _ _ _ _ (Act.put _ (some 32) _) _
        simp only [Act.put, List.setIfInBounds_toArray, List.set_cons_zero, List.set_cons_succ]
        refine wpAnyH_take (i := 6) (v := ?_) rfl (by kernel_rfl) (by kernel_rfl) (by kernel_rfl) (fun _ _ _ h => h) (Or.inl ⟨by rfl, ?_⟩) HH.out ?_
        rotate_left
        · intro w hSw; go_simp; try with_reducible rfl
        change wpAnyH _ _ _ _ _ _ _ (Act.put _ (some 33) _) _
        simp only [Act.put, List.setIfInBounds_toArray, List.set_cons_zero, List.set_cons_succ]
        refine wpAnyH_ready (rs := [3]) (by kernel_rfl) (by simp) ?_
        refine AllReadyH.cons rfl (fun K hK => ?_) AllReadyH.nil
        refine step_any rfl (op_load1 rfl onel26 rfl (KCB _ (by (repeat (first | with_reducible exact Ext.refl _ | with_reducible assumption | refine Ext.trans ?_ (by with_reducible assumption) | refine Ext.alloc ?_ _ _ | refine Ext.drew ?_ | refine Ext.drewN ?_ _)))) (by omega) ?_)
        refine hK.out _ _ HH.out (fun hHeld => ?_)
        clear hK K HH
        have HH : Hid (Mod (fun x => x = B3) W0 _) := hHeld
        clear hHeld
        change wpAnyH _ _ _ _ _ _ _ (Act.put _ (some 30) _) _
        simp only [Act.put, List.setIfInBounds_toArray, List.set_cons_zero, List.set_cons_succ]
        refine wpAnyH_take (i := 7) (v := ?_) rfl (by kernel_rfl) (by kernel_rfl) (by kernel_rfl) (fun _ _ _ h => h) (Or.inl ⟨by rfl, ?_⟩) HH.out ?_
        rotate_left
        · intro w hSw; go_simp; try with_reducible rfl
        change wpAnyH _ _ _ _ _ _ _ (Act.put _ (some 34) _) _
        simp only [Act.put, List.setIfInBounds_toArray, List.set_cons_zero, List.set_cons_succ]
        refine wpAnyH_take (i := 8) (v := ?_) rfl (by kernel_rfl) (by kernel_rfl) (by kernel_rfl) (fun _ _ _ h => h) (Or.inl ⟨by rfl, ?_⟩) HH.out ?_
        rotate_left
        · intro w hSw; go_simp; try with_reducible rfl
        change wpAnyH _ _ _ _ _ _ _ (Act.put _ (some 35) _) _
        simp only [Act.put, List.setIfInBounds_toArray, List.set_cons_zero, List.set_cons_succ]
        refine wpAnyH_ready (rs := [9]) (by kernel_rfl) (by simp) ?_
        refine AllReadyH.cons rfl (fun K hK => ?_) AllReadyH.nil
        refine step_any rfl (op_store1 rfl onel26 rfl rfl (by rfl) (KCB _ (by (repeat (first | with_reducible exact Ext.refl _ | with_reducible assumption | refine Ext.trans ?_ (by with_reducible assumption) | refine Ext.alloc ?_ _ _ | refine Ext.drew ?_ | refine Ext.drewN ?_ _)))) (by omega) ?_)
        rintro W8 b8 m8
        refine hK.out _ _ ?_ (fun hHeld => ?_)
        · exact HH.out.trans m8
        clear hK K HH
        have HH : Hid (Mod (fun x => x = B3) W0 _) := hHeld
        clear hHeld
        change wpAnyH _ _ _ _ _ _ _ (Act.put _ none _) _
        simp only [Act.put, List.setIfInBounds_toArray, List.set_cons_zero, List.set_cons_succ]
        refine wpAnyH_done (by kernel_rfl) ?_ _
        have hmm := HH.out
        have hbb : ¬ bb = B3 := fun z => by omega
        have hE8 : Ext w W8 := Ext.trans_mod (hE.trans hW0) hmm (fun x hx => by have hx2 : x = B3 := hx; rw [hx2]; exact hg3)
        have KC2 : ∀ W, Ext W8 W → W.cell? ⟨bb, bo + i, none⟩ = some (.int .u8 91) := fun W hW => by
          have hb0 : bb < W0.heap.size := Nat.lt_of_lt_of_le hbl (hE.trans hW0).size
          rw [hW.rc _ _ (Nat.lt_of_lt_of_le hb0 hmm.size), hmm.cell (p := ⟨bb, bo + i, none⟩) hb0 hbb, KC W0 hW0]; rfl
        have hb28 := (hb2.ext hW0).mod hmm hn23
        clear KC KCB HH d1 d2 d3 d4
        have KC := KC2
        go_wp2_with (first | ((with_reducible (refine Veil.out ?_; apply wl_loadC one5)); (case hw => rfl); (case hx => rfl); (case hc => exact KC _ (by (repeat (first | with_reducible exact Ext.refl _ | with_reducible assumption | refine Ext.trans ?_ (by with_reducible assumption) | refine Ext.alloc ?_ _ _ | refine Ext.drew ?_ | refine Ext.drewN ?_ _))))) | (go_at_call 160; refine (HI2 _).mono ?_; rintro e w1 ⟨rfl, hww⟩; replace hww := hww.symm; subst hww))
        go_roundw
        case rel =>
          refine ⟨i + 1, _, int_eq (by omega), by omega, hmk h91, b8.alike (fun j hj => ?_), ⟨c2, hb28⟩, hE8⟩
          show updv _ q _ j = _
          by_cases hjq : j = q
          · rw [hjq, updv_same, if_pos hq.out.symm, hr.out]
            first | rfl | exact congrArg (Value.int .u64) hor
          · rw [updv_ne _ _ hjq, if_neg (fun z => hjq (z.trans hq.out))]
        case measure => simp [intOf]; omega
      · have z91 : (((code.getD i 0 : Nat) : Int) == 91) = false := by generalize code.getD i 0 = x at *; simp; omega
        have hn9 := hsk h91
        clear hsk hmk hbc i3
        obtain ⟨x, hx⟩ : ∃ x, Hid (code.getD i 0 = x) := ⟨_, rfl⟩
        rw [hx.out] at KC HI z91 hn9 him
        obtain ⟨m, hm⟩ : ∃ m, Hid (immA x = m) := ⟨_, rfl⟩
        rw [hm.out] at HI hn9 him
        have hw1 : IntKind.i64.wrap (m : Int) = m := by rw [IntKind.wrap_i64]; omega
        go_wp2_with (first | ((with_reducible (refine Veil.out ?_; apply wl_loadC one5)); (case hw => rfl); (case hx => rfl); (case hc => exact KC _ (by (repeat (first | with_reducible exact Ext.refl _ | with_reducible assumption | refine Ext.trans ?_ (by with_reducible assumption) | refine Ext.alloc ?_ _ _ | refine Ext.drew ?_ | refine Ext.drewN ?_ _))))) | (go_at_call 160; refine (HI _).mono ?_; rintro e w1 ⟨rfl, hww⟩; replace hww := hww.symm; subst hww))
        go_roundw
        case rel => exact ⟨i + 1 + m, M, int_eq (by omega), by omega, hn9, hb3, ⟨c2, hb2⟩, hE⟩
        case measure => simp [intOf]; omega
    · have hii : ¬ (i : Int) < n := by omega
      have hfin := fun j hj => hsc.fin (by rw [hn.out]; exact hge) j hj
      have hro : rowOf (fun j => Value.int .u64 (M j : Nat)) 0 8 = dsRow code := by
        refine ext_cf (by rw [rowOf_size]; exact (rowOf_size _ _ _).symm) (fun j hj => ?_)
        rw [rowOf_size] at hj
        unfold dsRow
        rw [cf_rowOf _ _ _ hj, cf_rowOf _ _ _ hj, hfin (0 + j) (by omega)]
      have hsz : (dsRow code).size = 8 := rowOf_size _ _ _
      have hon : Ones (dsRow code) := ones_of (fun j hj => by rw [hsz] at hj; unfold dsRow; rw [cf_rowOf _ _ _ hj]; rfl)
      go_wp2_with (first | ((with_reducible (refine Veil.out ?_; apply wl_loadRow rt70)); (case hx => rfl); (case hB => exact hb3); (case hi => decide); rw [hro]) | ((with_reducible (refine Veil.out ?_; apply wl_storeRow rt70)); (case hx => rfl); (case hy => rfl); (case hr => exact hsz); (case h1 => exact hon); (case hB => exact hb2); (case hi => decide); rintro W7 b7 m7))
      have hrr := b7.rowIn (o := 0) (m := 8) (by decide)
      rw [show rowOf (layv c2 0 (dsRow code)) 0 8 = dsRow code by rw [← hsz]; exact rowOf_lay _ _ _] at hrr
      refine post_row rt70 (dsRow code) hsz Hvah.results186 rfl hrr rfl ⟨rfl, Ext.trans_mod hE m7 (fun x hx => by have hx2 : x = B2 := hx; rw [hx2]; exact hg2)⟩
end
end Go.Proofs.YgvahwGreat
