import Derived.Test.YgvahwGreatKq
import Derived.Test.YgvahwGreatKp
namespace Go.Proofs.YgvahwGreat
open Go.RowKit
set_option linter.unusedSimpArgs false

theorem be64_val (l : List Nat) (i : Nat) (h : i + 8 ≤ l.length) : be64 l i = val ((l.drop i).take 8).reverse := by
  have e : (l.drop i).take 8 = [l.getD i 0, l.getD (i + 1) 0, l.getD (i + 2) 0, l.getD (i + 3) 0, l.getD (i + 4) 0, l.getD (i + 5) 0, l.getD (i + 6) 0, l.getD (i + 7) 0] := by
    apply List.ext_getElem?
    intro q
    rw [List.getElem?_take]
    by_cases hq : q < 8
    · rw [if_pos hq, List.getElem?_drop]
      rcases (show q = 0 ∨ q = 1 ∨ q = 2 ∨ q = 3 ∨ q = 4 ∨ q = 5 ∨ q = 6 ∨ q = 7 by omega) with rfl | rfl | rfl | rfl | rfl | rfl | rfl | rfl <;> simp [List.getD_eq_getElem?_getD, List.getElem?_eq_getElem, show i + 7 < l.length by omega, show i + 6 < l.length by omega, show i + 5 < l.length by omega, show i + 4 < l.length by omega, show i + 3 < l.length by omega, show i + 2 < l.length by omega, show i + 1 < l.length by omega, show i < l.length by omega]
    · rw [if_neg hq, List.getElem?_eq_none (by simp; omega)]
  rw [e]
  unfold be64 be8
  simp [val]
theorem turn_lane (l : List Nat) (hd : Digits l) (i : Nat) (h : 8 * i + 8 ≤ l.length) : turnN (be64 l (8 * i)) = klane l i := by
  have hd8 : Digits ((l.drop (8 * i)).take 8) := fun d q => hd d (List.mem_of_mem_drop (List.mem_of_mem_take q))
  have hdr : Digits ((l.drop (8 * i)).take 8).reverse := fun d q => hd8 d (by simpa using q)
  have hl8 : ((l.drop (8 * i)).take 8).length = 8 := by simp; omega
  have hlt : be64 l (8 * i) < 18446744073709551616 := by
    rw [be64_val l _ h]
    have := val_lt _ hdr
    rw [List.length_reverse, hl8] at this
    exact this
  apply Nat.eq_of_testBit_eq
  intro z
  by_cases hz : z < 64
  · rw [turnN_bit _ _ hlt hz, be64_val l _ h, val_bit _ hdr]
    unfold klane
    rw [val_bit _ hd8]
    congr 1
    · rw [List.getD_eq_getElem?_getD, List.getD_eq_getElem?_getD, List.getElem?_reverse (by rw [hl8]; omega), hl8]
      congr 2
      omega
    · omega
  · have p : (18446744073709551616 : Nat) ≤ 2 ^ z := by rw [show (18446744073709551616 : Nat) = 2 ^ 64 by decide]; exact Nat.pow_le_pow_right (by decide) (by omega)
    rw [Nat.testBit_lt_two_pow (Nat.lt_of_lt_of_le (turnN_lt _ hlt) p), Nat.testBit_lt_two_pow (Nat.lt_of_lt_of_le (klane_lt l hd i) p)]
set_option maxRecDepth 100000 in
set_option maxHeartbeats 6400000 in
theorem kAbsorb (HK : KRnd) {w : World} {g b off : Nat} {c : Nat → Value} {a bl : List Nat} (hB : Blk w g 25 327 c) (hA : LAt c a) (hk : K64 a) (hla : a.length = 25) (hd : Digits bl) (hl : bl.length = 136) (hgb : g ≠ b) (hbw : b < w.heap.size) (hcell : ∀ (i : Nat) (h : i < bl.length), w.cell? ⟨b, off + i, none⟩ = some (.int .u8 (bl[i] : Int))) : Calls Hvah.prog 251 #[.pointer (some ⟨g, 0, none⟩), .pointer (some ⟨b, off, none⟩)] w fun e w' => e = .returned (.tuple #[]) ∧ ∃ c', Blk w' g 25 327 c' ∧ LAt c' (kabsorb a bl) ∧ Mod (· = g) w w' := by
  go_enter Hvah.func251, Hvah.ntmps251
  go_upto_region 1 with (fail)
  try simp only [Act.put]
  go_loopw [4] (fun iv wr => ∃ (i : Nat) (c' : Nat → Value), iv = .int .i64 (i : Nat) ∧ i ≤ 17 ∧ Blk wr g 25 327 c' ∧ LAt c' ((List.range i).foldl (fun a i => a.set i (kget a i ^^^ klane bl i)) a) ∧ Mod (· = g) w wr) (fun iv _ => 17 - (intOf iv).toNat)
  case atStart => exact ⟨0, c, rfl, by decide, hB, hA, Mod.refl _ _⟩
  case round =>
    obtain ⟨i, c', rfl, hi, bB, hL, hM⟩ := hrel
    obtain ⟨hfl, hfg⟩ := kinto_fold bl i a (by omega)
    rcases Nat.lt_or_ge i 17 with hlt | hge
    · have hii : (i : Int) < 17 := by omega
      have i25 : (i : Int) < 25 := by omega
      have j1 : IntKind.i64.wrap ((8 : Int) * i) = ((8 * i : Nat) : Int) := by rw [IntKind.wrap_i64]; omega
      have hcw : ∀ W, Ext wr W → ∀ (q : Nat) (h : q < bl.length), W.cell? ⟨b, off + q, none⟩ = some (.int .u8 (bl[q] : Int)) := fun W hW q h => by
        rw [hW.cell (Nat.lt_of_lt_of_le hbw hM.size), hM.cell (p := ⟨b, off + q, none⟩) hbw (fun e => hgb (Eq.symm e))]
        exact hcell q h
      have HB := fun W (hW : Ext wr W) => mBE64L b off 136 136 (8 * i) bl W hl hd (by omega) (by decide) (by decide) (hcw W hW)
      have hbl : be64 bl (8 * i) < 18446744073709551616 := by
        rw [be64_val bl _ (by omega)]
        have := val_lt ((bl.drop (8 * i)).take 8).reverse (fun d q => hd d (List.mem_of_mem_drop (List.mem_of_mem_take (by simpa using q))))
        rw [List.length_reverse, show ((bl.drop (8 * i)).take 8).length = 8 by simp; omega] at this
        exact this
      have HT := fun W => kTurned (be64 bl (8 * i)) hbl W
      rw [turn_lane bl hd i (by omega)] at HT
      have hst : (List.range (i + 1)).foldl (fun a i => a.set i (kget a i ^^^ klane bl i)) a = ((List.range i).foldl (fun a i => a.set i (kget a i ^^^ klane bl i)) a).set i (kget ((List.range i).foldl (fun a i => a.set i (kget a i ^^^ klane bl i)) a) i ^^^ klane bl i) := by rw [List.range_succ, List.foldl_append]; rfl
      have hkl := klane_lt bl hd i
      have hxi := hL i (by omega)
      have hxl : kget ((List.range i).foldl (fun a i => a.set i (kget a i ^^^ klane bl i)) a) i < 18446744073709551616 := by rw [hfg i, if_neg (Nat.lt_irrefl i)]; exact hk i
      generalize (List.range i).foldl (fun a i => a.set i (kget a i ^^^ klane bl i)) a = A at *
      obtain ⟨x, hx⟩ : ∃ x, Hid (kget A i = x) := ⟨_, rfl⟩
      obtain ⟨y, hy⟩ : ∃ y, Hid (klane bl i = y) := ⟨_, rfl⟩
      obtain ⟨z, hz⟩ : ∃ z, Hid (be64 bl (8 * i) = z) := ⟨_, rfl⟩
      obtain ⟨p, hp⟩ : ∃ p, Hid (8 * i = p) := ⟨_, rfl⟩
      rw [hx.out] at hxi hxl
      rw [hy.out] at HT hkl
      rw [hz.out] at HB HT
      rw [hp.out] at HB j1
      have hxor : bits .xor .u64 (x : Int) (y : Int) = ((x ^^^ y : Nat) : Int) := u64_xor_nat x y hxl hkl
      have K0 : ∀ W q, Ext wr W → q = i → W.cell? ⟨g, q, none⟩ = some (.int .u64 (x : Nat)) := fun W q hW hq => by rw [hq, (bB.ext hW).cell (by omega), hxi]
      go_upto_region 4 with (go_at_call 165; refine (HB _ (by (repeat (first | with_reducible exact Ext.refl _ | with_reducible assumption | refine Ext.trans ?_ (by with_reducible assumption) | refine Ext.alloc ?_ _ _ | refine Ext.drew ?_ | refine Ext.drewN ?_ _)))).mono ?_; rintro e w3 ⟨rfl, he3⟩)
      refine w_ext ?_
      rintro W0 hW0
      refine wp_region_held_drew (S := fun w' => (0 ≤ (w' : World).heap.size)) (by kernel_rfl) (Nat.zero_le _) (fun hHeld => ?_)
      have HH : Hid ((0 ≤ (_ : World).heap.size)) := hHeld
      clear hHeld
      refine wpAnyH_take (i := 0) (v := ?_) rfl (by kernel_rfl) (by kernel_rfl) (by kernel_rfl) (fun _ _ _ h => h) (Or.inl ⟨by rfl, ?_⟩) HH.out ?_
      rotate_left
      · intro w hSw; go_simp; try with_reducible rfl
      change wpAnyH _ _ _ _ _ _ _ (Act.put _ (some 20) _) _
      simp only [Act.put, List.setIfInBounds_toArray, List.set_cons_zero, List.set_cons_succ]
      refine wpAnyH_take (i := 1) (v := ?_) rfl (by kernel_rfl) (by kernel_rfl) (by kernel_rfl) (fun _ _ _ h => h) (Or.inl ⟨by rfl, ?_⟩) HH.out ?_
      rotate_left
      · intro w hSw; go_simp; try with_reducible rfl
      change wpAnyH _ _ _ _ _ _ _ (Act.put _ (some 21) _) _
      simp only [Act.put, List.setIfInBounds_toArray, List.set_cons_zero, List.set_cons_succ]
      refine wpAnyH_take (i := 2) (v := ?_) rfl (by kernel_rfl) (by kernel_rfl) (by kernel_rfl) (fun _ _ _ h => h) (Or.inl ⟨by rfl, ?_⟩) HH.out ?_
      rotate_left
      · intro w hSw; go_simp; try with_reducible rfl
      change wpAnyH _ _ _ _ _ _ _ (Act.put _ (some 22) _) _
      simp only [Act.put, List.setIfInBounds_toArray, List.set_cons_zero, List.set_cons_succ]
      refine wpAnyH_take (i := 3) (v := ?_) rfl (by kernel_rfl) (by kernel_rfl) (by kernel_rfl) (fun _ _ _ h => h) (Or.inl ⟨by rfl, ?_⟩) HH.out ?_
      rotate_left
      · intro w hSw; go_simp; try with_reducible rfl
      change wpAnyH _ _ _ _ _ _ _ (Act.put _ (some 23) _) _
      simp only [Act.put, List.setIfInBounds_toArray, List.set_cons_zero, List.set_cons_succ]
      refine wpAnyH_take (i := 5) (v := ?_) rfl (by kernel_rfl) (by kernel_rfl) (by kernel_rfl) (fun _ _ _ h => h) (Or.inl ⟨by rfl, ?_⟩) HH.out ?_
      rotate_left
      · intro w hSw; go_simp; try with_reducible rfl
      change wpAnyH _ _ _ _ _ _ _ (Act.put _ (some 25) _) _
      simp only [Act.put, List.setIfInBounds_toArray, List.set_cons_zero, List.set_cons_succ]
      refine wpAnyH_take (i := 8) (v := ?_) rfl (by kernel_rfl) (by kernel_rfl) (by kernel_rfl) (fun _ _ _ h => h) (Or.inl ⟨by rfl, ?_⟩) HH.out ?_
      rotate_left
      · intro w hSw; go_simp; try with_reducible rfl
      change wpAnyH _ _ _ _ _ _ _ (Act.put _ (some 28) _) _
      simp only [Act.put, List.setIfInBounds_toArray, List.set_cons_zero, List.set_cons_succ]
      refine wpAnyH_ready (rs := [4, 6]) (by kernel_rfl) (by simp) ?_
      refine (AllReadyH.cons rfl (fun K hK => ?_) (AllReadyH.cons rfl (fun K hK => ?_) AllReadyH.nil))
      refine step_any rfl (op_loadK rfl onek26 rfl (K0 _ _ (by (repeat (first | with_reducible exact Ext.refl _ | with_reducible assumption | refine Ext.trans ?_ (by with_reducible assumption) | refine Ext.alloc ?_ _ _ | refine Ext.drew ?_ | refine Ext.drewN ?_ _))) (by omega)) ?_)
      refine hK.out _ _ HH.out (fun hHeld => ?_)
      clear hK K HH
      have HH : Hid ((0 ≤ (_ : World).heap.size)) := hHeld
      clear hHeld
      change wpAnyH _ _ _ _ _ _ _ (Act.put _ (some 24) _) _
      simp only [Act.put, List.setIfInBounds_toArray, List.set_cons_zero, List.set_cons_succ]
      refine wpAnyH_ready (rs := [6]) (by kernel_rfl) (by simp) ?_
      refine AllReadyH.cons rfl (fun K hK => ?_) AllReadyH.nil
      go_simp
      go_at_call 252; refine (HT _).mono ?_; rintro e w8 ⟨rfl, hww⟩; have he : Ext _ w8 := (by rw [hww]; exact Ext.refl _)
      refine hK.out _ _ ?_ (fun hHeld => ?_)
      · exact Nat.zero_le _
      clear hK K HH
      have HH : Hid ((0 ≤ (_ : World).heap.size)) := hHeld
      clear hHeld
      refine wpAnyH_take (i := 7) (v := ?_) rfl (by kernel_rfl) (by kernel_rfl) (by kernel_rfl) (fun _ _ _ h => h) (Or.inl ⟨by rfl, ?_⟩) HH.out ?_
      rotate_left
      · intro w hSw; go_simp; try with_reducible rfl
      change wpAnyH _ _ _ _ _ _ _ (Act.put _ (some 27) _) _
      simp only [Act.put, List.setIfInBounds_toArray, List.set_cons_zero, List.set_cons_succ]
      refine wpAnyH_take (i := 9) (v := ?_) rfl (by kernel_rfl) (by kernel_rfl) (by kernel_rfl) (fun _ _ _ h => h) (Or.inl ⟨by rfl, ?_⟩) HH.out ?_
      rotate_left
      · intro w hSw; go_simp; try with_reducible rfl
      change wpAnyH _ _ _ _ _ _ _ (Act.put _ (some 29) _) _
      simp only [Act.put, List.setIfInBounds_toArray, List.set_cons_zero, List.set_cons_succ]
      refine wpAnyH_ready (rs := [10]) (by kernel_rfl) (by simp) ?_
      refine AllReadyH.cons rfl (fun K hK => ?_) AllReadyH.nil
      refine step_any rfl (op_store1 rfl onek26 rfl rfl rfl (bB.ext (by (repeat (first | with_reducible exact Ext.refl _ | with_reducible assumption | refine Ext.trans ?_ (by with_reducible assumption) | refine Ext.alloc ?_ _ _ | refine Ext.drew ?_ | refine Ext.drewN ?_ _)))) (by omega) ?_)
      rintro W7 b7 m7
      refine hK.out _ _ (Nat.zero_le _) (fun hHeld => ?_)
      clear hK K HH
      have HH : Hid ((0 ≤ (_ : World).heap.size)) := hHeld
      clear hHeld
      change wpAnyH _ _ _ _ _ _ _ (Act.put _ none _) _
      simp only [Act.put, List.setIfInBounds_toArray, List.set_cons_zero, List.set_cons_succ]
      refine wpAnyH_done (by kernel_rfl) ?_ _
      · go_wp2
        go_roundw
        case rel =>
          refine ⟨i + 1, _, int_eq (by omega), by omega, b7, fun j hj => ?_, hM.trans (((show Ext wr w8 by (repeat (first | with_reducible exact Ext.refl _ | with_reducible assumption | refine Ext.trans ?_ (by with_reducible assumption) | refine Ext.alloc ?_ _ _ | refine Ext.drew ?_ | refine Ext.drewN ?_ _))).mod _).trans m7)⟩
          rw [hst, kget_set _ _ _ _ (by rw [hfl]; omega)]
          by_cases e : j = i
          · subst e
            rw [if_pos rfl, hx.out, hy.out]
            exact (updv_same _ _ _).trans (by first | exact int_eq hxor | rfl)
          · rw [if_neg e, updv_ne _ _ e]; exact hL j hj
        case measure => simp [intOf]; omega
      go_simp
      go_at_call 252; refine (HT _).mono ?_; rintro e w8 ⟨rfl, hww⟩; have he : Ext _ w8 := (by rw [hww]; exact Ext.refl _)
      refine hK.out _ _ ?_ (fun hHeld => ?_)
      · exact Nat.zero_le _
      clear hK K HH
      have HH : Hid ((0 ≤ (_ : World).heap.size)) := hHeld
      clear hHeld
      refine wpAnyH_ready (rs := [4]) (by kernel_rfl) (by simp) ?_
      refine AllReadyH.cons rfl (fun K hK => ?_) AllReadyH.nil
      refine step_any rfl (op_loadK rfl onek26 rfl (K0 _ _ (by (repeat (first | with_reducible exact Ext.refl _ | with_reducible assumption | refine Ext.trans ?_ (by with_reducible assumption) | refine Ext.alloc ?_ _ _ | refine Ext.drew ?_ | refine Ext.drewN ?_ _))) (by omega)) ?_)
      refine hK.out _ _ HH.out (fun hHeld => ?_)
      clear hK K HH
      have HH : Hid ((0 ≤ (_ : World).heap.size)) := hHeld
      clear hHeld
      change wpAnyH _ _ _ _ _ _ _ (Act.put _ (some 24) _) _
      simp only [Act.put, List.setIfInBounds_toArray, List.set_cons_zero, List.set_cons_succ]
      refine wpAnyH_take (i := 7) (v := ?_) rfl (by kernel_rfl) (by kernel_rfl) (by kernel_rfl) (fun _ _ _ h => h) (Or.inl ⟨by rfl, ?_⟩) HH.out ?_
      rotate_left
      · intro w hSw; go_simp; try with_reducible rfl
      change wpAnyH _ _ _ _ _ _ _ (Act.put _ (some 27) _) _
      simp only [Act.put, List.setIfInBounds_toArray, List.set_cons_zero, List.set_cons_succ]
      refine wpAnyH_take (i := 9) (v := ?_) rfl (by kernel_rfl) (by kernel_rfl) (by kernel_rfl) (fun _ _ _ h => h) (Or.inl ⟨by rfl, ?_⟩) HH.out ?_
      rotate_left
      · intro w hSw; go_simp; try with_reducible rfl
      change wpAnyH _ _ _ _ _ _ _ (Act.put _ (some 29) _) _
      simp only [Act.put, List.setIfInBounds_toArray, List.set_cons_zero, List.set_cons_succ]
      refine wpAnyH_ready (rs := [10]) (by kernel_rfl) (by simp) ?_
      refine AllReadyH.cons rfl (fun K hK => ?_) AllReadyH.nil
      refine step_any rfl (op_store1 rfl onek26 rfl rfl rfl (bB.ext (by (repeat (first | with_reducible exact Ext.refl _ | with_reducible assumption | refine Ext.trans ?_ (by with_reducible assumption) | refine Ext.alloc ?_ _ _ | refine Ext.drew ?_ | refine Ext.drewN ?_ _)))) (by omega) ?_)
      rintro W7 b7 m7
      refine hK.out _ _ (Nat.zero_le _) (fun hHeld => ?_)
      clear hK K HH
      have HH : Hid ((0 ≤ (_ : World).heap.size)) := hHeld
      clear hHeld
      change wpAnyH _ _ _ _ _ _ _ (Act.put _ none _) _
      simp only [Act.put, List.setIfInBounds_toArray, List.set_cons_zero, List.set_cons_succ]
      refine wpAnyH_done (by kernel_rfl) ?_ _
      · go_wp2
        go_roundw
        case rel =>
          refine ⟨i + 1, _, int_eq (by omega), by omega, b7, fun j hj => ?_, hM.trans (((show Ext wr w8 by (repeat (first | with_reducible exact Ext.refl _ | with_reducible assumption | refine Ext.trans ?_ (by with_reducible assumption) | refine Ext.alloc ?_ _ _ | refine Ext.drew ?_ | refine Ext.drewN ?_ _))).mod _).trans m7)⟩
          rw [hst, kget_set _ _ _ _ (by rw [hfl]; omega)]
          by_cases e : j = i
          · subst e
            rw [if_pos rfl, hx.out, hy.out]
            exact (updv_same _ _ _).trans (by first | exact int_eq hxor | rfl)
          · rw [if_neg e, updv_ne _ _ e]; exact hL j hj
        case measure => simp [intOf]; omega
    · have hii : ¬ (i : Int) < 17 := by omega
      obtain rfl : i = 17 := by omega
      have hkA : K64 ((List.range 17).foldl (fun a i => a.set i (kget a i ^^^ klane bl i)) a) := fun j => by
        rw [hfg j]
        split
        · exact xor_lt64 (hk _) (klane_lt bl hd _)
        · exact hk _
      have HF := fun W (hW : W = wr) => kFe HK kRCe (w := W) (g := g) (c := c') (by rw [hW]; exact bB) hL hkA
      go_wp2_with (go_at_call 362; refine (HF _ rfl).mono ?_; rintro e w5 ⟨rfl, c5, b5, h5, m5⟩)
      go_end0
      exact ⟨rfl, c5, b5, h5, hM.trans m5⟩
end Go.Proofs.YgvahwGreat
