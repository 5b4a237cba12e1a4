import Derived.Test.YgvahwGreatYF
import Derived.Test.YgvahwGreatKc
import Derived.Test.YgvahwGreatRowsK
import Derived.Test.YgvahwGreatRowsN
import Derived.Test.YgvahwGreatArity
import Derived.Test.YgvahwGreatMLb
import Derived.Test.YgvahwGreatTb
namespace Go.Proofs.YgvahwGreat
open Go.RowKit
set_option linter.unusedSimpArgs false

theorem onet96o : OneT 109 := oneT_of (by kernel_rfl) (by kernel_rfl)
theorem el96 : ElT 109 1 #[.slice none 0 0] := ⟨⟨Hvah.t109, .slice none 0 0, info96, zero96, rfl, size96, Nat.le_trans bytes96 (by decide)⟩, rfl, by decide⟩
theorem nums_one8 {O : Nat → Prop} {w : World} {v : Value} {l : List Nat} (h : NumS O w v l) : v.oneCell' = true := by obtain ⟨_, _, rfl, _⟩ := h; rfl
section
variable {kk : Nat → Value} {O TM TL : Nat → Prop} {w : World} {Y F q n : Nat} {tF : TypeId} {c d : Nat → Value} {W : YW} {start : List (Nat × Nat × Nat)} {st : ASt} {f : AFrame}
set_option maxRecDepth 100000 in
set_option maxHeartbeats 6400000 in
theorem xPlainV (hX : YX kk O TM TL w Y F q n tF c d W start st f) (o : Nat) (ho : o < 256) (h128 : o < 128) (h86 : o ≠ 86) (h87 : o ≠ 87) (hg : givesA o = 1) (hT : takesA o ≤ f.stack.length) (xv : Nat) (W' : YW) (st' : ASt) (HV : ∀ W1 vg, Ext w W1 → NumL O W1 vg ((List.range (takesA o)).map f.arg) → Calls Hvah.prog 161 #[.pointer (some ⟨Y, 0, none⟩), .pointer (some ⟨F, q, none⟩), .int .u8 o, vg] W1 fun e w' => ∃ r c', e = .returned r ∧ NV O w' r xv ∧ YX kk O TM TL w' Y F q n tF c' d W' start st' f ∧ Mod (· = Y) W1 w') (hok' : FOK (f.settle (takesA o) [xv] (1 + immA o))) : Calls Hvah.prog 76 #[.pointer (some ⟨Y, 0, none⟩), .pointer (some ⟨F, q, none⟩), .int .u8 o] w fun e w' => e = .returned (.tuple #[]) ∧ ∃ c' d', YX kk O TM TL w' Y F q n tF c' d' W' start st' (f.settle (takesA o) [xv] (1 + immA o)) ∧ Mod (fun b => b = Y ∨ b = F) w w' ∧ (∀ i, i ≠ q + 8 → i ≠ q + 3 → d' i = d i) := by
  have hO := hX.small
  have hq := hX.hq
  have hYl := hX.bY.lt
  have hsl := hX.ok.sLen
  have hsli : (f.stack.length : Int) ≤ 64 := by omega
  have hdp : dl f.pc ≤ 2000 := Nat.le_trans (dl_u64 _ (by have := hX.ok.pc; omega)) (by decide)
  obtain ⟨os, cs, hsd, hs1⟩ := NumS.slice hX.fc.stack
  rw [List.length_reverse] at hsd
  have hsc : f.stack.length ≤ cs := by
    obtain ⟨o2, cap2, h1, h2, _⟩ := hX.fc.stack
    rw [hsd] at h1
    injection h1 with _ _ h1
    rw [h1]; simpa using h2
  have hIm : immA o ≤ 32 := by unfold immA; split <;> omega
  have HAr := yArity o ho
  have HIm := fun W1 => oImm o W1 ho
  obtain ⟨im, him2⟩ : ∃ x, Hid (immA o = x) := ⟨_, rfl⟩
  obtain ⟨T, hTT⟩ : ∃ x, Hid (takesA o = x) := ⟨_, rfl⟩
  have HTT : Hid (T = T) := rfl
  rw [him2.out] at HIm hIm
  rw [hTT.out] at hT HAr HV hok' ⊢
  rw [him2.out] at hok' ⊢
  rw [hg] at HAr
  obtain ⟨args, hargs⟩ : ∃ x, Hid ((List.range T).map f.arg = x) := ⟨_, rfl⟩
  have hal : args.length = T := by rw [← hargs.out]; simp
  rw [hargs.out] at HV
  have hT64 : T ≤ 64 := Nat.le_trans hT hsl
  have n86 : ¬ (o : Int) = 86 := by omega
  have n87 : ¬ (o : Int) = 87 := by omega
  have n128 : ¬ (128 : Int) ≤ (o : Int) := by omega
  have n144 : ¬ (144 : Int) ≤ (o : Int) := by omega
  have m86 : ((o : Int) == 86) = false := by simp; omega
  have m87 : ((o : Int) == 87) = false := by simp; omega
  clear hs1 h86 h87 h128
  go_enter Hvah.func76, Hvah.ntmps76
  go_upto_region 1 with (go_at_call 146; refine (HAr _).mono ?_; rintro e w1 ⟨rfl, hww⟩; replace hww := hww.symm; subst hww)
  go_upto_region 2 with ((with_reducible (refine Veil.out ?_; apply wl_makeR under145 el96 T)); (case hl => rfl); (case hc => rfl); (case hn => omega); rintro B W1 e1 b1 g1)
  rw [Nat.mul_one] at b1
  have hBY : ¬ B = Y := by omega
  have hLE : ∀ W', Mod (· = B) W1 W' → Ext w W' := fun W' hm => Ext.trans_mod e1 hm (fun q hq => by have hq2 : q = B := hq; rw [hq2]; exact g1)
  have hXw : ∀ W', Mod (· = B) W1 W' → YX kk (Wd O B) TM TL W' Y F q n tF c d W start st f := fun W' hm => hX.widen0 g1 (hLE W' hm) (Nat.lt_of_lt_of_le b1.lt hm.size)
  go_upto_block 0 with (fail)
  go_cut [] (fun wx => ∃ cA, Blk wx B T 109 cA ∧ Hid (∀ j, j < T → NV (Wd O B) wx (cA j) (f.arg j)) ∧ Mod (· = B) W1 wx)
  case first =>
    go_upto_region 3 with (fail)
    try simp only [Act.put]
    go_loopw [24] (fun iv wr => ∃ (i : Nat) (cA : Nat → Value), iv = .int .i64 (i : Nat) ∧ i ≤ T ∧ Blk wr B T 109 cA ∧ Hid (∀ j, j < i → NV (Wd O B) wr (cA j) (f.arg j)) ∧ Mod (· = B) W1 wr) (fun iv _ => T - (intOf iv).toNat)
    case atStart => exact ⟨0, _, rfl, Nat.zero_le _, b1, (fun j hj => absurd hj (Nat.not_lt_zero _) : ∀ j, j < 0 → _), Mod.refl _ _⟩
    case round =>
      obtain ⟨i, cA, rfl, hi, bA, hdone, hm⟩ := hrel
      rcases Nat.lt_or_ge i T with hlt | hge
      · have z1 : (i : Int) < (T : Int) := by omega
        have z2 : IntKind.i64.wrap ((i : Int) + 1) = ((i + 1 : Nat) : Int) := by rw [IntKind.wrap_i64]; omega
        have HXA := fun W' (hW : Ext wr W') => xArg (((hXw _ hm)).ext hW) i (by omega)
        go_upto_region 6 with (first | (go_at_call 73; refine (HXA _ (by (repeat (first | with_reducible exact Ext.refl _ | with_reducible assumption | refine Ext.trans ?_ (by with_reducible assumption) | refine Ext.alloc ?_ _ _ | refine Ext.drew ?_ | refine Ext.drewN ?_ _)))).mono ?_; rintro e w2 ⟨r2, rfl, hr2, he2⟩) | ((with_reducible (refine Veil.out ?_; apply wl_storeC onet96o)); (case hx => rfl); (case hy => rfl); (case h1 => exact hr2.one); (case hB => exact bA.ext he2); (case hi => exact hlt); rintro W5 b5 m5))
        go_wp2
        go_roundw
        case rel =>
          refine ⟨i + 1, _, rfl, hlt, b5, (fun j hj => ?_ : ∀ j, j < i + 1 → NV (Wd O B) W5 (updv cA i r2 j) (f.arg j)), (hm.trans (he2.mod _)).trans m5⟩
          by_cases e : j = i
          · subst e; rw [updv_same]; exact hr2.keep m5 (fun b hb q => hb (Or.inr q))
          · rw [updv_ne _ _ e]; exact (((hdone.out j (by omega)).ext he2)).keep m5 (fun b hb q => hb (Or.inr q))
        case measure => simp [intOf]; omega
      · have z1 : ¬ (i : Int) < (T : Int) := by omega
        have : i = T := by omega
        subst this
        go_wp2
        go_meet
        case rel => exact ⟨cA, bA, hdone, hm⟩
  case rest =>
  obtain ⟨cA, bA, hdone, hm⟩ := hcut
  obtain ⟨W3, eW3⟩ : ∃ X, X = wc := ⟨_, rfl⟩
  subst eW3
  have E3 := hLE _ hm
  have HN : ∀ W', Ext W3 W' → NumL O W' (.slice (some ⟨B, 0, none⟩) T T) args := fun W' hW => Or.inr ⟨B, T, cA, by rw [hal], by rw [hal]; exact Nat.le_refl _, by omega, by rw [Nat.mul_one]; exact bA.ext hW, fun hb => by have := hO B hb; omega, fun i hi => by
    have hi2 : i < T := by rw [← hal]; exact hi
    have e : args[i] = f.arg i := by
      have : ((List.range T).map f.arg)[i]'(by simpa using hi2) = f.arg i := by simp
      rw [← this]; congr 1; exact hargs.out.symm
    rw [Nat.mul_one, e]
    exact ((hdone.out i hi2).narrow).ext hW⟩
  have hX3 := hX.ext E3
  clear hdone hargs hXw hLE bA hm b1 g1 HAr
  have iw : IntKind.u64.wrap (1 + (im : Int)) = ((1 + im : Nat) : Int) := by rw [IntKind.wrap_u64]; omega
  have iw2 : IntKind.u64.wrap (im : Int) = (im : Int) := by rw [IntKind.wrap_u64]; omega
  go_upto_region 7 with (fail)
  refine w_ext ?_
  rintro W0 hW0
  refine wp_region_held_drew (S := fun w' => Ext W0 w') (by kernel_rfl) (Ext.refl _).drew (fun hHeld => ?_)
  have HH : Hid (Ext W0 _) := hHeld
  clear hHeld
  refine wpAnyH_take (i := 0) (v := ?_) rfl (by kernel_rfl) (by kernel_rfl) (by kernel_rfl) (fun _ _ _ h => h) (Or.inl ⟨by rfl, ?_⟩) HH.out ?_
  rotate_left
  · intro w hSw; go_simp; try with_reducible rfl
  change wpAnyH _ _ _ _ _ _ _ (Act.put _ (some 34) _) _
  simp only [Act.put, List.setIfInBounds_toArray, List.set_cons_zero, List.set_cons_succ]
  refine wpAnyH_take (i := 1) (v := ?_) rfl (by kernel_rfl) (by kernel_rfl) (by kernel_rfl) (fun _ _ _ h => h) (Or.inl ⟨by rfl, ?_⟩) HH.out ?_
  rotate_left
  · intro w hSw; go_simp; try with_reducible rfl
  change wpAnyH _ _ _ _ _ _ _ (Act.put _ (some 35) _) _
  simp only [Act.put, List.setIfInBounds_toArray, List.set_cons_zero, List.set_cons_succ]
  refine wpAnyH_take (i := 2) (v := ?_) rfl (by kernel_rfl) (by kernel_rfl) (by kernel_rfl) (fun _ _ _ h => h) (Or.inl ⟨by rfl, ?_⟩) HH.out ?_
  rotate_left
  · intro w hSw; go_simp; try with_reducible rfl
  change wpAnyH _ _ _ _ _ _ _ (Act.put _ (some 36) _) _
  simp only [Act.put, List.setIfInBounds_toArray, List.set_cons_zero, List.set_cons_succ]
  refine wpAnyH_take (i := 3) rfl (by kernel_rfl) (by kernel_rfl) (by kernel_rfl) (fun _ _ _ h => h) (yieldsIf_load1 (by rfl) _ _ rfl _ _ rfl onet96o _ (fun w hSw => (hX3.bF.ext (hW0.trans hSw)).cell (by omega))) HH.out ?_
  change wpAnyH _ _ _ _ _ _ _ (Act.put _ (some 37) _) _
  simp only [Act.put, List.setIfInBounds_toArray, List.set_cons_zero, List.set_cons_succ]
  refine wpAnyH_take (i := 4) (v := ?_) rfl (by kernel_rfl) (by kernel_rfl) (by kernel_rfl) (fun _ _ _ h => h) (Or.inl ⟨by rfl, ?_⟩) HH.out ?_
  rotate_left
  · intro w hSw; go_simp; try with_reducible rfl
  change wpAnyH _ _ _ _ _ _ _ (Act.put _ (some 38) _) _
  simp only [Act.put, List.setIfInBounds_toArray, List.set_cons_zero, List.set_cons_succ]
  refine wpAnyH_ready (rs := [5]) (by kernel_rfl) (by simp) ?_
  refine AllReadyH.cons rfl (fun K hK => ?_) AllReadyH.nil
  go_simp
  (go_at_call 160; refine (HIm _).mono ?_; rintro e w1 ⟨rfl, hww⟩; replace hww := hww.symm; subst hww)
  refine hK.out _ _ ?_ (fun hHeld => ?_)
  · first | exact HH.out.trans hmY | exact HH.out.trans he | exact HH.out
  clear hK K HH
  have HH : Hid (Ext W0 _) := hHeld
  clear hHeld
  refine wpAnyH_take (i := 6) (v := ?_) rfl (by kernel_rfl) (by kernel_rfl) (by kernel_rfl) (fun _ _ _ h => h) (Or.inl ⟨by rfl, ?_⟩) HH.out ?_
  rotate_left
  · intro w hSw; go_simp; try with_reducible rfl
  change wpAnyH _ _ _ _ _ _ _ (Act.put _ (some 40) _) _
  simp only [Act.put, List.setIfInBounds_toArray, List.set_cons_zero, List.set_cons_succ]
  refine wpAnyH_take (i := 7) (v := ?_) rfl (by kernel_rfl) (by kernel_rfl) (by kernel_rfl) (fun _ _ _ h => h) (Or.inl ⟨by rfl, ?_⟩) HH.out ?_
  rotate_left
  · intro w hSw; go_simp; try with_reducible rfl
  change wpAnyH _ _ _ _ _ _ _ (Act.put _ (some 41) _) _
  simp only [Act.put, List.setIfInBounds_toArray, List.set_cons_zero, List.set_cons_succ]
  refine wpAnyH_ready (rs := [8]) (by kernel_rfl) (by simp) ?_
  refine AllReadyH.cons rfl (fun K hK => ?_) AllReadyH.nil
  go_simp
  (go_at_call 42; refine (nNum O (1 + im) _ (hX3.small.ext (by (repeat (first | with_reducible exact Ext.refl _ | with_reducible assumption | refine Ext.trans ?_ (by with_reducible assumption) | refine Ext.alloc ?_ _ _ | refine Ext.drew ?_ | refine Ext.drewN ?_ _)))) (by omega)).mono ?_; rintro e w4 ⟨r1, rfl, hr1, he⟩)
  refine hK.out _ _ ?_ (fun hHeld => ?_)
  · first | exact HH.out.trans hmY | exact HH.out.trans he | exact HH.out
  clear hK K HH
  have HH : Hid (Ext W0 _) := hHeld
  clear hHeld
  refine wpAnyH_ready (rs := [9]) (by kernel_rfl) (by simp) ?_
  refine AllReadyH.cons rfl (fun K hK => ?_) AllReadyH.nil
  go_simp
  (go_at_call 44; refine (nAdd O _ _ _ _ _ (hX3.small.ext (by (repeat (first | with_reducible exact Ext.refl _ | with_reducible assumption | refine Ext.trans ?_ (by with_reducible assumption) | refine Ext.alloc ?_ _ _ | refine Ext.drew ?_ | refine Ext.drewN ?_ _)))) (hX3.fc.pc.ext (by (repeat (first | with_reducible exact Ext.refl _ | with_reducible assumption | refine Ext.trans ?_ (by with_reducible assumption) | refine Ext.alloc ?_ _ _ | refine Ext.drew ?_ | refine Ext.drewN ?_ _)))) (hr1.ext (by (repeat (first | with_reducible exact Ext.refl _ | with_reducible assumption | refine Ext.trans ?_ (by with_reducible assumption) | refine Ext.alloc ?_ _ _ | refine Ext.drew ?_ | refine Ext.drewN ?_ _)))) hdp (Nat.le_trans (dl_u64 _ (by omega)) (by decide))).mono ?_; rintro e w5 ⟨r2, rfl, hr2, he⟩)
  refine hK.out _ _ ?_ (fun hHeld => ?_)
  · first | exact HH.out.trans hmY | exact HH.out.trans he | exact HH.out
  clear hK K HH
  have HH : Hid (Ext W0 _) := hHeld
  clear hHeld
  refine wpAnyH_take (i := 10) (v := ?_) rfl (by kernel_rfl) (by kernel_rfl) (by kernel_rfl) (fun _ _ _ h => h) (Or.inl ⟨by rfl, ?_⟩) HH.out ?_
  rotate_left
  · intro w hSw; go_simp; try with_reducible rfl
  change wpAnyH _ _ _ _ _ _ _ (Act.put _ (some 11) _) _
  simp only [Act.put, List.setIfInBounds_toArray, List.set_cons_zero, List.set_cons_succ]
  refine wpAnyH_done (by kernel_rfl) ?_ _
  have X4 := hX3.ext (hW0.trans HH.out)
  have hr3 := hr2
  have HN4 := fun W' (hW : Ext _ W') => HN W' ((hW0.trans HH.out).trans hW)
  have E4 := E3.trans (hW0.trans HH.out)
  have EE4 := hW0.trans HH.out
  clear HH hW0 HN hr1 hX3
  have i1 : (f.stack.length : Int) - (T : Int) = ((f.stack.length - T : Nat) : Int) := by omega
  have i3 : ((f.stack.length - T : Nat) : Int) ≤ 64 := by omega
  have i4 : ((f.stack.length - T : Nat) : Int) ≤ cs := by omega
  obtain ⟨m, hm⟩ : ∃ m, Hid (f.stack.length - T = m) := ⟨_, rfl⟩
  have hm2 : m ≤ f.stack.length := by have := hm.out; omega
  rw [hm.out] at i1 i3 i4
  have iwm : IntKind.i64.wrap ((f.stack.length : Int) - (T : Int)) = (m : Int) := by rw [i1, IntKind.wrap_i64]; omega
  have iwm2 : IntKind.i64.wrap (m : Int) = (m : Int) := by rw [IntKind.wrap_i64]; omega
  have i5 : ¬ ((m : Int) < 0) := by omega
  have i7 : (0 : Int) ≤ (m : Int) := by omega
  have i6 : m ≤ cs := by omega
  go_upto_region 8 with (fail)
  refine w_ext ?_
  rintro W0 hW0
  refine wp_region_held_drew (S := fun w' => Ext W0 w') (by kernel_rfl) (Ext.refl _).drew (fun hHeld => ?_)
  have HH : Hid (Ext W0 _) := hHeld
  clear hHeld
  refine wpAnyH_take (i := 0) (v := ?_) rfl (by kernel_rfl) (by kernel_rfl) (by kernel_rfl) (fun _ _ _ h => h) (Or.inl ⟨by rfl, ?_⟩) HH.out ?_
  rotate_left
  · intro w hSw; go_simp; try with_reducible rfl
  change wpAnyH _ _ _ _ _ _ _ (Act.put _ (some 44) _) _
  simp only [Act.put, List.setIfInBounds_toArray, List.set_cons_zero, List.set_cons_succ]
  refine wpAnyH_take (i := 1) (v := ?_) rfl (by kernel_rfl) (by kernel_rfl) (by kernel_rfl) (fun _ _ _ h => h) (Or.inl ⟨by rfl, ?_⟩) HH.out ?_
  rotate_left
  · intro w hSw; go_simp; try with_reducible rfl
  change wpAnyH _ _ _ _ _ _ _ (Act.put _ (some 45) _) _
  simp only [Act.put, List.setIfInBounds_toArray, List.set_cons_zero, List.set_cons_succ]
  refine wpAnyH_take (i := 2) (v := ?_) rfl (by kernel_rfl) (by kernel_rfl) (by kernel_rfl) (fun _ _ _ h => h) (Or.inl ⟨by rfl, ?_⟩) HH.out ?_
  rotate_left
  · intro w hSw; go_simp; try with_reducible rfl
  change wpAnyH _ _ _ _ _ _ _ (Act.put _ (some 46) _) _
  simp only [Act.put, List.setIfInBounds_toArray, List.set_cons_zero, List.set_cons_succ]
  refine wpAnyH_take (i := 3) rfl (by kernel_rfl) (by kernel_rfl) (by kernel_rfl) (fun _ _ _ h => h) (yieldsIf_load1 (by rfl) _ _ rfl _ _ rfl oneN _ (fun w hSw => by rw [(X4.bF.ext (hW0.trans hSw)).cell (by omega), hsd])) HH.out ?_
  change wpAnyH _ _ _ _ _ _ _ (Act.put _ (some 47) _) _
  simp only [Act.put, List.setIfInBounds_toArray, List.set_cons_zero, List.set_cons_succ]
  refine wpAnyH_take (i := 4) (v := ?_) rfl (by kernel_rfl) (by kernel_rfl) (by kernel_rfl) (fun _ _ _ h => h) (Or.inl ⟨by rfl, ?_⟩) HH.out ?_
  rotate_left
  · intro w hSw; go_simp; try with_reducible rfl
  change wpAnyH _ _ _ _ _ _ _ (Act.put _ (some 48) _) _
  simp only [Act.put, List.setIfInBounds_toArray, List.set_cons_zero, List.set_cons_succ]
  refine wpAnyH_take (i := 5) (v := ?_) rfl (by kernel_rfl) (by kernel_rfl) (by kernel_rfl) (fun _ _ _ h => h) (Or.inl ⟨by rfl, ?_⟩) HH.out ?_
  rotate_left
  · intro w hSw; go_simp; try with_reducible rfl
  change wpAnyH _ _ _ _ _ _ _ (Act.put _ (some 49) _) _
  simp only [Act.put, List.setIfInBounds_toArray, List.set_cons_zero, List.set_cons_succ]
  refine wpAnyH_take (i := 6) (v := ?_) rfl (by kernel_rfl) (by kernel_rfl) (by kernel_rfl) (fun _ _ _ h => h) (Or.inl ⟨by rfl, ?_⟩) HH.out ?_
  rotate_left
  · intro w hSw; go_simp; try with_reducible rfl
  change wpAnyH _ _ _ _ _ _ _ (Act.put _ (some 50) _) _
  simp only [Act.put, List.setIfInBounds_toArray, List.set_cons_zero, List.set_cons_succ]
  refine wpAnyH_take (i := 7) rfl (by kernel_rfl) (by kernel_rfl) (by kernel_rfl) (fun _ _ _ h => h) (yieldsIf_load1 (by rfl) _ _ rfl _ _ rfl oneN _ (fun w hSw => by rw [(X4.bF.ext (hW0.trans hSw)).cell (by omega), hsd])) HH.out ?_
  change wpAnyH _ _ _ _ _ _ _ (Act.put _ (some 51) _) _
  simp only [Act.put, List.setIfInBounds_toArray, List.set_cons_zero, List.set_cons_succ]
  refine wpAnyH_take (i := 8) (v := ?_) rfl (by kernel_rfl) (by kernel_rfl) (by kernel_rfl) (fun _ _ _ h => h) (Or.inl ⟨by rfl, ?_⟩) HH.out ?_
  rotate_left
  · intro w hSw; go_simp; try with_reducible rfl
  change wpAnyH _ _ _ _ _ _ _ (Act.put _ (some 52) _) _
  simp only [Act.put, List.setIfInBounds_toArray, List.set_cons_zero, List.set_cons_succ]
  refine wpAnyH_take (i := 9) (v := ?_) rfl (by kernel_rfl) (by kernel_rfl) (by kernel_rfl) (fun _ _ _ h => h) (Or.inl ⟨by rfl, ?_⟩) HH.out ?_
  rotate_left
  · intro w hSw; go_simp; try with_reducible rfl
  change wpAnyH _ _ _ _ _ _ _ (Act.put _ (some 53) _) _
  simp only [Act.put, List.setIfInBounds_toArray, List.set_cons_zero, List.set_cons_succ]
  refine wpAnyH_take (i := 10) (v := ?_) rfl (by kernel_rfl) (by kernel_rfl) (by kernel_rfl) (fun _ _ _ h => h) (Or.inl ⟨by rfl, ?_⟩) HH.out ?_
  rotate_left
  · intro w hSw; go_simp; try with_reducible rfl
  change wpAnyH _ _ _ _ _ _ _ (Act.put _ (some 54) _) _
  simp only [Act.put, List.setIfInBounds_toArray, List.set_cons_zero, List.set_cons_succ]
  refine wpAnyH_take (i := 11) (v := ?_) rfl (by kernel_rfl) (by kernel_rfl) (by kernel_rfl) (fun _ _ _ h => h) (Or.inl ⟨by rfl, ?_⟩) HH.out ?_
  rotate_left
  · intro w hSw; go_simp; try with_reducible rfl
  change wpAnyH _ _ _ _ _ _ _ (Act.put _ (some 55) _) _
  simp only [Act.put, List.setIfInBounds_toArray, List.set_cons_zero, List.set_cons_succ]
  refine wpAnyH_take (i := 12) (v := ?_) rfl (by kernel_rfl) (by kernel_rfl) (by kernel_rfl) (fun _ _ _ h => h) (Or.inl ⟨by rfl, ?_⟩) HH.out ?_
  rotate_left
  · intro w hSw; go_simp; try with_reducible rfl
  change wpAnyH _ _ _ _ _ _ _ (Act.put _ (some 56) _) _
  simp only [Act.put, List.setIfInBounds_toArray, List.set_cons_zero, List.set_cons_succ]
  refine wpAnyH_take (i := 13) (v := ?_) rfl (by kernel_rfl) (by kernel_rfl) (by kernel_rfl) (fun _ _ _ h => h) (Or.inl ⟨by rfl, ?_⟩) HH.out ?_
  rotate_left
  · intro w hSw; go_simp; try with_reducible rfl
  change wpAnyH _ _ _ _ _ _ _ (Act.put _ (some 57) _) _
  simp only [Act.put, List.setIfInBounds_toArray, List.set_cons_zero, List.set_cons_succ]
  refine wpAnyH_take (i := 14) rfl (by kernel_rfl) (by kernel_rfl) (by kernel_rfl) (fun _ _ _ h => h) (yieldsIf_load1 (by rfl) _ _ rfl _ _ rfl oneN _ (fun w hSw => by rw [(X4.bF.ext (hW0.trans hSw)).cell (by omega), hsd])) HH.out ?_
  change wpAnyH _ _ _ _ _ _ _ (Act.put _ (some 58) _) _
  simp only [Act.put, List.setIfInBounds_toArray, List.set_cons_zero, List.set_cons_succ]
  refine wpAnyH_take (i := 15) (v := ?_) rfl (by kernel_rfl) (by kernel_rfl) (by kernel_rfl) (fun _ _ _ h => h) (Or.inl ⟨by rfl, ?_⟩) HH.out ?_
  rotate_left
  · intro w hSw; go_simp; try with_reducible rfl
  change wpAnyH _ _ _ _ _ _ _ (Act.put _ (some 59) _) _
  simp only [Act.put, List.setIfInBounds_toArray, List.set_cons_zero, List.set_cons_succ]
  refine wpAnyH_take (i := 16) (v := ?_) rfl (by kernel_rfl) (by kernel_rfl) (by kernel_rfl) (fun _ _ _ h => h) (Or.inl ⟨by rfl, ?_⟩) HH.out ?_
  rotate_left
  · intro w hSw; go_simp; try with_reducible rfl
  change wpAnyH _ _ _ _ _ _ _ (Act.put _ (some 60) _) _
  simp only [Act.put, List.setIfInBounds_toArray, List.set_cons_zero, List.set_cons_succ]
  refine wpAnyH_take (i := 17) (v := ?_) rfl (by kernel_rfl) (by kernel_rfl) (by kernel_rfl) (fun _ _ _ h => h) (Or.inl ⟨by rfl, ?_⟩) HH.out ?_
  rotate_left
  · intro w hSw; go_simp; try with_reducible rfl
  change wpAnyH _ _ _ _ _ _ _ (Act.put _ (some 61) _) _
  simp only [Act.put, List.setIfInBounds_toArray, List.set_cons_zero, List.set_cons_succ]
  refine wpAnyH_take (i := 18) (v := ?_) rfl (by kernel_rfl) (by kernel_rfl) (by kernel_rfl) (fun _ _ _ h => h) (Or.inl ⟨by rfl, ?_⟩) HH.out ?_
  rotate_left
  · intro w hSw; go_simp; try with_reducible rfl
  change wpAnyH _ _ _ _ _ _ _ (Act.put _ (some 62) _) _
  simp only [Act.put, List.setIfInBounds_toArray, List.set_cons_zero, List.set_cons_succ]
  refine wpAnyH_take (i := 19) (v := ?_) rfl (by kernel_rfl) (by kernel_rfl) (by kernel_rfl) (fun _ _ _ h => h) (Or.inl ⟨by rfl, ?_⟩) HH.out ?_
  rotate_left
  · intro w hSw; go_simp; try with_reducible rfl
  change wpAnyH _ _ _ _ _ _ _ (Act.put _ (some 12) _) _
  simp only [Act.put, List.setIfInBounds_toArray, List.set_cons_zero, List.set_cons_succ]
  refine wpAnyH_done (by kernel_rfl) ?_ _
  have X5 := X4.ext (hW0.trans HH.out)
  have hr5 := hr3.ext (hW0.trans HH.out)
  have HN5 := fun W' (hW : Ext _ W') => HN4 W' ((hW0.trans HH.out).trans hW)
  have E5 := E4.trans (hW0.trans HH.out)
  have EE5 := EE4.trans (hW0.trans HH.out)
  clear HH hW0 HN4 hr3 hr2 X4 E4 E3 e1 EE4
  have HT : Hid (f.stack.reverse.take m ++ [xv] = (f.settle T [xv] (1 + im)).stack.reverse) := by
    unfold AFrame.settle
    rw [← hm.out]
    simp [List.take_reverse, show f.stack.length - (f.stack.length - T) = T by omega]
    try exact trivial
  go_upto_region 24 with (fail)
  go_upto_region 25 with (first | (go_at_call 161; refine (HV _ _ E5 (HN5 _ (Ext.refl _))).mono ?_; rintro e w6 ⟨r6, c6, rfl, hr6, X6, m6⟩; obtain ⟨ks, ⟨ko, kc, hke, _, _, _⟩, _⟩ := id hr6; subst hke) | ((with_reducible (refine Veil.out ?_; apply wl_pushN)); (case hO => exact X6.small.ext ((Ext.refl _).alloc _ _)); (case hG => exact NumS.ext X6.fc.stack ((Ext.refl _).alloc _ _)); (case hk => rw [List.length_reverse]; exact hm2); (case hk2 => omega); (case hbase => exact ⟨_, _, hsd⟩); (case hs => rfl); (case hx => rfl); (case hc => exact row_new _ _ _ 0 _ rfl); (case hu => exact hr6.ext ((Ext.refl _).alloc _ _)); rintro v8 W1 hv8 hE1))
  have E7 := ((Ext.refl w6).alloc _ _).trans hE1
  have X7 := X6.ext E7
  have hr7 := (hr5.keep m6 X5.hsY).ext E7
  have hv8' : NumS O W1 v8 (f.settle T [xv] (1 + im)).stack.reverse := by rw [← HT.out]; exact hv8.numS
  have kp := X7.ok
  have hok1 : FOK { f with stack := (f.settle T [xv] (1 + im)).stack } := ⟨kp.kind, kp.pre, kp.pc, hok'.sLen, hok'.sLt, kp.gas, kp.self, kp.caller, kp.value, kp.code, kp.mLen, kp.m32, kp.oLt, kp.lLt, kp.out⟩
  clear hv8 HV HN5
  go_upto_region 26 with ((with_reducible (refine Veil.out ?_; apply wl_store1 oneN)); (case hx => rfl); (case hy => rfl); (case h1 => exact nums_one8 hv8'); (case hB => exact X7.bF); (case ho => omega); rintro W2 hB2 hm2')
  have X8 := X7.putStack hv8' hm2' hB2 hok1
  have hr8 := hr7.keep hm2' X7.hsF
  go_wp2_with ((with_reducible (refine Veil.out ?_; apply wl_store1 onet96o)); (case hx => rfl); (case hy => rfl); (case h1 => exact hr8.one); (case hB => exact X8.bF); (case ho => omega); rintro W9 hB9 hm9)
  go_end0
  refine ⟨rfl, c6, _, X8.putPc hr8 hm9 hB9 hok', ?_, fun i h8 h3 => by rw [updv_ne _ _ h3, updv_ne _ _ h8]⟩
  exact (((E5.mod _).trans (m6.sub (fun b hb => Or.inl hb))).trans (E7.mod _)).trans ((hm2'.trans hm9).sub (fun b hb => Or.inr hb))
set_option maxRecDepth 100000 in
set_option maxHeartbeats 6400000 in
theorem xPlainE (hX : YX kk O TM TL w Y F q n tF c d W start st f) (o : Nat) (ho : o < 256) (h128 : o < 128) (h86 : o ≠ 86) (h87 : o ≠ 87) (hg : givesA o = 0) (hT : takesA o ≤ f.stack.length) (W' : YW) (st' : ASt) (f1 : AFrame) (hf1 : f1.stack = f.stack) (hf2 : f1.pc = f.pc) (HV : ∀ W1 vg, Ext w W1 → NumL O W1 vg ((List.range (takesA o)).map f.arg) → Calls Hvah.prog 162 #[.pointer (some ⟨Y, 0, none⟩), .pointer (some ⟨F, q, none⟩), .int .u8 o, vg] W1 fun e w' => ∃ c', e = .returned (.bool true) ∧ YX kk O TM TL w' Y F q n tF c' d W' start st' f1 ∧ Mod (fun b => b = Y ∨ TM b) W1 w') (hok1 : FOK { f1 with stack := f.stack.drop (takesA o) }) (hok' : FOK (f1.settle (takesA o) [] 1)) (him : immA o = 0) : Calls Hvah.prog 76 #[.pointer (some ⟨Y, 0, none⟩), .pointer (some ⟨F, q, none⟩), .int .u8 o] w fun e w' => e = .returned (.tuple #[]) ∧ ∃ c' d', YX kk O TM TL w' Y F q n tF c' d' W' start st' (f1.settle (takesA o) [] 1) ∧ Mod (fun b => b = Y ∨ b = F ∨ TM b) w w' ∧ (∀ i, i ≠ q + 8 → i ≠ q + 3 → d' i = d i) := by
  have hO := hX.small
  have hq := hX.hq
  have hYl := hX.bY.lt
  have hsl := hX.ok.sLen
  have hsli : (f.stack.length : Int) ≤ 64 := by omega
  have hdp : dl f.pc ≤ 2000 := Nat.le_trans (dl_u64 _ (by have := hX.ok.pc; omega)) (by decide)
  obtain ⟨os, cs, hsd, hs1⟩ := NumS.slice hX.fc.stack
  rw [List.length_reverse] at hsd
  have hsc : f.stack.length ≤ cs := by
    obtain ⟨o2, cap2, h1, h2, _⟩ := hX.fc.stack
    rw [hsd] at h1
    injection h1 with _ _ h1
    rw [h1]; simpa using h2
  have hIm : immA o ≤ 32 := by unfold immA; split <;> omega
  have HAr := yArity o ho
  have HIm := fun W1 => oImm o W1 ho
  obtain ⟨im, him2⟩ : ∃ x, Hid (immA o = x) := ⟨_, rfl⟩
  obtain ⟨T, hTT⟩ : ∃ x, Hid (takesA o = x) := ⟨_, rfl⟩
  have HTT : Hid (T = T) := rfl
  rw [him2.out] at HIm hIm
  rw [hTT.out] at hT HAr HV hok' hok1 ⊢
  rw [hg] at HAr
  obtain ⟨args, hargs⟩ : ∃ x, Hid ((List.range T).map f.arg = x) := ⟨_, rfl⟩
  have hal : args.length = T := by rw [← hargs.out]; simp
  rw [hargs.out] at HV
  have hT64 : T ≤ 64 := Nat.le_trans hT hsl
  have n86 : ¬ (o : Int) = 86 := by omega
  have n87 : ¬ (o : Int) = 87 := by omega
  have n128 : ¬ (128 : Int) ≤ (o : Int) := by omega
  have n144 : ¬ (144 : Int) ≤ (o : Int) := by omega
  have m86 : ((o : Int) == 86) = false := by simp; omega
  have m87 : ((o : Int) == 87) = false := by simp; omega
  clear hs1 h86 h87 h128
  go_enter Hvah.func76, Hvah.ntmps76
  go_upto_region 1 with (go_at_call 146; refine (HAr _).mono ?_; rintro e w1 ⟨rfl, hww⟩; replace hww := hww.symm; subst hww)
  go_upto_region 2 with ((with_reducible (refine Veil.out ?_; apply wl_makeR under145 el96 T)); (case hl => rfl); (case hc => rfl); (case hn => omega); rintro B W1 e1 b1 g1)
  rw [Nat.mul_one] at b1
  have hBY : ¬ B = Y := by omega
  have hLE : ∀ W', Mod (· = B) W1 W' → Ext w W' := fun W' hm => Ext.trans_mod e1 hm (fun q hq => by have hq2 : q = B := hq; rw [hq2]; exact g1)
  have hXw : ∀ W', Mod (· = B) W1 W' → YX kk (Wd O B) TM TL W' Y F q n tF c d W start st f := fun W' hm => hX.widen0 g1 (hLE W' hm) (Nat.lt_of_lt_of_le b1.lt hm.size)
  go_upto_block 0 with (fail)
  go_cut [] (fun wx => ∃ cA, Blk wx B T 109 cA ∧ Hid (∀ j, j < T → NV (Wd O B) wx (cA j) (f.arg j)) ∧ Mod (· = B) W1 wx)
  case first =>
    go_upto_region 3 with (fail)
    try simp only [Act.put]
    go_loopw [24] (fun iv wr => ∃ (i : Nat) (cA : Nat → Value), iv = .int .i64 (i : Nat) ∧ i ≤ T ∧ Blk wr B T 109 cA ∧ Hid (∀ j, j < i → NV (Wd O B) wr (cA j) (f.arg j)) ∧ Mod (· = B) W1 wr) (fun iv _ => T - (intOf iv).toNat)
    case atStart => exact ⟨0, _, rfl, Nat.zero_le _, b1, (fun j hj => absurd hj (Nat.not_lt_zero _) : ∀ j, j < 0 → _), Mod.refl _ _⟩
    case round =>
      obtain ⟨i, cA, rfl, hi, bA, hdone, hm⟩ := hrel
      rcases Nat.lt_or_ge i T with hlt | hge
      · have z1 : (i : Int) < (T : Int) := by omega
        have z2 : IntKind.i64.wrap ((i : Int) + 1) = ((i + 1 : Nat) : Int) := by rw [IntKind.wrap_i64]; omega
        have HXA := fun W' (hW : Ext wr W') => xArg (((hXw _ hm)).ext hW) i (by omega)
        go_upto_region 6 with (first | (go_at_call 73; refine (HXA _ (by (repeat (first | with_reducible exact Ext.refl _ | with_reducible assumption | refine Ext.trans ?_ (by with_reducible assumption) | refine Ext.alloc ?_ _ _ | refine Ext.drew ?_ | refine Ext.drewN ?_ _)))).mono ?_; rintro e w2 ⟨r2, rfl, hr2, he2⟩) | ((with_reducible (refine Veil.out ?_; apply wl_storeC onet96o)); (case hx => rfl); (case hy => rfl); (case h1 => exact hr2.one); (case hB => exact bA.ext he2); (case hi => exact hlt); rintro W5 b5 m5))
        go_wp2
        go_roundw
        case rel =>
          refine ⟨i + 1, _, rfl, hlt, b5, (fun j hj => ?_ : ∀ j, j < i + 1 → NV (Wd O B) W5 (updv cA i r2 j) (f.arg j)), (hm.trans (he2.mod _)).trans m5⟩
          by_cases e : j = i
          · subst e; rw [updv_same]; exact hr2.keep m5 (fun b hb q => hb (Or.inr q))
          · rw [updv_ne _ _ e]; exact (((hdone.out j (by omega)).ext he2)).keep m5 (fun b hb q => hb (Or.inr q))
        case measure => simp [intOf]; omega
      · have z1 : ¬ (i : Int) < (T : Int) := by omega
        have : i = T := by omega
        subst this
        go_wp2
        go_meet
        case rel => exact ⟨cA, bA, hdone, hm⟩
  case rest =>
  obtain ⟨cA, bA, hdone, hm⟩ := hcut
  obtain ⟨W3, eW3⟩ : ∃ X, X = wc := ⟨_, rfl⟩
  subst eW3
  have E3 := hLE _ hm
  have HN : ∀ W', Ext W3 W' → NumL O W' (.slice (some ⟨B, 0, none⟩) T T) args := fun W' hW => Or.inr ⟨B, T, cA, by rw [hal], by rw [hal]; exact Nat.le_refl _, by omega, by rw [Nat.mul_one]; exact bA.ext hW, fun hb => by have := hO B hb; omega, fun i hi => by
    have hi2 : i < T := by rw [← hal]; exact hi
    have e : args[i] = f.arg i := by
      have : ((List.range T).map f.arg)[i]'(by simpa using hi2) = f.arg i := by simp
      rw [← this]; congr 1; exact hargs.out.symm
    rw [Nat.mul_one, e]
    exact ((hdone.out i hi2).narrow).ext hW⟩
  have hX3 := hX.ext E3
  clear hdone hargs hXw hLE bA hm b1 g1 HAr
  have iw : IntKind.u64.wrap (1 + (im : Int)) = ((1 + im : Nat) : Int) := by rw [IntKind.wrap_u64]; omega
  have iw2 : IntKind.u64.wrap (im : Int) = (im : Int) := by rw [IntKind.wrap_u64]; omega
  go_upto_region 7 with (fail)
  refine w_ext ?_
  rintro W0 hW0
  refine wp_region_held_drew (S := fun w' => Ext W0 w') (by kernel_rfl) (Ext.refl _).drew (fun hHeld => ?_)
  have HH : Hid (Ext W0 _) := hHeld
  clear hHeld
  refine wpAnyH_take (i := 0) (v := ?_) rfl (by kernel_rfl) (by kernel_rfl) (by kernel_rfl) (fun _ _ _ h => h) (Or.inl ⟨by rfl, ?_⟩) HH.out ?_
  rotate_left
  · intro w hSw; go_simp; try with_reducible rfl
  change wpAnyH _ _ _ _ _ _ _ (Act.put _ (some 34) _) _
  simp only [Act.put, List.setIfInBounds_toArray, List.set_cons_zero, List.set_cons_succ]
  refine wpAnyH_take (i := 1) (v := ?_) rfl (by kernel_rfl) (by kernel_rfl) (by kernel_rfl) (fun _ _ _ h => h) (Or.inl ⟨by rfl, ?_⟩) HH.out ?_
  rotate_left
  · intro w hSw; go_simp; try with_reducible rfl
  change wpAnyH _ _ _ _ _ _ _ (Act.put _ (some 35) _) _
  simp only [Act.put, List.setIfInBounds_toArray, List.set_cons_zero, List.set_cons_succ]
  refine wpAnyH_take (i := 2) (v := ?_) rfl (by kernel_rfl) (by kernel_rfl) (by kernel_rfl) (fun _ _ _ h => h) (Or.inl ⟨by rfl, ?_⟩) HH.out ?_
  rotate_left
  · intro w hSw; go_simp; try with_reducible rfl
  change wpAnyH _ _ _ _ _ _ _ (Act.put _ (some 36) _) _
  simp only [Act.put, List.setIfInBounds_toArray, List.set_cons_zero, List.set_cons_succ]
  refine wpAnyH_take (i := 3) rfl (by kernel_rfl) (by kernel_rfl) (by kernel_rfl) (fun _ _ _ h => h) (yieldsIf_load1 (by rfl) _ _ rfl _ _ rfl onet96o _ (fun w hSw => (hX3.bF.ext (hW0.trans hSw)).cell (by omega))) HH.out ?_
  change wpAnyH _ _ _ _ _ _ _ (Act.put _ (some 37) _) _
  simp only [Act.put, List.setIfInBounds_toArray, List.set_cons_zero, List.set_cons_succ]
  refine wpAnyH_take (i := 4) (v := ?_) rfl (by kernel_rfl) (by kernel_rfl) (by kernel_rfl) (fun _ _ _ h => h) (Or.inl ⟨by rfl, ?_⟩) HH.out ?_
  rotate_left
  · intro w hSw; go_simp; try with_reducible rfl
  change wpAnyH _ _ _ _ _ _ _ (Act.put _ (some 38) _) _
  simp only [Act.put, List.setIfInBounds_toArray, List.set_cons_zero, List.set_cons_succ]
  refine wpAnyH_ready (rs := [5]) (by kernel_rfl) (by simp) ?_
  refine AllReadyH.cons rfl (fun K hK => ?_) AllReadyH.nil
  go_simp
  (go_at_call 160; refine (HIm _).mono ?_; rintro e w1 ⟨rfl, hww⟩; replace hww := hww.symm; subst hww)
  refine hK.out _ _ ?_ (fun hHeld => ?_)
  · first | exact HH.out.trans hmY | exact HH.out.trans he | exact HH.out
  clear hK K HH
  have HH : Hid (Ext W0 _) := hHeld
  clear hHeld
  refine wpAnyH_take (i := 6) (v := ?_) rfl (by kernel_rfl) (by kernel_rfl) (by kernel_rfl) (fun _ _ _ h => h) (Or.inl ⟨by rfl, ?_⟩) HH.out ?_
  rotate_left
  · intro w hSw; go_simp; try with_reducible rfl
  change wpAnyH _ _ _ _ _ _ _ (Act.put _ (some 40) _) _
  simp only [Act.put, List.setIfInBounds_toArray, List.set_cons_zero, List.set_cons_succ]
  refine wpAnyH_take (i := 7) (v := ?_) rfl (by kernel_rfl) (by kernel_rfl) (by kernel_rfl) (fun _ _ _ h => h) (Or.inl ⟨by rfl, ?_⟩) HH.out ?_
  rotate_left
  · intro w hSw; go_simp; try with_reducible rfl
  change wpAnyH _ _ _ _ _ _ _ (Act.put _ (some 41) _) _
  simp only [Act.put, List.setIfInBounds_toArray, List.set_cons_zero, List.set_cons_succ]
  refine wpAnyH_ready (rs := [8]) (by kernel_rfl) (by simp) ?_
  refine AllReadyH.cons rfl (fun K hK => ?_) AllReadyH.nil
  go_simp
  (go_at_call 42; refine (nNum O (1 + im) _ (hX3.small.ext (by (repeat (first | with_reducible exact Ext.refl _ | with_reducible assumption | refine Ext.trans ?_ (by with_reducible assumption) | refine Ext.alloc ?_ _ _ | refine Ext.drew ?_ | refine Ext.drewN ?_ _)))) (by omega)).mono ?_; rintro e w4 ⟨r1, rfl, hr1, he⟩)
  refine hK.out _ _ ?_ (fun hHeld => ?_)
  · first | exact HH.out.trans hmY | exact HH.out.trans he | exact HH.out
  clear hK K HH
  have HH : Hid (Ext W0 _) := hHeld
  clear hHeld
  refine wpAnyH_ready (rs := [9]) (by kernel_rfl) (by simp) ?_
  refine AllReadyH.cons rfl (fun K hK => ?_) AllReadyH.nil
  go_simp
  (go_at_call 44; refine (nAdd O _ _ _ _ _ (hX3.small.ext (by (repeat (first | with_reducible exact Ext.refl _ | with_reducible assumption | refine Ext.trans ?_ (by with_reducible assumption) | refine Ext.alloc ?_ _ _ | refine Ext.drew ?_ | refine Ext.drewN ?_ _)))) (hX3.fc.pc.ext (by (repeat (first | with_reducible exact Ext.refl _ | with_reducible assumption | refine Ext.trans ?_ (by with_reducible assumption) | refine Ext.alloc ?_ _ _ | refine Ext.drew ?_ | refine Ext.drewN ?_ _)))) (hr1.ext (by (repeat (first | with_reducible exact Ext.refl _ | with_reducible assumption | refine Ext.trans ?_ (by with_reducible assumption) | refine Ext.alloc ?_ _ _ | refine Ext.drew ?_ | refine Ext.drewN ?_ _)))) hdp (Nat.le_trans (dl_u64 _ (by omega)) (by decide))).mono ?_; rintro e w5 ⟨r2, rfl, hr2, he⟩)
  refine hK.out _ _ ?_ (fun hHeld => ?_)
  · first | exact HH.out.trans hmY | exact HH.out.trans he | exact HH.out
  clear hK K HH
  have HH : Hid (Ext W0 _) := hHeld
  clear hHeld
  refine wpAnyH_take (i := 10) (v := ?_) rfl (by kernel_rfl) (by kernel_rfl) (by kernel_rfl) (fun _ _ _ h => h) (Or.inl ⟨by rfl, ?_⟩) HH.out ?_
  rotate_left
  · intro w hSw; go_simp; try with_reducible rfl
  change wpAnyH _ _ _ _ _ _ _ (Act.put _ (some 11) _) _
  simp only [Act.put, List.setIfInBounds_toArray, List.set_cons_zero, List.set_cons_succ]
  refine wpAnyH_done (by kernel_rfl) ?_ _
  have X4 := hX3.ext (hW0.trans HH.out)
  have hr3 := hr2
  have HN4 := fun W' (hW : Ext _ W') => HN W' ((hW0.trans HH.out).trans hW)
  have E4 := E3.trans (hW0.trans HH.out)
  have EE4 := hW0.trans HH.out
  clear HH hW0 HN hr1 hX3
  have i1 : (f.stack.length : Int) - (T : Int) = ((f.stack.length - T : Nat) : Int) := by omega
  have i3 : ((f.stack.length - T : Nat) : Int) ≤ 64 := by omega
  have i4 : ((f.stack.length - T : Nat) : Int) ≤ cs := by omega
  obtain ⟨m, hm⟩ : ∃ m, Hid (f.stack.length - T = m) := ⟨_, rfl⟩
  have hm2 : m ≤ f.stack.length := by have := hm.out; omega
  rw [hm.out] at i1 i3 i4
  have iwm : IntKind.i64.wrap ((f.stack.length : Int) - (T : Int)) = (m : Int) := by rw [i1, IntKind.wrap_i64]; omega
  have iwm2 : IntKind.i64.wrap (m : Int) = (m : Int) := by rw [IntKind.wrap_i64]; omega
  have i5 : ¬ ((m : Int) < 0) := by omega
  have i7 : (0 : Int) ≤ (m : Int) := by omega
  have i6 : m ≤ cs := by omega
  go_upto_region 8 with (fail)
  refine w_ext ?_
  rintro W0 hW0
  refine wp_region_held_drew (S := fun w' => Ext W0 w') (by kernel_rfl) (Ext.refl _).drew (fun hHeld => ?_)
  have HH : Hid (Ext W0 _) := hHeld
  clear hHeld
  refine wpAnyH_take (i := 0) (v := ?_) rfl (by kernel_rfl) (by kernel_rfl) (by kernel_rfl) (fun _ _ _ h => h) (Or.inl ⟨by rfl, ?_⟩) HH.out ?_
  rotate_left
  · intro w hSw; go_simp; try with_reducible rfl
  change wpAnyH _ _ _ _ _ _ _ (Act.put _ (some 44) _) _
  simp only [Act.put, List.setIfInBounds_toArray, List.set_cons_zero, List.set_cons_succ]
  refine wpAnyH_take (i := 1) (v := ?_) rfl (by kernel_rfl) (by kernel_rfl) (by kernel_rfl) (fun _ _ _ h => h) (Or.inl ⟨by rfl, ?_⟩) HH.out ?_
  rotate_left
  · intro w hSw; go_simp; try with_reducible rfl
  change wpAnyH _ _ _ _ _ _ _ (Act.put _ (some 45) _) _
  simp only [Act.put, List.setIfInBounds_toArray, List.set_cons_zero, List.set_cons_succ]
  refine wpAnyH_take (i := 2) (v := ?_) rfl (by kernel_rfl) (by kernel_rfl) (by kernel_rfl) (fun _ _ _ h => h) (Or.inl ⟨by rfl, ?_⟩) HH.out ?_
  rotate_left
  · intro w hSw; go_simp; try with_reducible rfl
  change wpAnyH _ _ _ _ _ _ _ (Act.put _ (some 46) _) _
  simp only [Act.put, List.setIfInBounds_toArray, List.set_cons_zero, List.set_cons_succ]
  refine wpAnyH_take (i := 3) rfl (by kernel_rfl) (by kernel_rfl) (by kernel_rfl) (fun _ _ _ h => h) (yieldsIf_load1 (by rfl) _ _ rfl _ _ rfl oneN _ (fun w hSw => by rw [(X4.bF.ext (hW0.trans hSw)).cell (by omega), hsd])) HH.out ?_
  change wpAnyH _ _ _ _ _ _ _ (Act.put _ (some 47) _) _
  simp only [Act.put, List.setIfInBounds_toArray, List.set_cons_zero, List.set_cons_succ]
  refine wpAnyH_take (i := 4) (v := ?_) rfl (by kernel_rfl) (by kernel_rfl) (by kernel_rfl) (fun _ _ _ h => h) (Or.inl ⟨by rfl, ?_⟩) HH.out ?_
  rotate_left
  · intro w hSw; go_simp; try with_reducible rfl
  change wpAnyH _ _ _ _ _ _ _ (Act.put _ (some 48) _) _
  simp only [Act.put, List.setIfInBounds_toArray, List.set_cons_zero, List.set_cons_succ]
  refine wpAnyH_take (i := 5) (v := ?_) rfl (by kernel_rfl) (by kernel_rfl) (by kernel_rfl) (fun _ _ _ h => h) (Or.inl ⟨by rfl, ?_⟩) HH.out ?_
  rotate_left
  · intro w hSw; go_simp; try with_reducible rfl
  change wpAnyH _ _ _ _ _ _ _ (Act.put _ (some 49) _) _
  simp only [Act.put, List.setIfInBounds_toArray, List.set_cons_zero, List.set_cons_succ]
  refine wpAnyH_take (i := 6) (v := ?_) rfl (by kernel_rfl) (by kernel_rfl) (by kernel_rfl) (fun _ _ _ h => h) (Or.inl ⟨by rfl, ?_⟩) HH.out ?_
  rotate_left
  · intro w hSw; go_simp; try with_reducible rfl
  change wpAnyH _ _ _ _ _ _ _ (Act.put _ (some 50) _) _
  simp only [Act.put, List.setIfInBounds_toArray, List.set_cons_zero, List.set_cons_succ]
  refine wpAnyH_take (i := 7) rfl (by kernel_rfl) (by kernel_rfl) (by kernel_rfl) (fun _ _ _ h => h) (yieldsIf_load1 (by rfl) _ _ rfl _ _ rfl oneN _ (fun w hSw => by rw [(X4.bF.ext (hW0.trans hSw)).cell (by omega), hsd])) HH.out ?_
  change wpAnyH _ _ _ _ _ _ _ (Act.put _ (some 51) _) _
  simp only [Act.put, List.setIfInBounds_toArray, List.set_cons_zero, List.set_cons_succ]
  refine wpAnyH_take (i := 8) (v := ?_) rfl (by kernel_rfl) (by kernel_rfl) (by kernel_rfl) (fun _ _ _ h => h) (Or.inl ⟨by rfl, ?_⟩) HH.out ?_
  rotate_left
  · intro w hSw; go_simp; try with_reducible rfl
  change wpAnyH _ _ _ _ _ _ _ (Act.put _ (some 52) _) _
  simp only [Act.put, List.setIfInBounds_toArray, List.set_cons_zero, List.set_cons_succ]
  refine wpAnyH_take (i := 9) (v := ?_) rfl (by kernel_rfl) (by kernel_rfl) (by kernel_rfl) (fun _ _ _ h => h) (Or.inl ⟨by rfl, ?_⟩) HH.out ?_
  rotate_left
  · intro w hSw; go_simp; try with_reducible rfl
  change wpAnyH _ _ _ _ _ _ _ (Act.put _ (some 53) _) _
  simp only [Act.put, List.setIfInBounds_toArray, List.set_cons_zero, List.set_cons_succ]
  refine wpAnyH_take (i := 10) (v := ?_) rfl (by kernel_rfl) (by kernel_rfl) (by kernel_rfl) (fun _ _ _ h => h) (Or.inl ⟨by rfl, ?_⟩) HH.out ?_
  rotate_left
  · intro w hSw; go_simp; try with_reducible rfl
  change wpAnyH _ _ _ _ _ _ _ (Act.put _ (some 54) _) _
  simp only [Act.put, List.setIfInBounds_toArray, List.set_cons_zero, List.set_cons_succ]
  refine wpAnyH_take (i := 11) (v := ?_) rfl (by kernel_rfl) (by kernel_rfl) (by kernel_rfl) (fun _ _ _ h => h) (Or.inl ⟨by rfl, ?_⟩) HH.out ?_
  rotate_left
  · intro w hSw; go_simp; try with_reducible rfl
  change wpAnyH _ _ _ _ _ _ _ (Act.put _ (some 55) _) _
  simp only [Act.put, List.setIfInBounds_toArray, List.set_cons_zero, List.set_cons_succ]
  refine wpAnyH_take (i := 12) (v := ?_) rfl (by kernel_rfl) (by kernel_rfl) (by kernel_rfl) (fun _ _ _ h => h) (Or.inl ⟨by rfl, ?_⟩) HH.out ?_
  rotate_left
  · intro w hSw; go_simp; try with_reducible rfl
  change wpAnyH _ _ _ _ _ _ _ (Act.put _ (some 56) _) _
  simp only [Act.put, List.setIfInBounds_toArray, List.set_cons_zero, List.set_cons_succ]
  refine wpAnyH_take (i := 13) (v := ?_) rfl (by kernel_rfl) (by kernel_rfl) (by kernel_rfl) (fun _ _ _ h => h) (Or.inl ⟨by rfl, ?_⟩) HH.out ?_
  rotate_left
  · intro w hSw; go_simp; try with_reducible rfl
  change wpAnyH _ _ _ _ _ _ _ (Act.put _ (some 57) _) _
  simp only [Act.put, List.setIfInBounds_toArray, List.set_cons_zero, List.set_cons_succ]
  refine wpAnyH_take (i := 14) rfl (by kernel_rfl) (by kernel_rfl) (by kernel_rfl) (fun _ _ _ h => h) (yieldsIf_load1 (by rfl) _ _ rfl _ _ rfl oneN _ (fun w hSw => by rw [(X4.bF.ext (hW0.trans hSw)).cell (by omega), hsd])) HH.out ?_
  change wpAnyH _ _ _ _ _ _ _ (Act.put _ (some 58) _) _
  simp only [Act.put, List.setIfInBounds_toArray, List.set_cons_zero, List.set_cons_succ]
  refine wpAnyH_take (i := 15) (v := ?_) rfl (by kernel_rfl) (by kernel_rfl) (by kernel_rfl) (fun _ _ _ h => h) (Or.inl ⟨by rfl, ?_⟩) HH.out ?_
  rotate_left
  · intro w hSw; go_simp; try with_reducible rfl
  change wpAnyH _ _ _ _ _ _ _ (Act.put _ (some 59) _) _
  simp only [Act.put, List.setIfInBounds_toArray, List.set_cons_zero, List.set_cons_succ]
  refine wpAnyH_take (i := 16) (v := ?_) rfl (by kernel_rfl) (by kernel_rfl) (by kernel_rfl) (fun _ _ _ h => h) (Or.inl ⟨by rfl, ?_⟩) HH.out ?_
  rotate_left
  · intro w hSw; go_simp; try with_reducible rfl
  change wpAnyH _ _ _ _ _ _ _ (Act.put _ (some 60) _) _
  simp only [Act.put, List.setIfInBounds_toArray, List.set_cons_zero, List.set_cons_succ]
  refine wpAnyH_take (i := 17) (v := ?_) rfl (by kernel_rfl) (by kernel_rfl) (by kernel_rfl) (fun _ _ _ h => h) (Or.inl ⟨by rfl, ?_⟩) HH.out ?_
  rotate_left
  · intro w hSw; go_simp; try with_reducible rfl
  change wpAnyH _ _ _ _ _ _ _ (Act.put _ (some 61) _) _
  simp only [Act.put, List.setIfInBounds_toArray, List.set_cons_zero, List.set_cons_succ]
  refine wpAnyH_take (i := 18) (v := ?_) rfl (by kernel_rfl) (by kernel_rfl) (by kernel_rfl) (fun _ _ _ h => h) (Or.inl ⟨by rfl, ?_⟩) HH.out ?_
  rotate_left
  · intro w hSw; go_simp; try with_reducible rfl
  change wpAnyH _ _ _ _ _ _ _ (Act.put _ (some 62) _) _
  simp only [Act.put, List.setIfInBounds_toArray, List.set_cons_zero, List.set_cons_succ]
  refine wpAnyH_take (i := 19) (v := ?_) rfl (by kernel_rfl) (by kernel_rfl) (by kernel_rfl) (fun _ _ _ h => h) (Or.inl ⟨by rfl, ?_⟩) HH.out ?_
  rotate_left
  · intro w hSw; go_simp; try with_reducible rfl
  change wpAnyH _ _ _ _ _ _ _ (Act.put _ (some 12) _) _
  simp only [Act.put, List.setIfInBounds_toArray, List.set_cons_zero, List.set_cons_succ]
  refine wpAnyH_done (by kernel_rfl) ?_ _
  have X5 := X4.ext (hW0.trans HH.out)
  have hr5 := hr3.ext (hW0.trans HH.out)
  have HN5 := fun W' (hW : Ext _ W') => HN4 W' ((hW0.trans HH.out).trans hW)
  have E5 := E4.trans (hW0.trans HH.out)
  have EE5 := EE4.trans (hW0.trans HH.out)
  clear HH hW0 HN4 hr3 hr2 X4 E4 E3 e1 EE4
  have HT : Hid (f.stack.reverse.take m = (f.stack.drop T).reverse) := by
    rw [← hm.out]
    simp [List.take_reverse, show f.stack.length - (f.stack.length - T) = T by omega]
    try exact trivial
  go_upto_region 9 with (fail)
  go_upto_region 25 with (go_at_call 162; refine (HV _ _ E5 (HN5 _ (Ext.refl _))).mono ?_; rintro e w6 ⟨c6, rfl, X6, m6⟩)
  have hYT : ∀ b, ¬ O b → ¬ (b = Y ∨ TM b) := fun b hb q => q.elim (X5.hsY b hb) (fun q => hb (X5.tm b q).1)
  have hr7 := hr5.keep m6 hYT
  have hv8' : NumS O w6 (.slice os m m) (f.stack.drop T).reverse := by
    have k := X6.fc.stack
    rw [hsd, hf1] at k
    have := NumS.cut k m (by rw [List.length_reverse]; exact hm2)
    rwa [HT.out] at this
  clear HV HN5
  go_upto_region 26 with ((with_reducible (refine Veil.out ?_; apply wl_store1 oneN)); (case hx => rfl); (case hy => rfl); (case h1 => rfl); (case hB => exact X6.bF); (case ho => omega); rintro W2 hB2 hm2')
  have X8 := X6.putStack hv8' hm2' hB2 hok1
  have hr8 := hr7.keep hm2' X6.hsF
  go_wp2_with ((with_reducible (refine Veil.out ?_; apply wl_store1 onet96o)); (case hx => rfl); (case hy => rfl); (case h1 => exact hr8.one); (case hB => exact X8.bF); (case ho => omega); rintro W9 hB9 hm9)
  go_end0
  have hfin : f1.settle T [] 1 = { f1 with stack := f.stack.drop T, pc := f.pc + (1 + im) } := by unfold AFrame.settle; rw [hf1, hf2, ← him2.out, him]; rfl
  rw [hfin] at hok' ⊢
  refine ⟨rfl, c6, _, X8.putPc hr8 hm9 hB9 hok', ?_, fun i h8 h3 => by rw [updv_ne _ _ h3, updv_ne _ _ h8]⟩
  exact ((E5.mod _).trans (m6.sub (fun b hb => hb.elim Or.inl (fun q => Or.inr (Or.inr q))))).trans ((hm2'.trans hm9).sub (fun b hb => Or.inr (Or.inl hb)))
set_option maxRecDepth 100000 in
set_option maxHeartbeats 6400000 in
theorem xPlainJ86 (hX : YX kk O TM TL w Y F q n tF c d W start st f) (hT : takesA 86 ≤ f.stack.length) (hok1 : FOK { f with stack := f.stack.drop (takesA 86) }) (hok' : FOK { f with stack := f.stack.drop (takesA 86), pc := f.arg 0 }) : Calls Hvah.prog 76 #[.pointer (some ⟨Y, 0, none⟩), .pointer (some ⟨F, q, none⟩), .int .u8 86] w fun e w' => e = .returned (.tuple #[]) ∧ ∃ d', YX kk O TM TL w' Y F q n tF c d' W start st { f with stack := f.stack.drop (takesA 86), pc := f.arg 0 } ∧ Mod (· = F) w w' ∧ (∀ i, i ≠ q + 8 → i ≠ q + 3 → d' i = d i) := by
  have hO := hX.small
  have hq := hX.hq
  have hYl := hX.bY.lt
  have hsl := hX.ok.sLen
  have hsli : (f.stack.length : Int) ≤ 64 := by omega
  have hdp : dl f.pc ≤ 2000 := Nat.le_trans (dl_u64 _ (by have := hX.ok.pc; omega)) (by decide)
  obtain ⟨os, cs, hsd, hs1⟩ := NumS.slice hX.fc.stack
  rw [List.length_reverse] at hsd
  have hsc : f.stack.length ≤ cs := by
    obtain ⟨o2, cap2, h1, h2, _⟩ := hX.fc.stack
    rw [hsd] at h1
    injection h1 with _ _ h1
    rw [h1]; simpa using h2
  have hIm : immA 86 ≤ 32 := by unfold immA; split <;> omega
  have HAr := yArity 86 (by decide)
  have HIm := fun W1 => oImm 86 W1 (by decide)
  obtain ⟨im, him2⟩ : ∃ x, Hid (immA 86 = x) := ⟨_, rfl⟩
  obtain ⟨T, hTT⟩ : ∃ x, Hid (takesA 86 = x) := ⟨_, rfl⟩
  have HTT : Hid (T = T) := rfl
  rw [him2.out] at HIm hIm
  rw [hTT.out] at hT HAr  hok1 hok' ⊢
  rw [show givesA 86 = 0 from rfl] at HAr
  obtain ⟨args, hargs⟩ : ∃ x, Hid ((List.range T).map f.arg = x) := ⟨_, rfl⟩
  have hal : args.length = T := by rw [← hargs.out]; simp
  have hT64 : T ≤ 64 := Nat.le_trans hT hsl
  clear hs1
  go_enter Hvah.func76, Hvah.ntmps76
  go_upto_region 1 with (go_at_call 146; refine (HAr _).mono ?_; rintro e w1 ⟨rfl, hww⟩; replace hww := hww.symm; subst hww)
  go_upto_region 2 with ((with_reducible (refine Veil.out ?_; apply wl_makeR under145 el96 T)); (case hl => rfl); (case hc => rfl); (case hn => omega); rintro B W1 e1 b1 g1)
  rw [Nat.mul_one] at b1
  have hBY : ¬ B = Y := by omega
  have hLE : ∀ W', Mod (· = B) W1 W' → Ext w W' := fun W' hm => Ext.trans_mod e1 hm (fun q hq => by have hq2 : q = B := hq; rw [hq2]; exact g1)
  have hXw : ∀ W', Mod (· = B) W1 W' → YX kk (Wd O B) TM TL W' Y F q n tF c d W start st f := fun W' hm => hX.widen0 g1 (hLE W' hm) (Nat.lt_of_lt_of_le b1.lt hm.size)
  go_upto_block 0 with (fail)
  go_cut [] (fun wx => ∃ cA, Blk wx B T 109 cA ∧ Hid (∀ j, j < T → NV (Wd O B) wx (cA j) (f.arg j)) ∧ Mod (· = B) W1 wx)
  case first =>
    go_upto_region 3 with (fail)
    try simp only [Act.put]
    go_loopw [24] (fun iv wr => ∃ (i : Nat) (cA : Nat → Value), iv = .int .i64 (i : Nat) ∧ i ≤ T ∧ Blk wr B T 109 cA ∧ Hid (∀ j, j < i → NV (Wd O B) wr (cA j) (f.arg j)) ∧ Mod (· = B) W1 wr) (fun iv _ => T - (intOf iv).toNat)
    case atStart => exact ⟨0, _, rfl, Nat.zero_le _, b1, (fun j hj => absurd hj (Nat.not_lt_zero _) : ∀ j, j < 0 → _), Mod.refl _ _⟩
    case round =>
      obtain ⟨i, cA, rfl, hi, bA, hdone, hm⟩ := hrel
      rcases Nat.lt_or_ge i T with hlt | hge
      · have z1 : (i : Int) < (T : Int) := by omega
        have z2 : IntKind.i64.wrap ((i : Int) + 1) = ((i + 1 : Nat) : Int) := by rw [IntKind.wrap_i64]; omega
        have HXA := fun W' (hW : Ext wr W') => xArg (((hXw _ hm)).ext hW) i (by omega)
        go_upto_region 6 with (first | (go_at_call 73; refine (HXA _ (by (repeat (first | with_reducible exact Ext.refl _ | with_reducible assumption | refine Ext.trans ?_ (by with_reducible assumption) | refine Ext.alloc ?_ _ _ | refine Ext.drew ?_ | refine Ext.drewN ?_ _)))).mono ?_; rintro e w2 ⟨r2, rfl, hr2, he2⟩) | ((with_reducible (refine Veil.out ?_; apply wl_storeC onet96o)); (case hx => rfl); (case hy => rfl); (case h1 => exact hr2.one); (case hB => exact bA.ext he2); (case hi => exact hlt); rintro W5 b5 m5))
        go_wp2
        go_roundw
        case rel =>
          refine ⟨i + 1, _, rfl, hlt, b5, (fun j hj => ?_ : ∀ j, j < i + 1 → NV (Wd O B) W5 (updv cA i r2 j) (f.arg j)), (hm.trans (he2.mod _)).trans m5⟩
          by_cases e : j = i
          · subst e; rw [updv_same]; exact hr2.keep m5 (fun b hb q => hb (Or.inr q))
          · rw [updv_ne _ _ e]; exact (((hdone.out j (by omega)).ext he2)).keep m5 (fun b hb q => hb (Or.inr q))
        case measure => simp [intOf]; omega
      · have z1 : ¬ (i : Int) < (T : Int) := by omega
        have : i = T := by omega
        subst this
        go_wp2
        go_meet
        case rel => exact ⟨cA, bA, hdone, hm⟩
  case rest =>
  obtain ⟨cA, bA, hdone, hm⟩ := hcut
  obtain ⟨W3, eW3⟩ : ∃ X, X = wc := ⟨_, rfl⟩
  subst eW3
  have E3 := hLE _ hm
  have HN : ∀ W', Ext W3 W' → NumL O W' (.slice (some ⟨B, 0, none⟩) T T) args := fun W' hW => Or.inr ⟨B, T, cA, by rw [hal], by rw [hal]; exact Nat.le_refl _, by omega, by rw [Nat.mul_one]; exact bA.ext hW, fun hb => by have := hO B hb; omega, fun i hi => by
    have hi2 : i < T := by rw [← hal]; exact hi
    have e : args[i] = f.arg i := by
      have : ((List.range T).map f.arg)[i]'(by simpa using hi2) = f.arg i := by simp
      rw [← this]; congr 1; exact hargs.out.symm
    rw [Nat.mul_one, e]
    exact ((hdone.out i hi2).narrow).ext hW⟩
  have hX3 := hX.ext E3
  have HAg : ∀ j, j < T → ∃ v, Hid (cA j = v) ∧ NV O W3 v (f.arg j) := fun j hj => ⟨_, rfl, (hdone.out j hj).narrow⟩
  clear hdone hargs hXw hLE hm b1 g1 HAr
  have iw : IntKind.u64.wrap (1 + (im : Int)) = ((1 + im : Nat) : Int) := by rw [IntKind.wrap_u64]; omega
  have iw2 : IntKind.u64.wrap (im : Int) = (im : Int) := by rw [IntKind.wrap_u64]; omega
  go_upto_region 7 with (fail)
  refine w_ext ?_
  rintro W0 hW0
  refine wp_region_held_drew (S := fun w' => Ext W0 w') (by kernel_rfl) (Ext.refl _).drew (fun hHeld => ?_)
  have HH : Hid (Ext W0 _) := hHeld
  clear hHeld
  refine wpAnyH_take (i := 0) (v := ?_) rfl (by kernel_rfl) (by kernel_rfl) (by kernel_rfl) (fun _ _ _ h => h) (Or.inl ⟨by rfl, ?_⟩) HH.out ?_
  rotate_left
  · intro w hSw; go_simp; try with_reducible rfl
  change wpAnyH _ _ _ _ _ _ _ (Act.put _ (some 34) _) _
  simp only [Act.put, List.setIfInBounds_toArray, List.set_cons_zero, List.set_cons_succ]
  refine wpAnyH_take (i := 1) (v := ?_) rfl (by kernel_rfl) (by kernel_rfl) (by kernel_rfl) (fun _ _ _ h => h) (Or.inl ⟨by rfl, ?_⟩) HH.out ?_
  rotate_left
  · intro w hSw; go_simp; try with_reducible rfl
  change wpAnyH _ _ _ _ _ _ _ (Act.put _ (some 35) _) _
  simp only [Act.put, List.setIfInBounds_toArray, List.set_cons_zero, List.set_cons_succ]
  refine wpAnyH_take (i := 2) (v := ?_) rfl (by kernel_rfl) (by kernel_rfl) (by kernel_rfl) (fun _ _ _ h => h) (Or.inl ⟨by rfl, ?_⟩) HH.out ?_
  rotate_left
  · intro w hSw; go_simp; try with_reducible rfl
  change wpAnyH _ _ _ _ _ _ _ (Act.put _ (some 36) _) _
  simp only [Act.put, List.setIfInBounds_toArray, List.set_cons_zero, List.set_cons_succ]
  refine wpAnyH_take (i := 3) rfl (by kernel_rfl) (by kernel_rfl) (by kernel_rfl) (fun _ _ _ h => h) (yieldsIf_load1 (by rfl) _ _ rfl _ _ rfl onet96o _ (fun w hSw => (hX3.bF.ext (hW0.trans hSw)).cell (by omega))) HH.out ?_
  change wpAnyH _ _ _ _ _ _ _ (Act.put _ (some 37) _) _
  simp only [Act.put, List.setIfInBounds_toArray, List.set_cons_zero, List.set_cons_succ]
  refine wpAnyH_take (i := 4) (v := ?_) rfl (by kernel_rfl) (by kernel_rfl) (by kernel_rfl) (fun _ _ _ h => h) (Or.inl ⟨by rfl, ?_⟩) HH.out ?_
  rotate_left
  · intro w hSw; go_simp; try with_reducible rfl
  change wpAnyH _ _ _ _ _ _ _ (Act.put _ (some 38) _) _
  simp only [Act.put, List.setIfInBounds_toArray, List.set_cons_zero, List.set_cons_succ]
  refine wpAnyH_ready (rs := [5]) (by kernel_rfl) (by simp) ?_
  refine AllReadyH.cons rfl (fun K hK => ?_) AllReadyH.nil
  go_simp
  (go_at_call 160; refine (HIm _).mono ?_; rintro e w1 ⟨rfl, hww⟩; replace hww := hww.symm; subst hww)
  refine hK.out _ _ ?_ (fun hHeld => ?_)
  · first | exact HH.out.trans hmY | exact HH.out.trans he | exact HH.out
  clear hK K HH
  have HH : Hid (Ext W0 _) := hHeld
  clear hHeld
  refine wpAnyH_take (i := 6) (v := ?_) rfl (by kernel_rfl) (by kernel_rfl) (by kernel_rfl) (fun _ _ _ h => h) (Or.inl ⟨by rfl, ?_⟩) HH.out ?_
  rotate_left
  · intro w hSw; go_simp; try with_reducible rfl
  change wpAnyH _ _ _ _ _ _ _ (Act.put _ (some 40) _) _
  simp only [Act.put, List.setIfInBounds_toArray, List.set_cons_zero, List.set_cons_succ]
  refine wpAnyH_take (i := 7) (v := ?_) rfl (by kernel_rfl) (by kernel_rfl) (by kernel_rfl) (fun _ _ _ h => h) (Or.inl ⟨by rfl, ?_⟩) HH.out ?_
  rotate_left
  · intro w hSw; go_simp; try with_reducible rfl
  change wpAnyH _ _ _ _ _ _ _ (Act.put _ (some 41) _) _
  simp only [Act.put, List.setIfInBounds_toArray, List.set_cons_zero, List.set_cons_succ]
  refine wpAnyH_ready (rs := [8]) (by kernel_rfl) (by simp) ?_
  refine AllReadyH.cons rfl (fun K hK => ?_) AllReadyH.nil
  go_simp
  (go_at_call 42; refine (nNum O (1 + im) _ (hX3.small.ext (by (repeat (first | with_reducible exact Ext.refl _ | with_reducible assumption | refine Ext.trans ?_ (by with_reducible assumption) | refine Ext.alloc ?_ _ _ | refine Ext.drew ?_ | refine Ext.drewN ?_ _)))) (by omega)).mono ?_; rintro e w4 ⟨r1, rfl, hr1, he⟩)
  refine hK.out _ _ ?_ (fun hHeld => ?_)
  · first | exact HH.out.trans hmY | exact HH.out.trans he | exact HH.out
  clear hK K HH
  have HH : Hid (Ext W0 _) := hHeld
  clear hHeld
  refine wpAnyH_ready (rs := [9]) (by kernel_rfl) (by simp) ?_
  refine AllReadyH.cons rfl (fun K hK => ?_) AllReadyH.nil
  go_simp
  (go_at_call 44; refine (nAdd O _ _ _ _ _ (hX3.small.ext (by (repeat (first | with_reducible exact Ext.refl _ | with_reducible assumption | refine Ext.trans ?_ (by with_reducible assumption) | refine Ext.alloc ?_ _ _ | refine Ext.drew ?_ | refine Ext.drewN ?_ _)))) (hX3.fc.pc.ext (by (repeat (first | with_reducible exact Ext.refl _ | with_reducible assumption | refine Ext.trans ?_ (by with_reducible assumption) | refine Ext.alloc ?_ _ _ | refine Ext.drew ?_ | refine Ext.drewN ?_ _)))) (hr1.ext (by (repeat (first | with_reducible exact Ext.refl _ | with_reducible assumption | refine Ext.trans ?_ (by with_reducible assumption) | refine Ext.alloc ?_ _ _ | refine Ext.drew ?_ | refine Ext.drewN ?_ _)))) hdp (Nat.le_trans (dl_u64 _ (by omega)) (by decide))).mono ?_; rintro e w5 ⟨r2, rfl, hr2, he⟩)
  refine hK.out _ _ ?_ (fun hHeld => ?_)
  · first | exact HH.out.trans hmY | exact HH.out.trans he | exact HH.out
  clear hK K HH
  have HH : Hid (Ext W0 _) := hHeld
  clear hHeld
  refine wpAnyH_take (i := 10) (v := ?_) rfl (by kernel_rfl) (by kernel_rfl) (by kernel_rfl) (fun _ _ _ h => h) (Or.inl ⟨by rfl, ?_⟩) HH.out ?_
  rotate_left
  · intro w hSw; go_simp; try with_reducible rfl
  change wpAnyH _ _ _ _ _ _ _ (Act.put _ (some 11) _) _
  simp only [Act.put, List.setIfInBounds_toArray, List.set_cons_zero, List.set_cons_succ]
  refine wpAnyH_done (by kernel_rfl) ?_ _
  have X4 := hX3.ext (hW0.trans HH.out)
  have hr3 := hr2
  have HN4 := fun W' (hW : Ext _ W') => HN W' ((hW0.trans HH.out).trans hW)
  have E4 := E3.trans (hW0.trans HH.out)
  have EE4 := hW0.trans HH.out
  clear HH hW0 HN hr1 hX3
  have i1 : (f.stack.length : Int) - (T : Int) = ((f.stack.length - T : Nat) : Int) := by omega
  have i3 : ((f.stack.length - T : Nat) : Int) ≤ 64 := by omega
  have i4 : ((f.stack.length - T : Nat) : Int) ≤ cs := by omega
  obtain ⟨m, hm⟩ : ∃ m, Hid (f.stack.length - T = m) := ⟨_, rfl⟩
  have hm2 : m ≤ f.stack.length := by have := hm.out; omega
  rw [hm.out] at i1 i3 i4
  have iwm : IntKind.i64.wrap ((f.stack.length : Int) - (T : Int)) = (m : Int) := by rw [i1, IntKind.wrap_i64]; omega
  have iwm2 : IntKind.i64.wrap (m : Int) = (m : Int) := by rw [IntKind.wrap_i64]; omega
  have i5 : ¬ ((m : Int) < 0) := by omega
  have i7 : (0 : Int) ≤ (m : Int) := by omega
  have i6 : m ≤ cs := by omega
  go_upto_region 8 with (fail)
  refine w_ext ?_
  rintro W0 hW0
  refine wp_region_held_drew (S := fun w' => Ext W0 w') (by kernel_rfl) (Ext.refl _).drew (fun hHeld => ?_)
  have HH : Hid (Ext W0 _) := hHeld
  clear hHeld
  refine wpAnyH_take (i := 0) (v := ?_) rfl (by kernel_rfl) (by kernel_rfl) (by kernel_rfl) (fun _ _ _ h => h) (Or.inl ⟨by rfl, ?_⟩) HH.out ?_
  rotate_left
  · intro w hSw; go_simp; try with_reducible rfl
  change wpAnyH _ _ _ _ _ _ _ (Act.put _ (some 44) _) _
  simp only [Act.put, List.setIfInBounds_toArray, List.set_cons_zero, List.set_cons_succ]
  refine wpAnyH_take (i := 1) (v := ?_) rfl (by kernel_rfl) (by kernel_rfl) (by kernel_rfl) (fun _ _ _ h => h) (Or.inl ⟨by rfl, ?_⟩) HH.out ?_
  rotate_left
  · intro w hSw; go_simp; try with_reducible rfl
  change wpAnyH _ _ _ _ _ _ _ (Act.put _ (some 45) _) _
  simp only [Act.put, List.setIfInBounds_toArray, List.set_cons_zero, List.set_cons_succ]
  refine wpAnyH_take (i := 2) (v := ?_) rfl (by kernel_rfl) (by kernel_rfl) (by kernel_rfl) (fun _ _ _ h => h) (Or.inl ⟨by rfl, ?_⟩) HH.out ?_
  rotate_left
  · intro w hSw; go_simp; try with_reducible rfl
  change wpAnyH _ _ _ _ _ _ _ (Act.put _ (some 46) _) _
  simp only [Act.put, List.setIfInBounds_toArray, List.set_cons_zero, List.set_cons_succ]
  refine wpAnyH_take (i := 3) rfl (by kernel_rfl) (by kernel_rfl) (by kernel_rfl) (fun _ _ _ h => h) (yieldsIf_load1 (by rfl) _ _ rfl _ _ rfl oneN _ (fun w hSw => by rw [(X4.bF.ext (hW0.trans hSw)).cell (by omega), hsd])) HH.out ?_
  change wpAnyH _ _ _ _ _ _ _ (Act.put _ (some 47) _) _
  simp only [Act.put, List.setIfInBounds_toArray, List.set_cons_zero, List.set_cons_succ]
  refine wpAnyH_take (i := 4) (v := ?_) rfl (by kernel_rfl) (by kernel_rfl) (by kernel_rfl) (fun _ _ _ h => h) (Or.inl ⟨by rfl, ?_⟩) HH.out ?_
  rotate_left
  · intro w hSw; go_simp; try with_reducible rfl
  change wpAnyH _ _ _ _ _ _ _ (Act.put _ (some 48) _) _
  simp only [Act.put, List.setIfInBounds_toArray, List.set_cons_zero, List.set_cons_succ]
  refine wpAnyH_take (i := 5) (v := ?_) rfl (by kernel_rfl) (by kernel_rfl) (by kernel_rfl) (fun _ _ _ h => h) (Or.inl ⟨by rfl, ?_⟩) HH.out ?_
  rotate_left
  · intro w hSw; go_simp; try with_reducible rfl
  change wpAnyH _ _ _ _ _ _ _ (Act.put _ (some 49) _) _
  simp only [Act.put, List.setIfInBounds_toArray, List.set_cons_zero, List.set_cons_succ]
  refine wpAnyH_take (i := 6) (v := ?_) rfl (by kernel_rfl) (by kernel_rfl) (by kernel_rfl) (fun _ _ _ h => h) (Or.inl ⟨by rfl, ?_⟩) HH.out ?_
  rotate_left
  · intro w hSw; go_simp; try with_reducible rfl
  change wpAnyH _ _ _ _ _ _ _ (Act.put _ (some 50) _) _
  simp only [Act.put, List.setIfInBounds_toArray, List.set_cons_zero, List.set_cons_succ]
  refine wpAnyH_take (i := 7) rfl (by kernel_rfl) (by kernel_rfl) (by kernel_rfl) (fun _ _ _ h => h) (yieldsIf_load1 (by rfl) _ _ rfl _ _ rfl oneN _ (fun w hSw => by rw [(X4.bF.ext (hW0.trans hSw)).cell (by omega), hsd])) HH.out ?_
  change wpAnyH _ _ _ _ _ _ _ (Act.put _ (some 51) _) _
  simp only [Act.put, List.setIfInBounds_toArray, List.set_cons_zero, List.set_cons_succ]
  refine wpAnyH_take (i := 8) (v := ?_) rfl (by kernel_rfl) (by kernel_rfl) (by kernel_rfl) (fun _ _ _ h => h) (Or.inl ⟨by rfl, ?_⟩) HH.out ?_
  rotate_left
  · intro w hSw; go_simp; try with_reducible rfl
  change wpAnyH _ _ _ _ _ _ _ (Act.put _ (some 52) _) _
  simp only [Act.put, List.setIfInBounds_toArray, List.set_cons_zero, List.set_cons_succ]
  refine wpAnyH_take (i := 9) (v := ?_) rfl (by kernel_rfl) (by kernel_rfl) (by kernel_rfl) (fun _ _ _ h => h) (Or.inl ⟨by rfl, ?_⟩) HH.out ?_
  rotate_left
  · intro w hSw; go_simp; try with_reducible rfl
  change wpAnyH _ _ _ _ _ _ _ (Act.put _ (some 53) _) _
  simp only [Act.put, List.setIfInBounds_toArray, List.set_cons_zero, List.set_cons_succ]
  refine wpAnyH_take (i := 10) (v := ?_) rfl (by kernel_rfl) (by kernel_rfl) (by kernel_rfl) (fun _ _ _ h => h) (Or.inl ⟨by rfl, ?_⟩) HH.out ?_
  rotate_left
  · intro w hSw; go_simp; try with_reducible rfl
  change wpAnyH _ _ _ _ _ _ _ (Act.put _ (some 54) _) _
  simp only [Act.put, List.setIfInBounds_toArray, List.set_cons_zero, List.set_cons_succ]
  refine wpAnyH_take (i := 11) (v := ?_) rfl (by kernel_rfl) (by kernel_rfl) (by kernel_rfl) (fun _ _ _ h => h) (Or.inl ⟨by rfl, ?_⟩) HH.out ?_
  rotate_left
  · intro w hSw; go_simp; try with_reducible rfl
  change wpAnyH _ _ _ _ _ _ _ (Act.put _ (some 55) _) _
  simp only [Act.put, List.setIfInBounds_toArray, List.set_cons_zero, List.set_cons_succ]
  refine wpAnyH_take (i := 12) (v := ?_) rfl (by kernel_rfl) (by kernel_rfl) (by kernel_rfl) (fun _ _ _ h => h) (Or.inl ⟨by rfl, ?_⟩) HH.out ?_
  rotate_left
  · intro w hSw; go_simp; try with_reducible rfl
  change wpAnyH _ _ _ _ _ _ _ (Act.put _ (some 56) _) _
  simp only [Act.put, List.setIfInBounds_toArray, List.set_cons_zero, List.set_cons_succ]
  refine wpAnyH_take (i := 13) (v := ?_) rfl (by kernel_rfl) (by kernel_rfl) (by kernel_rfl) (fun _ _ _ h => h) (Or.inl ⟨by rfl, ?_⟩) HH.out ?_
  rotate_left
  · intro w hSw; go_simp; try with_reducible rfl
  change wpAnyH _ _ _ _ _ _ _ (Act.put _ (some 57) _) _
  simp only [Act.put, List.setIfInBounds_toArray, List.set_cons_zero, List.set_cons_succ]
  refine wpAnyH_take (i := 14) rfl (by kernel_rfl) (by kernel_rfl) (by kernel_rfl) (fun _ _ _ h => h) (yieldsIf_load1 (by rfl) _ _ rfl _ _ rfl oneN _ (fun w hSw => by rw [(X4.bF.ext (hW0.trans hSw)).cell (by omega), hsd])) HH.out ?_
  change wpAnyH _ _ _ _ _ _ _ (Act.put _ (some 58) _) _
  simp only [Act.put, List.setIfInBounds_toArray, List.set_cons_zero, List.set_cons_succ]
  refine wpAnyH_take (i := 15) (v := ?_) rfl (by kernel_rfl) (by kernel_rfl) (by kernel_rfl) (fun _ _ _ h => h) (Or.inl ⟨by rfl, ?_⟩) HH.out ?_
  rotate_left
  · intro w hSw; go_simp; try with_reducible rfl
  change wpAnyH _ _ _ _ _ _ _ (Act.put _ (some 59) _) _
  simp only [Act.put, List.setIfInBounds_toArray, List.set_cons_zero, List.set_cons_succ]
  refine wpAnyH_take (i := 16) (v := ?_) rfl (by kernel_rfl) (by kernel_rfl) (by kernel_rfl) (fun _ _ _ h => h) (Or.inl ⟨by rfl, ?_⟩) HH.out ?_
  rotate_left
  · intro w hSw; go_simp; try with_reducible rfl
  change wpAnyH _ _ _ _ _ _ _ (Act.put _ (some 60) _) _
  simp only [Act.put, List.setIfInBounds_toArray, List.set_cons_zero, List.set_cons_succ]
  refine wpAnyH_take (i := 17) (v := ?_) rfl (by kernel_rfl) (by kernel_rfl) (by kernel_rfl) (fun _ _ _ h => h) (Or.inl ⟨by rfl, ?_⟩) HH.out ?_
  rotate_left
  · intro w hSw; go_simp; try with_reducible rfl
  change wpAnyH _ _ _ _ _ _ _ (Act.put _ (some 61) _) _
  simp only [Act.put, List.setIfInBounds_toArray, List.set_cons_zero, List.set_cons_succ]
  refine wpAnyH_take (i := 18) (v := ?_) rfl (by kernel_rfl) (by kernel_rfl) (by kernel_rfl) (fun _ _ _ h => h) (Or.inl ⟨by rfl, ?_⟩) HH.out ?_
  rotate_left
  · intro w hSw; go_simp; try with_reducible rfl
  change wpAnyH _ _ _ _ _ _ _ (Act.put _ (some 62) _) _
  simp only [Act.put, List.setIfInBounds_toArray, List.set_cons_zero, List.set_cons_succ]
  refine wpAnyH_take (i := 19) (v := ?_) rfl (by kernel_rfl) (by kernel_rfl) (by kernel_rfl) (fun _ _ _ h => h) (Or.inl ⟨by rfl, ?_⟩) HH.out ?_
  rotate_left
  · intro w hSw; go_simp; try with_reducible rfl
  change wpAnyH _ _ _ _ _ _ _ (Act.put _ (some 12) _) _
  simp only [Act.put, List.setIfInBounds_toArray, List.set_cons_zero, List.set_cons_succ]
  refine wpAnyH_done (by kernel_rfl) ?_ _
  have X5 := X4.ext (hW0.trans HH.out)
  have hr5 := hr3.ext (hW0.trans HH.out)
  have HN5 := fun W' (hW : Ext _ W') => HN4 W' ((hW0.trans HH.out).trans hW)
  have E5 := E4.trans (hW0.trans HH.out)
  have EE5 := EE4.trans (hW0.trans HH.out)
  clear HH hW0 HN4 hr3 hr2 X4 E4 E3 e1 EE4
  have HT : Hid (f.stack.reverse.take m = (f.stack.drop T).reverse) := by
    rw [← hm.out]
    simp [List.take_reverse, show f.stack.length - (f.stack.length - T) = T by omega]
    try exact trivial
  have hTv : T = 1 := by rw [← hTT.out]; rfl
  obtain ⟨v0, hv0, hn0⟩ := HAg 0 (by omega)
  have bA0 : 0 < T := by omega
  have z0i : (0 : Int) < (T : Int) := by omega
  have z1i : T = 2 → (1 : Int) < (T : Int) := fun q => by omega
  clear HAg
  clear z1i hTv
  go_upto_region 13 with (first | fail)
  go_upto_region 25 with (first | ((with_reducible (refine Veil.out ?_; apply wl_loadC onet96o)); (case hw => rfl); (case hx => rfl); (case hc => exact ((bA.ext (by (repeat (first | with_reducible exact Ext.refl _ | with_reducible assumption | refine Ext.trans ?_ (by with_reducible assumption) | refine Ext.alloc ?_ _ _ | refine Ext.drew ?_ | refine Ext.drewN ?_ _)))).cell (by omega)).trans (congrArg some hv0.out))) | (go_at_call 132; refine (nNorm O _ _ _ (X5.small.ext (by (repeat (first | with_reducible exact Ext.refl _ | with_reducible assumption | refine Ext.trans ?_ (by with_reducible assumption) | refine Ext.alloc ?_ _ _ | refine Ext.drew ?_ | refine Ext.drewN ?_ _)))) (hn0.ext (by (repeat (first | with_reducible exact Ext.refl _ | with_reducible assumption | refine Ext.trans ?_ (by with_reducible assumption) | refine Ext.alloc ?_ _ _ | refine Ext.drew ?_ | refine Ext.drewN ?_ _))))).mono ?_; rintro e w9 ⟨r9, rfl, hr0, he9⟩; have hr9 := hr0.nv))
  have X6 := X5.ext (show Ext _ w9 by (repeat (first | with_reducible exact Ext.refl _ | with_reducible assumption | refine Ext.trans ?_ (by with_reducible assumption) | refine Ext.alloc ?_ _ _ | refine Ext.drew ?_ | refine Ext.drewN ?_ _)))
  have hr7 := hr9
  have hv8' : NumS O w9 (.slice os m m) (f.stack.drop T).reverse := by
    have k := X6.fc.stack
    rw [hsd] at k
    have := NumS.cut k m (by rw [List.length_reverse]; exact hm2)
    rwa [HT.out] at this
  have E6 := E5.trans (show Ext _ w9 by (repeat (first | with_reducible exact Ext.refl _ | with_reducible assumption | refine Ext.trans ?_ (by with_reducible assumption) | refine Ext.alloc ?_ _ _ | refine Ext.drew ?_ | refine Ext.drewN ?_ _)))
  go_upto_region 26 with ((with_reducible (refine Veil.out ?_; apply wl_store1 oneN)); (case hx => rfl); (case hy => rfl); (case h1 => rfl); (case hB => exact X6.bF); (case ho => omega); rintro W2 hB2 hm2')
  have X8 := X6.putStack hv8' hm2' hB2 hok1
  have hr8 := hr7.keep hm2' X6.hsF
  go_wp2_with ((with_reducible (refine Veil.out ?_; apply wl_store1 onet96o)); (case hx => rfl); (case hy => rfl); (case h1 => exact hr8.one); (case hB => exact X8.bF); (case ho => omega); rintro W9 hB9 hm9)
  go_end0
  refine ⟨rfl, _, X8.putPc hr8 hm9 hB9 hok', ?_, fun i h8 h3 => by rw [updv_ne _ _ h3, updv_ne _ _ h8]⟩
  exact (E6.mod _).trans (hm2'.trans hm9)
set_option maxRecDepth 100000 in
set_option maxHeartbeats 6400000 in
theorem xPlainJ87 (hX : YX kk O TM TL w Y F q n tF c d W start st f) (hT : takesA 87 ≤ f.stack.length) (harg : f.arg 1 ≠ 0) (hok1 : FOK { f with stack := f.stack.drop (takesA 87) }) (hok' : FOK { f with stack := f.stack.drop (takesA 87), pc := f.arg 0 }) : Calls Hvah.prog 76 #[.pointer (some ⟨Y, 0, none⟩), .pointer (some ⟨F, q, none⟩), .int .u8 87] w fun e w' => e = .returned (.tuple #[]) ∧ ∃ d', YX kk O TM TL w' Y F q n tF c d' W start st { f with stack := f.stack.drop (takesA 87), pc := f.arg 0 } ∧ Mod (· = F) w w' ∧ (∀ i, i ≠ q + 8 → i ≠ q + 3 → d' i = d i) := by
  have hO := hX.small
  have hq := hX.hq
  have hYl := hX.bY.lt
  have hsl := hX.ok.sLen
  have hsli : (f.stack.length : Int) ≤ 64 := by omega
  have hdp : dl f.pc ≤ 2000 := Nat.le_trans (dl_u64 _ (by have := hX.ok.pc; omega)) (by decide)
  obtain ⟨os, cs, hsd, hs1⟩ := NumS.slice hX.fc.stack
  rw [List.length_reverse] at hsd
  have hsc : f.stack.length ≤ cs := by
    obtain ⟨o2, cap2, h1, h2, _⟩ := hX.fc.stack
    rw [hsd] at h1
    injection h1 with _ _ h1
    rw [h1]; simpa using h2
  have hIm : immA 87 ≤ 32 := by unfold immA; split <;> omega
  have HAr := yArity 87 (by decide)
  have HIm := fun W1 => oImm 87 W1 (by decide)
  obtain ⟨im, him2⟩ : ∃ x, Hid (immA 87 = x) := ⟨_, rfl⟩
  obtain ⟨T, hTT⟩ : ∃ x, Hid (takesA 87 = x) := ⟨_, rfl⟩
  have HTT : Hid (T = T) := rfl
  rw [him2.out] at HIm hIm
  rw [hTT.out] at hT HAr  hok1 hok' ⊢
  rw [show givesA 87 = 0 from rfl] at HAr
  obtain ⟨args, hargs⟩ : ∃ x, Hid ((List.range T).map f.arg = x) := ⟨_, rfl⟩
  have hal : args.length = T := by rw [← hargs.out]; simp
  have hT64 : T ≤ 64 := Nat.le_trans hT hsl
  clear hs1
  go_enter Hvah.func76, Hvah.ntmps76
  go_upto_region 1 with (go_at_call 146; refine (HAr _).mono ?_; rintro e w1 ⟨rfl, hww⟩; replace hww := hww.symm; subst hww)
  go_upto_region 2 with ((with_reducible (refine Veil.out ?_; apply wl_makeR under145 el96 T)); (case hl => rfl); (case hc => rfl); (case hn => omega); rintro B W1 e1 b1 g1)
  rw [Nat.mul_one] at b1
  have hBY : ¬ B = Y := by omega
  have hLE : ∀ W', Mod (· = B) W1 W' → Ext w W' := fun W' hm => Ext.trans_mod e1 hm (fun q hq => by have hq2 : q = B := hq; rw [hq2]; exact g1)
  have hXw : ∀ W', Mod (· = B) W1 W' → YX kk (Wd O B) TM TL W' Y F q n tF c d W start st f := fun W' hm => hX.widen0 g1 (hLE W' hm) (Nat.lt_of_lt_of_le b1.lt hm.size)
  go_upto_block 0 with (fail)
  go_cut [] (fun wx => ∃ cA, Blk wx B T 109 cA ∧ Hid (∀ j, j < T → NV (Wd O B) wx (cA j) (f.arg j)) ∧ Mod (· = B) W1 wx)
  case first =>
    go_upto_region 3 with (fail)
    try simp only [Act.put]
    go_loopw [24] (fun iv wr => ∃ (i : Nat) (cA : Nat → Value), iv = .int .i64 (i : Nat) ∧ i ≤ T ∧ Blk wr B T 109 cA ∧ Hid (∀ j, j < i → NV (Wd O B) wr (cA j) (f.arg j)) ∧ Mod (· = B) W1 wr) (fun iv _ => T - (intOf iv).toNat)
    case atStart => exact ⟨0, _, rfl, Nat.zero_le _, b1, (fun j hj => absurd hj (Nat.not_lt_zero _) : ∀ j, j < 0 → _), Mod.refl _ _⟩
    case round =>
      obtain ⟨i, cA, rfl, hi, bA, hdone, hm⟩ := hrel
      rcases Nat.lt_or_ge i T with hlt | hge
      · have z1 : (i : Int) < (T : Int) := by omega
        have z2 : IntKind.i64.wrap ((i : Int) + 1) = ((i + 1 : Nat) : Int) := by rw [IntKind.wrap_i64]; omega
        have HXA := fun W' (hW : Ext wr W') => xArg (((hXw _ hm)).ext hW) i (by omega)
        go_upto_region 6 with (first | (go_at_call 73; refine (HXA _ (by (repeat (first | with_reducible exact Ext.refl _ | with_reducible assumption | refine Ext.trans ?_ (by with_reducible assumption) | refine Ext.alloc ?_ _ _ | refine Ext.drew ?_ | refine Ext.drewN ?_ _)))).mono ?_; rintro e w2 ⟨r2, rfl, hr2, he2⟩) | ((with_reducible (refine Veil.out ?_; apply wl_storeC onet96o)); (case hx => rfl); (case hy => rfl); (case h1 => exact hr2.one); (case hB => exact bA.ext he2); (case hi => exact hlt); rintro W5 b5 m5))
        go_wp2
        go_roundw
        case rel =>
          refine ⟨i + 1, _, rfl, hlt, b5, (fun j hj => ?_ : ∀ j, j < i + 1 → NV (Wd O B) W5 (updv cA i r2 j) (f.arg j)), (hm.trans (he2.mod _)).trans m5⟩
          by_cases e : j = i
          · subst e; rw [updv_same]; exact hr2.keep m5 (fun b hb q => hb (Or.inr q))
          · rw [updv_ne _ _ e]; exact (((hdone.out j (by omega)).ext he2)).keep m5 (fun b hb q => hb (Or.inr q))
        case measure => simp [intOf]; omega
      · have z1 : ¬ (i : Int) < (T : Int) := by omega
        have : i = T := by omega
        subst this
        go_wp2
        go_meet
        case rel => exact ⟨cA, bA, hdone, hm⟩
  case rest =>
  obtain ⟨cA, bA, hdone, hm⟩ := hcut
  obtain ⟨W3, eW3⟩ : ∃ X, X = wc := ⟨_, rfl⟩
  subst eW3
  have E3 := hLE _ hm
  have HN : ∀ W', Ext W3 W' → NumL O W' (.slice (some ⟨B, 0, none⟩) T T) args := fun W' hW => Or.inr ⟨B, T, cA, by rw [hal], by rw [hal]; exact Nat.le_refl _, by omega, by rw [Nat.mul_one]; exact bA.ext hW, fun hb => by have := hO B hb; omega, fun i hi => by
    have hi2 : i < T := by rw [← hal]; exact hi
    have e : args[i] = f.arg i := by
      have : ((List.range T).map f.arg)[i]'(by simpa using hi2) = f.arg i := by simp
      rw [← this]; congr 1; exact hargs.out.symm
    rw [Nat.mul_one, e]
    exact ((hdone.out i hi2).narrow).ext hW⟩
  have hX3 := hX.ext E3
  have HAg : ∀ j, j < T → ∃ v, Hid (cA j = v) ∧ NV O W3 v (f.arg j) := fun j hj => ⟨_, rfl, (hdone.out j hj).narrow⟩
  clear hdone hargs hXw hLE hm b1 g1 HAr
  have iw : IntKind.u64.wrap (1 + (im : Int)) = ((1 + im : Nat) : Int) := by rw [IntKind.wrap_u64]; omega
  have iw2 : IntKind.u64.wrap (im : Int) = (im : Int) := by rw [IntKind.wrap_u64]; omega
  go_upto_region 7 with (fail)
  refine w_ext ?_
  rintro W0 hW0
  refine wp_region_held_drew (S := fun w' => Ext W0 w') (by kernel_rfl) (Ext.refl _).drew (fun hHeld => ?_)
  have HH : Hid (Ext W0 _) := hHeld
  clear hHeld
  refine wpAnyH_take (i := 0) (v := ?_) rfl (by kernel_rfl) (by kernel_rfl) (by kernel_rfl) (fun _ _ _ h => h) (Or.inl ⟨by rfl, ?_⟩) HH.out ?_
  rotate_left
  · intro w hSw; go_simp; try with_reducible rfl
  change wpAnyH _ _ _ _ _ _ _ (Act.put _ (some 34) _) _
  simp only [Act.put, List.setIfInBounds_toArray, List.set_cons_zero, List.set_cons_succ]
  refine wpAnyH_take (i := 1) (v := ?_) rfl (by kernel_rfl) (by kernel_rfl) (by kernel_rfl) (fun _ _ _ h => h) (Or.inl ⟨by rfl, ?_⟩) HH.out ?_
  rotate_left
  · intro w hSw; go_simp; try with_reducible rfl
  change wpAnyH _ _ _ _ _ _ _ (Act.put _ (some 35) _) _
  simp only [Act.put, List.setIfInBounds_toArray, List.set_cons_zero, List.set_cons_succ]
  refine wpAnyH_take (i := 2) (v := ?_) rfl (by kernel_rfl) (by kernel_rfl) (by kernel_rfl) (fun _ _ _ h => h) (Or.inl ⟨by rfl, ?_⟩) HH.out ?_
  rotate_left
  · intro w hSw; go_simp; try with_reducible rfl
  change wpAnyH _ _ _ _ _ _ _ (Act.put _ (some 36) _) _
  simp only [Act.put, List.setIfInBounds_toArray, List.set_cons_zero, List.set_cons_succ]
  refine wpAnyH_take (i := 3) rfl (by kernel_rfl) (by kernel_rfl) (by kernel_rfl) (fun _ _ _ h => h) (yieldsIf_load1 (by rfl) _ _ rfl _ _ rfl onet96o _ (fun w hSw => (hX3.bF.ext (hW0.trans hSw)).cell (by omega))) HH.out ?_
  change wpAnyH _ _ _ _ _ _ _ (Act.put _ (some 37) _) _
  simp only [Act.put, List.setIfInBounds_toArray, List.set_cons_zero, List.set_cons_succ]
  refine wpAnyH_take (i := 4) (v := ?_) rfl (by kernel_rfl) (by kernel_rfl) (by kernel_rfl) (fun _ _ _ h => h) (Or.inl ⟨by rfl, ?_⟩) HH.out ?_
  rotate_left
  · intro w hSw; go_simp; try with_reducible rfl
  change wpAnyH _ _ _ _ _ _ _ (Act.put _ (some 38) _) _
  simp only [Act.put, List.setIfInBounds_toArray, List.set_cons_zero, List.set_cons_succ]
  refine wpAnyH_ready (rs := [5]) (by kernel_rfl) (by simp) ?_
  refine AllReadyH.cons rfl (fun K hK => ?_) AllReadyH.nil
  go_simp
  (go_at_call 160; refine (HIm _).mono ?_; rintro e w1 ⟨rfl, hww⟩; replace hww := hww.symm; subst hww)
  refine hK.out _ _ ?_ (fun hHeld => ?_)
  · first | exact HH.out.trans hmY | exact HH.out.trans he | exact HH.out
  clear hK K HH
  have HH : Hid (Ext W0 _) := hHeld
  clear hHeld
  refine wpAnyH_take (i := 6) (v := ?_) rfl (by kernel_rfl) (by kernel_rfl) (by kernel_rfl) (fun _ _ _ h => h) (Or.inl ⟨by rfl, ?_⟩) HH.out ?_
  rotate_left
  · intro w hSw; go_simp; try with_reducible rfl
  change wpAnyH _ _ _ _ _ _ _ (Act.put _ (some 40) _) _
  simp only [Act.put, List.setIfInBounds_toArray, List.set_cons_zero, List.set_cons_succ]
  refine wpAnyH_take (i := 7) (v := ?_) rfl (by kernel_rfl) (by kernel_rfl) (by kernel_rfl) (fun _ _ _ h => h) (Or.inl ⟨by rfl, ?_⟩) HH.out ?_
  rotate_left
  · intro w hSw; go_simp; try with_reducible rfl
  change wpAnyH _ _ _ _ _ _ _ (Act.put _ (some 41) _) _
  simp only [Act.put, List.setIfInBounds_toArray, List.set_cons_zero, List.set_cons_succ]
  refine wpAnyH_ready (rs := [8]) (by kernel_rfl) (by simp) ?_
  refine AllReadyH.cons rfl (fun K hK => ?_) AllReadyH.nil
  go_simp
  (go_at_call 42; refine (nNum O (1 + im) _ (hX3.small.ext (by (repeat (first | with_reducible exact Ext.refl _ | with_reducible assumption | refine Ext.trans ?_ (by with_reducible assumption) | refine Ext.alloc ?_ _ _ | refine Ext.drew ?_ | refine Ext.drewN ?_ _)))) (by omega)).mono ?_; rintro e w4 ⟨r1, rfl, hr1, he⟩)
  refine hK.out _ _ ?_ (fun hHeld => ?_)
  · first | exact HH.out.trans hmY | exact HH.out.trans he | exact HH.out
  clear hK K HH
  have HH : Hid (Ext W0 _) := hHeld
  clear hHeld
  refine wpAnyH_ready (rs := [9]) (by kernel_rfl) (by simp) ?_
  refine AllReadyH.cons rfl (fun K hK => ?_) AllReadyH.nil
  go_simp
  (go_at_call 44; refine (nAdd O _ _ _ _ _ (hX3.small.ext (by (repeat (first | with_reducible exact Ext.refl _ | with_reducible assumption | refine Ext.trans ?_ (by with_reducible assumption) | refine Ext.alloc ?_ _ _ | refine Ext.drew ?_ | refine Ext.drewN ?_ _)))) (hX3.fc.pc.ext (by (repeat (first | with_reducible exact Ext.refl _ | with_reducible assumption | refine Ext.trans ?_ (by with_reducible assumption) | refine Ext.alloc ?_ _ _ | refine Ext.drew ?_ | refine Ext.drewN ?_ _)))) (hr1.ext (by (repeat (first | with_reducible exact Ext.refl _ | with_reducible assumption | refine Ext.trans ?_ (by with_reducible assumption) | refine Ext.alloc ?_ _ _ | refine Ext.drew ?_ | refine Ext.drewN ?_ _)))) hdp (Nat.le_trans (dl_u64 _ (by omega)) (by decide))).mono ?_; rintro e w5 ⟨r2, rfl, hr2, he⟩)
  refine hK.out _ _ ?_ (fun hHeld => ?_)
  · first | exact HH.out.trans hmY | exact HH.out.trans he | exact HH.out
  clear hK K HH
  have HH : Hid (Ext W0 _) := hHeld
  clear hHeld
  refine wpAnyH_take (i := 10) (v := ?_) rfl (by kernel_rfl) (by kernel_rfl) (by kernel_rfl) (fun _ _ _ h => h) (Or.inl ⟨by rfl, ?_⟩) HH.out ?_
  rotate_left
  · intro w hSw; go_simp; try with_reducible rfl
  change wpAnyH _ _ _ _ _ _ _ (Act.put _ (some 11) _) _
  simp only [Act.put, List.setIfInBounds_toArray, List.set_cons_zero, List.set_cons_succ]
  refine wpAnyH_done (by kernel_rfl) ?_ _
  have X4 := hX3.ext (hW0.trans HH.out)
  have hr3 := hr2
  have HN4 := fun W' (hW : Ext _ W') => HN W' ((hW0.trans HH.out).trans hW)
  have E4 := E3.trans (hW0.trans HH.out)
  have EE4 := hW0.trans HH.out
  clear HH hW0 HN hr1 hX3
  have i1 : (f.stack.length : Int) - (T : Int) = ((f.stack.length - T : Nat) : Int) := by omega
  have i3 : ((f.stack.length - T : Nat) : Int) ≤ 64 := by omega
  have i4 : ((f.stack.length - T : Nat) : Int) ≤ cs := by omega
  obtain ⟨m, hm⟩ : ∃ m, Hid (f.stack.length - T = m) := ⟨_, rfl⟩
  have hm2 : m ≤ f.stack.length := by have := hm.out; omega
  rw [hm.out] at i1 i3 i4
  have iwm : IntKind.i64.wrap ((f.stack.length : Int) - (T : Int)) = (m : Int) := by rw [i1, IntKind.wrap_i64]; omega
  have iwm2 : IntKind.i64.wrap (m : Int) = (m : Int) := by rw [IntKind.wrap_i64]; omega
  have i5 : ¬ ((m : Int) < 0) := by omega
  have i7 : (0 : Int) ≤ (m : Int) := by omega
  have i6 : m ≤ cs := by omega
  go_upto_region 8 with (fail)
  refine w_ext ?_
  rintro W0 hW0
  refine wp_region_held_drew (S := fun w' => Ext W0 w') (by kernel_rfl) (Ext.refl _).drew (fun hHeld => ?_)
  have HH : Hid (Ext W0 _) := hHeld
  clear hHeld
  refine wpAnyH_take (i := 0) (v := ?_) rfl (by kernel_rfl) (by kernel_rfl) (by kernel_rfl) (fun _ _ _ h => h) (Or.inl ⟨by rfl, ?_⟩) HH.out ?_
  rotate_left
  · intro w hSw; go_simp; try with_reducible rfl
  change wpAnyH _ _ _ _ _ _ _ (Act.put _ (some 44) _) _
  simp only [Act.put, List.setIfInBounds_toArray, List.set_cons_zero, List.set_cons_succ]
  refine wpAnyH_take (i := 1) (v := ?_) rfl (by kernel_rfl) (by kernel_rfl) (by kernel_rfl) (fun _ _ _ h => h) (Or.inl ⟨by rfl, ?_⟩) HH.out ?_
  rotate_left
  · intro w hSw; go_simp; try with_reducible rfl
  change wpAnyH _ _ _ _ _ _ _ (Act.put _ (some 45) _) _
  simp only [Act.put, List.setIfInBounds_toArray, List.set_cons_zero, List.set_cons_succ]
  refine wpAnyH_take (i := 2) (v := ?_) rfl (by kernel_rfl) (by kernel_rfl) (by kernel_rfl) (fun _ _ _ h => h) (Or.inl ⟨by rfl, ?_⟩) HH.out ?_
  rotate_left
  · intro w hSw; go_simp; try with_reducible rfl
  change wpAnyH _ _ _ _ _ _ _ (Act.put _ (some 46) _) _
  simp only [Act.put, List.setIfInBounds_toArray, List.set_cons_zero, List.set_cons_succ]
  refine wpAnyH_take (i := 3) rfl (by kernel_rfl) (by kernel_rfl) (by kernel_rfl) (fun _ _ _ h => h) (yieldsIf_load1 (by rfl) _ _ rfl _ _ rfl oneN _ (fun w hSw => by rw [(X4.bF.ext (hW0.trans hSw)).cell (by omega), hsd])) HH.out ?_
  change wpAnyH _ _ _ _ _ _ _ (Act.put _ (some 47) _) _
  simp only [Act.put, List.setIfInBounds_toArray, List.set_cons_zero, List.set_cons_succ]
  refine wpAnyH_take (i := 4) (v := ?_) rfl (by kernel_rfl) (by kernel_rfl) (by kernel_rfl) (fun _ _ _ h => h) (Or.inl ⟨by rfl, ?_⟩) HH.out ?_
  rotate_left
  · intro w hSw; go_simp; try with_reducible rfl
  change wpAnyH _ _ _ _ _ _ _ (Act.put _ (some 48) _) _
  simp only [Act.put, List.setIfInBounds_toArray, List.set_cons_zero, List.set_cons_succ]
  refine wpAnyH_take (i := 5) (v := ?_) rfl (by kernel_rfl) (by kernel_rfl) (by kernel_rfl) (fun _ _ _ h => h) (Or.inl ⟨by rfl, ?_⟩) HH.out ?_
  rotate_left
  · intro w hSw; go_simp; try with_reducible rfl
  change wpAnyH _ _ _ _ _ _ _ (Act.put _ (some 49) _) _
  simp only [Act.put, List.setIfInBounds_toArray, List.set_cons_zero, List.set_cons_succ]
  refine wpAnyH_take (i := 6) (v := ?_) rfl (by kernel_rfl) (by kernel_rfl) (by kernel_rfl) (fun _ _ _ h => h) (Or.inl ⟨by rfl, ?_⟩) HH.out ?_
  rotate_left
  · intro w hSw; go_simp; try with_reducible rfl
  change wpAnyH _ _ _ _ _ _ _ (Act.put _ (some 50) _) _
  simp only [Act.put, List.setIfInBounds_toArray, List.set_cons_zero, List.set_cons_succ]
  refine wpAnyH_take (i := 7) rfl (by kernel_rfl) (by kernel_rfl) (by kernel_rfl) (fun _ _ _ h => h) (yieldsIf_load1 (by rfl) _ _ rfl _ _ rfl oneN _ (fun w hSw => by rw [(X4.bF.ext (hW0.trans hSw)).cell (by omega), hsd])) HH.out ?_
  change wpAnyH _ _ _ _ _ _ _ (Act.put _ (some 51) _) _
  simp only [Act.put, List.setIfInBounds_toArray, List.set_cons_zero, List.set_cons_succ]
  refine wpAnyH_take (i := 8) (v := ?_) rfl (by kernel_rfl) (by kernel_rfl) (by kernel_rfl) (fun _ _ _ h => h) (Or.inl ⟨by rfl, ?_⟩) HH.out ?_
  rotate_left
  · intro w hSw; go_simp; try with_reducible rfl
  change wpAnyH _ _ _ _ _ _ _ (Act.put _ (some 52) _) _
  simp only [Act.put, List.setIfInBounds_toArray, List.set_cons_zero, List.set_cons_succ]
  refine wpAnyH_take (i := 9) (v := ?_) rfl (by kernel_rfl) (by kernel_rfl) (by kernel_rfl) (fun _ _ _ h => h) (Or.inl ⟨by rfl, ?_⟩) HH.out ?_
  rotate_left
  · intro w hSw; go_simp; try with_reducible rfl
  change wpAnyH _ _ _ _ _ _ _ (Act.put _ (some 53) _) _
  simp only [Act.put, List.setIfInBounds_toArray, List.set_cons_zero, List.set_cons_succ]
  refine wpAnyH_take (i := 10) (v := ?_) rfl (by kernel_rfl) (by kernel_rfl) (by kernel_rfl) (fun _ _ _ h => h) (Or.inl ⟨by rfl, ?_⟩) HH.out ?_
  rotate_left
  · intro w hSw; go_simp; try with_reducible rfl
  change wpAnyH _ _ _ _ _ _ _ (Act.put _ (some 54) _) _
  simp only [Act.put, List.setIfInBounds_toArray, List.set_cons_zero, List.set_cons_succ]
  refine wpAnyH_take (i := 11) (v := ?_) rfl (by kernel_rfl) (by kernel_rfl) (by kernel_rfl) (fun _ _ _ h => h) (Or.inl ⟨by rfl, ?_⟩) HH.out ?_
  rotate_left
  · intro w hSw; go_simp; try with_reducible rfl
  change wpAnyH _ _ _ _ _ _ _ (Act.put _ (some 55) _) _
  simp only [Act.put, List.setIfInBounds_toArray, List.set_cons_zero, List.set_cons_succ]
  refine wpAnyH_take (i := 12) (v := ?_) rfl (by kernel_rfl) (by kernel_rfl) (by kernel_rfl) (fun _ _ _ h => h) (Or.inl ⟨by rfl, ?_⟩) HH.out ?_
  rotate_left
  · intro w hSw; go_simp; try with_reducible rfl
  change wpAnyH _ _ _ _ _ _ _ (Act.put _ (some 56) _) _
  simp only [Act.put, List.setIfInBounds_toArray, List.set_cons_zero, List.set_cons_succ]
  refine wpAnyH_take (i := 13) (v := ?_) rfl (by kernel_rfl) (by kernel_rfl) (by kernel_rfl) (fun _ _ _ h => h) (Or.inl ⟨by rfl, ?_⟩) HH.out ?_
  rotate_left
  · intro w hSw; go_simp; try with_reducible rfl
  change wpAnyH _ _ _ _ _ _ _ (Act.put _ (some 57) _) _
  simp only [Act.put, List.setIfInBounds_toArray, List.set_cons_zero, List.set_cons_succ]
  refine wpAnyH_take (i := 14) rfl (by kernel_rfl) (by kernel_rfl) (by kernel_rfl) (fun _ _ _ h => h) (yieldsIf_load1 (by rfl) _ _ rfl _ _ rfl oneN _ (fun w hSw => by rw [(X4.bF.ext (hW0.trans hSw)).cell (by omega), hsd])) HH.out ?_
  change wpAnyH _ _ _ _ _ _ _ (Act.put _ (some 58) _) _
  simp only [Act.put, List.setIfInBounds_toArray, List.set_cons_zero, List.set_cons_succ]
  refine wpAnyH_take (i := 15) (v := ?_) rfl (by kernel_rfl) (by kernel_rfl) (by kernel_rfl) (fun _ _ _ h => h) (Or.inl ⟨by rfl, ?_⟩) HH.out ?_
  rotate_left
  · intro w hSw; go_simp; try with_reducible rfl
  change wpAnyH _ _ _ _ _ _ _ (Act.put _ (some 59) _) _
  simp only [Act.put, List.setIfInBounds_toArray, List.set_cons_zero, List.set_cons_succ]
  refine wpAnyH_take (i := 16) (v := ?_) rfl (by kernel_rfl) (by kernel_rfl) (by kernel_rfl) (fun _ _ _ h => h) (Or.inl ⟨by rfl, ?_⟩) HH.out ?_
  rotate_left
  · intro w hSw; go_simp; try with_reducible rfl
  change wpAnyH _ _ _ _ _ _ _ (Act.put _ (some 60) _) _
  simp only [Act.put, List.setIfInBounds_toArray, List.set_cons_zero, List.set_cons_succ]
  refine wpAnyH_take (i := 17) (v := ?_) rfl (by kernel_rfl) (by kernel_rfl) (by kernel_rfl) (fun _ _ _ h => h) (Or.inl ⟨by rfl, ?_⟩) HH.out ?_
  rotate_left
  · intro w hSw; go_simp; try with_reducible rfl
  change wpAnyH _ _ _ _ _ _ _ (Act.put _ (some 61) _) _
  simp only [Act.put, List.setIfInBounds_toArray, List.set_cons_zero, List.set_cons_succ]
  refine wpAnyH_take (i := 18) (v := ?_) rfl (by kernel_rfl) (by kernel_rfl) (by kernel_rfl) (fun _ _ _ h => h) (Or.inl ⟨by rfl, ?_⟩) HH.out ?_
  rotate_left
  · intro w hSw; go_simp; try with_reducible rfl
  change wpAnyH _ _ _ _ _ _ _ (Act.put _ (some 62) _) _
  simp only [Act.put, List.setIfInBounds_toArray, List.set_cons_zero, List.set_cons_succ]
  refine wpAnyH_take (i := 19) (v := ?_) rfl (by kernel_rfl) (by kernel_rfl) (by kernel_rfl) (fun _ _ _ h => h) (Or.inl ⟨by rfl, ?_⟩) HH.out ?_
  rotate_left
  · intro w hSw; go_simp; try with_reducible rfl
  change wpAnyH _ _ _ _ _ _ _ (Act.put _ (some 12) _) _
  simp only [Act.put, List.setIfInBounds_toArray, List.set_cons_zero, List.set_cons_succ]
  refine wpAnyH_done (by kernel_rfl) ?_ _
  have X5 := X4.ext (hW0.trans HH.out)
  have hr5 := hr3.ext (hW0.trans HH.out)
  have HN5 := fun W' (hW : Ext _ W') => HN4 W' ((hW0.trans HH.out).trans hW)
  have E5 := E4.trans (hW0.trans HH.out)
  have EE5 := EE4.trans (hW0.trans HH.out)
  clear HH hW0 HN4 hr3 hr2 X4 E4 E3 e1 EE4
  have HT : Hid (f.stack.reverse.take m = (f.stack.drop T).reverse) := by
    rw [← hm.out]
    simp [List.take_reverse, show f.stack.length - (f.stack.length - T) = T by omega]
    try exact trivial
  have hTv : T = 2 := by rw [← hTT.out]; rfl
  obtain ⟨v0, hv0, hn0⟩ := HAg 0 (by omega)
  obtain ⟨v1, hv1, hn1⟩ := HAg 1 (by omega)
  have bA1 : 1 < T := by omega
  obtain ⟨zb, hzb⟩ : ∃ b, Hid (decide (f.arg 1 = 0) = b) := ⟨_, rfl⟩
  have hzb2 : zb = false := by rw [← hzb.out]; exact decide_eq_false harg
  have bA0 : 0 < T := by omega
  have z0i : (0 : Int) < (T : Int) := by omega
  have z1i : T = 2 → (1 : Int) < (T : Int) := fun q => by omega
  clear HAg
  have z1j := z1i hTv
  clear z1i hTv
  have HZ := fun W' (hW : Ext _ W') => nIsZero O _ _ W' (hn1.ext hW)
  rw [hzb.out, hzb2] at HZ
  clear hzb hzb2
  go_upto_region 13 with (first | ((with_reducible (refine Veil.out ?_; apply wl_loadC onet96o)); (case hw => rfl); (case hx => rfl); (case hc => exact ((bA.ext (by (repeat (first | with_reducible exact Ext.refl _ | with_reducible assumption | refine Ext.trans ?_ (by with_reducible assumption) | refine Ext.alloc ?_ _ _ | refine Ext.drew ?_ | refine Ext.drewN ?_ _)))).cell (by omega)).trans (congrArg some hv1.out))) | (go_at_call 88; refine (HZ _ (by (repeat (first | with_reducible exact Ext.refl _ | with_reducible assumption | refine Ext.trans ?_ (by with_reducible assumption) | refine Ext.alloc ?_ _ _ | refine Ext.drew ?_ | refine Ext.drewN ?_ _)))).mono ?_; rintro e w8 ⟨rfl, hdr⟩; have he8 := drew_ext hdr; clear hdr))
  go_upto_region 25 with (first | ((with_reducible (refine Veil.out ?_; apply wl_loadC onet96o)); (case hw => rfl); (case hx => rfl); (case hc => exact ((bA.ext (by (repeat (first | with_reducible exact Ext.refl _ | with_reducible assumption | refine Ext.trans ?_ (by with_reducible assumption) | refine Ext.alloc ?_ _ _ | refine Ext.drew ?_ | refine Ext.drewN ?_ _)))).cell (by omega)).trans (congrArg some hv0.out))) | (go_at_call 132; refine (nNorm O _ _ _ (X5.small.ext (by (repeat (first | with_reducible exact Ext.refl _ | with_reducible assumption | refine Ext.trans ?_ (by with_reducible assumption) | refine Ext.alloc ?_ _ _ | refine Ext.drew ?_ | refine Ext.drewN ?_ _)))) (hn0.ext (by (repeat (first | with_reducible exact Ext.refl _ | with_reducible assumption | refine Ext.trans ?_ (by with_reducible assumption) | refine Ext.alloc ?_ _ _ | refine Ext.drew ?_ | refine Ext.drewN ?_ _))))).mono ?_; rintro e w9 ⟨r9, rfl, hr0, he9⟩; have hr9 := hr0.nv))
  have X6 := X5.ext (show Ext _ w9 by (repeat (first | with_reducible exact Ext.refl _ | with_reducible assumption | refine Ext.trans ?_ (by with_reducible assumption) | refine Ext.alloc ?_ _ _ | refine Ext.drew ?_ | refine Ext.drewN ?_ _)))
  have hr7 := hr9
  have hv8' : NumS O w9 (.slice os m m) (f.stack.drop T).reverse := by
    have k := X6.fc.stack
    rw [hsd] at k
    have := NumS.cut k m (by rw [List.length_reverse]; exact hm2)
    rwa [HT.out] at this
  have E6 := E5.trans (show Ext _ w9 by (repeat (first | with_reducible exact Ext.refl _ | with_reducible assumption | refine Ext.trans ?_ (by with_reducible assumption) | refine Ext.alloc ?_ _ _ | refine Ext.drew ?_ | refine Ext.drewN ?_ _)))
  go_upto_region 26 with ((with_reducible (refine Veil.out ?_; apply wl_store1 oneN)); (case hx => rfl); (case hy => rfl); (case h1 => rfl); (case hB => exact X6.bF); (case ho => omega); rintro W2 hB2 hm2')
  have X8 := X6.putStack hv8' hm2' hB2 hok1
  have hr8 := hr7.keep hm2' X6.hsF
  go_wp2_with ((with_reducible (refine Veil.out ?_; apply wl_store1 onet96o)); (case hx => rfl); (case hy => rfl); (case h1 => exact hr8.one); (case hB => exact X8.bF); (case ho => omega); rintro W9 hB9 hm9)
  go_end0
  refine ⟨rfl, _, X8.putPc hr8 hm9 hB9 hok', ?_, fun i h8 h3 => by rw [updv_ne _ _ h3, updv_ne _ _ h8]⟩
  exact (E6.mod _).trans (hm2'.trans hm9)
set_option maxRecDepth 100000 in
set_option maxHeartbeats 6400000 in
theorem xPlainE87 (hX : YX kk O TM TL w Y F q n tF c d W start st f) (hT : takesA 87 ≤ f.stack.length) (harg : f.arg 1 = 0) (HV : ∀ W1 vg, Ext w W1 → NumL O W1 vg ((List.range (takesA 87)).map f.arg) → Calls Hvah.prog 162 #[.pointer (some ⟨Y, 0, none⟩), .pointer (some ⟨F, q, none⟩), .int .u8 87, vg] W1 fun e w' => e = .returned (.bool true) ∧ Ext W1 w') (hok1 : FOK { f with stack := f.stack.drop (takesA 87) }) (hok' : FOK (f.settle (takesA 87) [] 1)) : Calls Hvah.prog 76 #[.pointer (some ⟨Y, 0, none⟩), .pointer (some ⟨F, q, none⟩), .int .u8 87] w fun e w' => e = .returned (.tuple #[]) ∧ ∃ d', YX kk O TM TL w' Y F q n tF c d' W start st (f.settle (takesA 87) [] 1) ∧ Mod (· = F) w w' ∧ (∀ i, i ≠ q + 8 → i ≠ q + 3 → d' i = d i) := by
  have hO := hX.small
  have hq := hX.hq
  have hYl := hX.bY.lt
  have hsl := hX.ok.sLen
  have hsli : (f.stack.length : Int) ≤ 64 := by omega
  have hdp : dl f.pc ≤ 2000 := Nat.le_trans (dl_u64 _ (by have := hX.ok.pc; omega)) (by decide)
  obtain ⟨os, cs, hsd, hs1⟩ := NumS.slice hX.fc.stack
  rw [List.length_reverse] at hsd
  have hsc : f.stack.length ≤ cs := by
    obtain ⟨o2, cap2, h1, h2, _⟩ := hX.fc.stack
    rw [hsd] at h1
    injection h1 with _ _ h1
    rw [h1]; simpa using h2
  have hIm : immA 87 ≤ 32 := by unfold immA; split <;> omega
  have HAr := yArity 87 (by decide)
  have HIm := fun W1 => oImm 87 W1 (by decide)
  obtain ⟨im, him2⟩ : ∃ x, Hid (immA 87 = x) := ⟨_, rfl⟩
  obtain ⟨T, hTT⟩ : ∃ x, Hid (takesA 87 = x) := ⟨_, rfl⟩
  have HTT : Hid (T = T) := rfl
  rw [him2.out] at HIm hIm
  rw [hTT.out] at hT HAr HV hok1 hok' ⊢
  rw [show givesA 87 = 0 from rfl] at HAr
  obtain ⟨args, hargs⟩ : ∃ x, Hid ((List.range T).map f.arg = x) := ⟨_, rfl⟩
  have hal : args.length = T := by rw [← hargs.out]; simp
  rw [hargs.out] at HV
  have hT64 : T ≤ 64 := Nat.le_trans hT hsl
  clear hs1
  go_enter Hvah.func76, Hvah.ntmps76
  go_upto_region 1 with (go_at_call 146; refine (HAr _).mono ?_; rintro e w1 ⟨rfl, hww⟩; replace hww := hww.symm; subst hww)
  go_upto_region 2 with ((with_reducible (refine Veil.out ?_; apply wl_makeR under145 el96 T)); (case hl => rfl); (case hc => rfl); (case hn => omega); rintro B W1 e1 b1 g1)
  rw [Nat.mul_one] at b1
  have hBY : ¬ B = Y := by omega
  have hLE : ∀ W', Mod (· = B) W1 W' → Ext w W' := fun W' hm => Ext.trans_mod e1 hm (fun q hq => by have hq2 : q = B := hq; rw [hq2]; exact g1)
  have hXw : ∀ W', Mod (· = B) W1 W' → YX kk (Wd O B) TM TL W' Y F q n tF c d W start st f := fun W' hm => hX.widen0 g1 (hLE W' hm) (Nat.lt_of_lt_of_le b1.lt hm.size)
  go_upto_block 0 with (fail)
  go_cut [] (fun wx => ∃ cA, Blk wx B T 109 cA ∧ Hid (∀ j, j < T → NV (Wd O B) wx (cA j) (f.arg j)) ∧ Mod (· = B) W1 wx)
  case first =>
    go_upto_region 3 with (fail)
    try simp only [Act.put]
    go_loopw [24] (fun iv wr => ∃ (i : Nat) (cA : Nat → Value), iv = .int .i64 (i : Nat) ∧ i ≤ T ∧ Blk wr B T 109 cA ∧ Hid (∀ j, j < i → NV (Wd O B) wr (cA j) (f.arg j)) ∧ Mod (· = B) W1 wr) (fun iv _ => T - (intOf iv).toNat)
    case atStart => exact ⟨0, _, rfl, Nat.zero_le _, b1, (fun j hj => absurd hj (Nat.not_lt_zero _) : ∀ j, j < 0 → _), Mod.refl _ _⟩
    case round =>
      obtain ⟨i, cA, rfl, hi, bA, hdone, hm⟩ := hrel
      rcases Nat.lt_or_ge i T with hlt | hge
      · have z1 : (i : Int) < (T : Int) := by omega
        have z2 : IntKind.i64.wrap ((i : Int) + 1) = ((i + 1 : Nat) : Int) := by rw [IntKind.wrap_i64]; omega
        have HXA := fun W' (hW : Ext wr W') => xArg (((hXw _ hm)).ext hW) i (by omega)
        go_upto_region 6 with (first | (go_at_call 73; refine (HXA _ (by (repeat (first | with_reducible exact Ext.refl _ | with_reducible assumption | refine Ext.trans ?_ (by with_reducible assumption) | refine Ext.alloc ?_ _ _ | refine Ext.drew ?_ | refine Ext.drewN ?_ _)))).mono ?_; rintro e w2 ⟨r2, rfl, hr2, he2⟩) | ((with_reducible (refine Veil.out ?_; apply wl_storeC onet96o)); (case hx => rfl); (case hy => rfl); (case h1 => exact hr2.one); (case hB => exact bA.ext he2); (case hi => exact hlt); rintro W5 b5 m5))
        go_wp2
        go_roundw
        case rel =>
          refine ⟨i + 1, _, rfl, hlt, b5, (fun j hj => ?_ : ∀ j, j < i + 1 → NV (Wd O B) W5 (updv cA i r2 j) (f.arg j)), (hm.trans (he2.mod _)).trans m5⟩
          by_cases e : j = i
          · subst e; rw [updv_same]; exact hr2.keep m5 (fun b hb q => hb (Or.inr q))
          · rw [updv_ne _ _ e]; exact (((hdone.out j (by omega)).ext he2)).keep m5 (fun b hb q => hb (Or.inr q))
        case measure => simp [intOf]; omega
      · have z1 : ¬ (i : Int) < (T : Int) := by omega
        have : i = T := by omega
        subst this
        go_wp2
        go_meet
        case rel => exact ⟨cA, bA, hdone, hm⟩
  case rest =>
  obtain ⟨cA, bA, hdone, hm⟩ := hcut
  obtain ⟨W3, eW3⟩ : ∃ X, X = wc := ⟨_, rfl⟩
  subst eW3
  have E3 := hLE _ hm
  have HN : ∀ W', Ext W3 W' → NumL O W' (.slice (some ⟨B, 0, none⟩) T T) args := fun W' hW => Or.inr ⟨B, T, cA, by rw [hal], by rw [hal]; exact Nat.le_refl _, by omega, by rw [Nat.mul_one]; exact bA.ext hW, fun hb => by have := hO B hb; omega, fun i hi => by
    have hi2 : i < T := by rw [← hal]; exact hi
    have e : args[i] = f.arg i := by
      have : ((List.range T).map f.arg)[i]'(by simpa using hi2) = f.arg i := by simp
      rw [← this]; congr 1; exact hargs.out.symm
    rw [Nat.mul_one, e]
    exact ((hdone.out i hi2).narrow).ext hW⟩
  have hX3 := hX.ext E3
  have HAg : ∀ j, j < T → ∃ v, Hid (cA j = v) ∧ NV O W3 v (f.arg j) := fun j hj => ⟨_, rfl, (hdone.out j hj).narrow⟩
  clear hdone hargs hXw hLE hm b1 g1 HAr
  have iw : IntKind.u64.wrap (1 + (im : Int)) = ((1 + im : Nat) : Int) := by rw [IntKind.wrap_u64]; omega
  have iw2 : IntKind.u64.wrap (im : Int) = (im : Int) := by rw [IntKind.wrap_u64]; omega
  go_upto_region 7 with (fail)
  refine w_ext ?_
  rintro W0 hW0
  refine wp_region_held_drew (S := fun w' => Ext W0 w') (by kernel_rfl) (Ext.refl _).drew (fun hHeld => ?_)
  have HH : Hid (Ext W0 _) := hHeld
  clear hHeld
  refine wpAnyH_take (i := 0) (v := ?_) rfl (by kernel_rfl) (by kernel_rfl) (by kernel_rfl) (fun _ _ _ h => h) (Or.inl ⟨by rfl, ?_⟩) HH.out ?_
  rotate_left
  · intro w hSw; go_simp; try with_reducible rfl
  change wpAnyH _ _ _ _ _ _ _ (Act.put _ (some 34) _) _
  simp only [Act.put, List.setIfInBounds_toArray, List.set_cons_zero, List.set_cons_succ]
  refine wpAnyH_take (i := 1) (v := ?_) rfl (by kernel_rfl) (by kernel_rfl) (by kernel_rfl) (fun _ _ _ h => h) (Or.inl ⟨by rfl, ?_⟩) HH.out ?_
  rotate_left
  · intro w hSw; go_simp; try with_reducible rfl
  change wpAnyH _ _ _ _ _ _ _ (Act.put _ (some 35) _) _
  simp only [Act.put, List.setIfInBounds_toArray, List.set_cons_zero, List.set_cons_succ]
  refine wpAnyH_take (i := 2) (v := ?_) rfl (by kernel_rfl) (by kernel_rfl) (by kernel_rfl) (fun _ _ _ h => h) (Or.inl ⟨by rfl, ?_⟩) HH.out ?_
  rotate_left
  · intro w hSw; go_simp; try with_reducible rfl
  change wpAnyH _ _ _ _ _ _ _ (Act.put _ (some 36) _) _
  simp only [Act.put, List.setIfInBounds_toArray, List.set_cons_zero, List.set_cons_succ]
  refine wpAnyH_take (i := 3) rfl (by kernel_rfl) (by kernel_rfl) (by kernel_rfl) (fun _ _ _ h => h) (yieldsIf_load1 (by rfl) _ _ rfl _ _ rfl onet96o _ (fun w hSw => (hX3.bF.ext (hW0.trans hSw)).cell (by omega))) HH.out ?_
  change wpAnyH _ _ _ _ _ _ _ (Act.put _ (some 37) _) _
  simp only [Act.put, List.setIfInBounds_toArray, List.set_cons_zero, List.set_cons_succ]
  refine wpAnyH_take (i := 4) (v := ?_) rfl (by kernel_rfl) (by kernel_rfl) (by kernel_rfl) (fun _ _ _ h => h) (Or.inl ⟨by rfl, ?_⟩) HH.out ?_
  rotate_left
  · intro w hSw; go_simp; try with_reducible rfl
  change wpAnyH _ _ _ _ _ _ _ (Act.put _ (some 38) _) _
  simp only [Act.put, List.setIfInBounds_toArray, List.set_cons_zero, List.set_cons_succ]
  refine wpAnyH_ready (rs := [5]) (by kernel_rfl) (by simp) ?_
  refine AllReadyH.cons rfl (fun K hK => ?_) AllReadyH.nil
  go_simp
  (go_at_call 160; refine (HIm _).mono ?_; rintro e w1 ⟨rfl, hww⟩; replace hww := hww.symm; subst hww)
  refine hK.out _ _ ?_ (fun hHeld => ?_)
  · first | exact HH.out.trans hmY | exact HH.out.trans he | exact HH.out
  clear hK K HH
  have HH : Hid (Ext W0 _) := hHeld
  clear hHeld
  refine wpAnyH_take (i := 6) (v := ?_) rfl (by kernel_rfl) (by kernel_rfl) (by kernel_rfl) (fun _ _ _ h => h) (Or.inl ⟨by rfl, ?_⟩) HH.out ?_
  rotate_left
  · intro w hSw; go_simp; try with_reducible rfl
  change wpAnyH _ _ _ _ _ _ _ (Act.put _ (some 40) _) _
  simp only [Act.put, List.setIfInBounds_toArray, List.set_cons_zero, List.set_cons_succ]
  refine wpAnyH_take (i := 7) (v := ?_) rfl (by kernel_rfl) (by kernel_rfl) (by kernel_rfl) (fun _ _ _ h => h) (Or.inl ⟨by rfl, ?_⟩) HH.out ?_
  rotate_left
  · intro w hSw; go_simp; try with_reducible rfl
  change wpAnyH _ _ _ _ _ _ _ (Act.put _ (some 41) _) _
  simp only [Act.put, List.setIfInBounds_toArray, List.set_cons_zero, List.set_cons_succ]
  refine wpAnyH_ready (rs := [8]) (by kernel_rfl) (by simp) ?_
  refine AllReadyH.cons rfl (fun K hK => ?_) AllReadyH.nil
  go_simp
  (go_at_call 42; refine (nNum O (1 + im) _ (hX3.small.ext (by (repeat (first | with_reducible exact Ext.refl _ | with_reducible assumption | refine Ext.trans ?_ (by with_reducible assumption) | refine Ext.alloc ?_ _ _ | refine Ext.drew ?_ | refine Ext.drewN ?_ _)))) (by omega)).mono ?_; rintro e w4 ⟨r1, rfl, hr1, he⟩)
  refine hK.out _ _ ?_ (fun hHeld => ?_)
  · first | exact HH.out.trans hmY | exact HH.out.trans he | exact HH.out
  clear hK K HH
  have HH : Hid (Ext W0 _) := hHeld
  clear hHeld
  refine wpAnyH_ready (rs := [9]) (by kernel_rfl) (by simp) ?_
  refine AllReadyH.cons rfl (fun K hK => ?_) AllReadyH.nil
  go_simp
  (go_at_call 44; refine (nAdd O _ _ _ _ _ (hX3.small.ext (by (repeat (first | with_reducible exact Ext.refl _ | with_reducible assumption | refine Ext.trans ?_ (by with_reducible assumption) | refine Ext.alloc ?_ _ _ | refine Ext.drew ?_ | refine Ext.drewN ?_ _)))) (hX3.fc.pc.ext (by (repeat (first | with_reducible exact Ext.refl _ | with_reducible assumption | refine Ext.trans ?_ (by with_reducible assumption) | refine Ext.alloc ?_ _ _ | refine Ext.drew ?_ | refine Ext.drewN ?_ _)))) (hr1.ext (by (repeat (first | with_reducible exact Ext.refl _ | with_reducible assumption | refine Ext.trans ?_ (by with_reducible assumption) | refine Ext.alloc ?_ _ _ | refine Ext.drew ?_ | refine Ext.drewN ?_ _)))) hdp (Nat.le_trans (dl_u64 _ (by omega)) (by decide))).mono ?_; rintro e w5 ⟨r2, rfl, hr2, he⟩)
  refine hK.out _ _ ?_ (fun hHeld => ?_)
  · first | exact HH.out.trans hmY | exact HH.out.trans he | exact HH.out
  clear hK K HH
  have HH : Hid (Ext W0 _) := hHeld
  clear hHeld
  refine wpAnyH_take (i := 10) (v := ?_) rfl (by kernel_rfl) (by kernel_rfl) (by kernel_rfl) (fun _ _ _ h => h) (Or.inl ⟨by rfl, ?_⟩) HH.out ?_
  rotate_left
  · intro w hSw; go_simp; try with_reducible rfl
  change wpAnyH _ _ _ _ _ _ _ (Act.put _ (some 11) _) _
  simp only [Act.put, List.setIfInBounds_toArray, List.set_cons_zero, List.set_cons_succ]
  refine wpAnyH_done (by kernel_rfl) ?_ _
  have X4 := hX3.ext (hW0.trans HH.out)
  have hr3 := hr2
  have HN4 := fun W' (hW : Ext _ W') => HN W' ((hW0.trans HH.out).trans hW)
  have E4 := E3.trans (hW0.trans HH.out)
  have EE4 := hW0.trans HH.out
  clear HH hW0 HN hr1 hX3
  have i1 : (f.stack.length : Int) - (T : Int) = ((f.stack.length - T : Nat) : Int) := by omega
  have i3 : ((f.stack.length - T : Nat) : Int) ≤ 64 := by omega
  have i4 : ((f.stack.length - T : Nat) : Int) ≤ cs := by omega
  obtain ⟨m, hm⟩ : ∃ m, Hid (f.stack.length - T = m) := ⟨_, rfl⟩
  have hm2 : m ≤ f.stack.length := by have := hm.out; omega
  rw [hm.out] at i1 i3 i4
  have iwm : IntKind.i64.wrap ((f.stack.length : Int) - (T : Int)) = (m : Int) := by rw [i1, IntKind.wrap_i64]; omega
  have iwm2 : IntKind.i64.wrap (m : Int) = (m : Int) := by rw [IntKind.wrap_i64]; omega
  have i5 : ¬ ((m : Int) < 0) := by omega
  have i7 : (0 : Int) ≤ (m : Int) := by omega
  have i6 : m ≤ cs := by omega
  go_upto_region 8 with (fail)
  refine w_ext ?_
  rintro W0 hW0
  refine wp_region_held_drew (S := fun w' => Ext W0 w') (by kernel_rfl) (Ext.refl _).drew (fun hHeld => ?_)
  have HH : Hid (Ext W0 _) := hHeld
  clear hHeld
  refine wpAnyH_take (i := 0) (v := ?_) rfl (by kernel_rfl) (by kernel_rfl) (by kernel_rfl) (fun _ _ _ h => h) (Or.inl ⟨by rfl, ?_⟩) HH.out ?_
  rotate_left
  · intro w hSw; go_simp; try with_reducible rfl
  change wpAnyH _ _ _ _ _ _ _ (Act.put _ (some 44) _) _
  simp only [Act.put, List.setIfInBounds_toArray, List.set_cons_zero, List.set_cons_succ]
  refine wpAnyH_take (i := 1) (v := ?_) rfl (by kernel_rfl) (by kernel_rfl) (by kernel_rfl) (fun _ _ _ h => h) (Or.inl ⟨by rfl, ?_⟩) HH.out ?_
  rotate_left
  · intro w hSw; go_simp; try with_reducible rfl
  change wpAnyH _ _ _ _ _ _ _ (Act.put _ (some 45) _) _
  simp only [Act.put, List.setIfInBounds_toArray, List.set_cons_zero, List.set_cons_succ]
  refine wpAnyH_take (i := 2) (v := ?_) rfl (by kernel_rfl) (by kernel_rfl) (by kernel_rfl) (fun _ _ _ h => h) (Or.inl ⟨by rfl, ?_⟩) HH.out ?_
  rotate_left
  · intro w hSw; go_simp; try with_reducible rfl
  change wpAnyH _ _ _ _ _ _ _ (Act.put _ (some 46) _) _
  simp only [Act.put, List.setIfInBounds_toArray, List.set_cons_zero, List.set_cons_succ]
  refine wpAnyH_take (i := 3) rfl (by kernel_rfl) (by kernel_rfl) (by kernel_rfl) (fun _ _ _ h => h) (yieldsIf_load1 (by rfl) _ _ rfl _ _ rfl oneN _ (fun w hSw => by rw [(X4.bF.ext (hW0.trans hSw)).cell (by omega), hsd])) HH.out ?_
  change wpAnyH _ _ _ _ _ _ _ (Act.put _ (some 47) _) _
  simp only [Act.put, List.setIfInBounds_toArray, List.set_cons_zero, List.set_cons_succ]
  refine wpAnyH_take (i := 4) (v := ?_) rfl (by kernel_rfl) (by kernel_rfl) (by kernel_rfl) (fun _ _ _ h => h) (Or.inl ⟨by rfl, ?_⟩) HH.out ?_
  rotate_left
  · intro w hSw; go_simp; try with_reducible rfl
  change wpAnyH _ _ _ _ _ _ _ (Act.put _ (some 48) _) _
  simp only [Act.put, List.setIfInBounds_toArray, List.set_cons_zero, List.set_cons_succ]
  refine wpAnyH_take (i := 5) (v := ?_) rfl (by kernel_rfl) (by kernel_rfl) (by kernel_rfl) (fun _ _ _ h => h) (Or.inl ⟨by rfl, ?_⟩) HH.out ?_
  rotate_left
  · intro w hSw; go_simp; try with_reducible rfl
  change wpAnyH _ _ _ _ _ _ _ (Act.put _ (some 49) _) _
  simp only [Act.put, List.setIfInBounds_toArray, List.set_cons_zero, List.set_cons_succ]
  refine wpAnyH_take (i := 6) (v := ?_) rfl (by kernel_rfl) (by kernel_rfl) (by kernel_rfl) (fun _ _ _ h => h) (Or.inl ⟨by rfl, ?_⟩) HH.out ?_
  rotate_left
  · intro w hSw; go_simp; try with_reducible rfl
  change wpAnyH _ _ _ _ _ _ _ (Act.put _ (some 50) _) _
  simp only [Act.put, List.setIfInBounds_toArray, List.set_cons_zero, List.set_cons_succ]
  refine wpAnyH_take (i := 7) rfl (by kernel_rfl) (by kernel_rfl) (by kernel_rfl) (fun _ _ _ h => h) (yieldsIf_load1 (by rfl) _ _ rfl _ _ rfl oneN _ (fun w hSw => by rw [(X4.bF.ext (hW0.trans hSw)).cell (by omega), hsd])) HH.out ?_
  change wpAnyH _ _ _ _ _ _ _ (Act.put _ (some 51) _) _
  simp only [Act.put, List.setIfInBounds_toArray, List.set_cons_zero, List.set_cons_succ]
  refine wpAnyH_take (i := 8) (v := ?_) rfl (by kernel_rfl) (by kernel_rfl) (by kernel_rfl) (fun _ _ _ h => h) (Or.inl ⟨by rfl, ?_⟩) HH.out ?_
  rotate_left
  · intro w hSw; go_simp; try with_reducible rfl
  change wpAnyH _ _ _ _ _ _ _ (Act.put _ (some 52) _) _
  simp only [Act.put, List.setIfInBounds_toArray, List.set_cons_zero, List.set_cons_succ]
  refine wpAnyH_take (i := 9) (v := ?_) rfl (by kernel_rfl) (by kernel_rfl) (by kernel_rfl) (fun _ _ _ h => h) (Or.inl ⟨by rfl, ?_⟩) HH.out ?_
  rotate_left
  · intro w hSw; go_simp; try with_reducible rfl
  change wpAnyH _ _ _ _ _ _ _ (Act.put _ (some 53) _) _
  simp only [Act.put, List.setIfInBounds_toArray, List.set_cons_zero, List.set_cons_succ]
  refine wpAnyH_take (i := 10) (v := ?_) rfl (by kernel_rfl) (by kernel_rfl) (by kernel_rfl) (fun _ _ _ h => h) (Or.inl ⟨by rfl, ?_⟩) HH.out ?_
  rotate_left
  · intro w hSw; go_simp; try with_reducible rfl
  change wpAnyH _ _ _ _ _ _ _ (Act.put _ (some 54) _) _
  simp only [Act.put, List.setIfInBounds_toArray, List.set_cons_zero, List.set_cons_succ]
  refine wpAnyH_take (i := 11) (v := ?_) rfl (by kernel_rfl) (by kernel_rfl) (by kernel_rfl) (fun _ _ _ h => h) (Or.inl ⟨by rfl, ?_⟩) HH.out ?_
  rotate_left
  · intro w hSw; go_simp; try with_reducible rfl
  change wpAnyH _ _ _ _ _ _ _ (Act.put _ (some 55) _) _
  simp only [Act.put, List.setIfInBounds_toArray, List.set_cons_zero, List.set_cons_succ]
  refine wpAnyH_take (i := 12) (v := ?_) rfl (by kernel_rfl) (by kernel_rfl) (by kernel_rfl) (fun _ _ _ h => h) (Or.inl ⟨by rfl, ?_⟩) HH.out ?_
  rotate_left
  · intro w hSw; go_simp; try with_reducible rfl
  change wpAnyH _ _ _ _ _ _ _ (Act.put _ (some 56) _) _
  simp only [Act.put, List.setIfInBounds_toArray, List.set_cons_zero, List.set_cons_succ]
  refine wpAnyH_take (i := 13) (v := ?_) rfl (by kernel_rfl) (by kernel_rfl) (by kernel_rfl) (fun _ _ _ h => h) (Or.inl ⟨by rfl, ?_⟩) HH.out ?_
  rotate_left
  · intro w hSw; go_simp; try with_reducible rfl
  change wpAnyH _ _ _ _ _ _ _ (Act.put _ (some 57) _) _
  simp only [Act.put, List.setIfInBounds_toArray, List.set_cons_zero, List.set_cons_succ]
  refine wpAnyH_take (i := 14) rfl (by kernel_rfl) (by kernel_rfl) (by kernel_rfl) (fun _ _ _ h => h) (yieldsIf_load1 (by rfl) _ _ rfl _ _ rfl oneN _ (fun w hSw => by rw [(X4.bF.ext (hW0.trans hSw)).cell (by omega), hsd])) HH.out ?_
  change wpAnyH _ _ _ _ _ _ _ (Act.put _ (some 58) _) _
  simp only [Act.put, List.setIfInBounds_toArray, List.set_cons_zero, List.set_cons_succ]
  refine wpAnyH_take (i := 15) (v := ?_) rfl (by kernel_rfl) (by kernel_rfl) (by kernel_rfl) (fun _ _ _ h => h) (Or.inl ⟨by rfl, ?_⟩) HH.out ?_
  rotate_left
  · intro w hSw; go_simp; try with_reducible rfl
  change wpAnyH _ _ _ _ _ _ _ (Act.put _ (some 59) _) _
  simp only [Act.put, List.setIfInBounds_toArray, List.set_cons_zero, List.set_cons_succ]
  refine wpAnyH_take (i := 16) (v := ?_) rfl (by kernel_rfl) (by kernel_rfl) (by kernel_rfl) (fun _ _ _ h => h) (Or.inl ⟨by rfl, ?_⟩) HH.out ?_
  rotate_left
  · intro w hSw; go_simp; try with_reducible rfl
  change wpAnyH _ _ _ _ _ _ _ (Act.put _ (some 60) _) _
  simp only [Act.put, List.setIfInBounds_toArray, List.set_cons_zero, List.set_cons_succ]
  refine wpAnyH_take (i := 17) (v := ?_) rfl (by kernel_rfl) (by kernel_rfl) (by kernel_rfl) (fun _ _ _ h => h) (Or.inl ⟨by rfl, ?_⟩) HH.out ?_
  rotate_left
  · intro w hSw; go_simp; try with_reducible rfl
  change wpAnyH _ _ _ _ _ _ _ (Act.put _ (some 61) _) _
  simp only [Act.put, List.setIfInBounds_toArray, List.set_cons_zero, List.set_cons_succ]
  refine wpAnyH_take (i := 18) (v := ?_) rfl (by kernel_rfl) (by kernel_rfl) (by kernel_rfl) (fun _ _ _ h => h) (Or.inl ⟨by rfl, ?_⟩) HH.out ?_
  rotate_left
  · intro w hSw; go_simp; try with_reducible rfl
  change wpAnyH _ _ _ _ _ _ _ (Act.put _ (some 62) _) _
  simp only [Act.put, List.setIfInBounds_toArray, List.set_cons_zero, List.set_cons_succ]
  refine wpAnyH_take (i := 19) (v := ?_) rfl (by kernel_rfl) (by kernel_rfl) (by kernel_rfl) (fun _ _ _ h => h) (Or.inl ⟨by rfl, ?_⟩) HH.out ?_
  rotate_left
  · intro w hSw; go_simp; try with_reducible rfl
  change wpAnyH _ _ _ _ _ _ _ (Act.put _ (some 12) _) _
  simp only [Act.put, List.setIfInBounds_toArray, List.set_cons_zero, List.set_cons_succ]
  refine wpAnyH_done (by kernel_rfl) ?_ _
  have X5 := X4.ext (hW0.trans HH.out)
  have hr5 := hr3.ext (hW0.trans HH.out)
  have HN5 := fun W' (hW : Ext _ W') => HN4 W' ((hW0.trans HH.out).trans hW)
  have E5 := E4.trans (hW0.trans HH.out)
  have EE5 := EE4.trans (hW0.trans HH.out)
  clear HH hW0 HN4 hr3 hr2 X4 E4 E3 e1 EE4
  have HT : Hid (f.stack.reverse.take m = (f.stack.drop T).reverse) := by
    rw [← hm.out]
    simp [List.take_reverse, show f.stack.length - (f.stack.length - T) = T by omega]
    try exact trivial
  have hTv : T = 2 := by rw [← hTT.out]; rfl
  obtain ⟨v0, hv0, hn0⟩ := HAg 0 (by omega)
  obtain ⟨v1, hv1, hn1⟩ := HAg 1 (by omega)
  have bA1 : 1 < T := by omega
  obtain ⟨zb, hzb⟩ : ∃ b, Hid (decide (f.arg 1 = 0) = b) := ⟨_, rfl⟩
  have hzb2 : zb = true := by rw [← hzb.out]; exact decide_eq_true harg
  have bA0 : 0 < T := by omega
  have z0i : (0 : Int) < (T : Int) := by omega
  have z1i : T = 2 → (1 : Int) < (T : Int) := fun q => by omega
  clear HAg
  have z1j := z1i hTv
  clear z1i hTv
  have HZ := fun W' (hW : Ext _ W') => nIsZero O _ _ W' (hn1.ext hW)
  rw [hzb.out, hzb2] at HZ
  clear hzb hzb2
  go_upto_region 9 with (first | ((with_reducible (refine Veil.out ?_; apply wl_loadC onet96o)); (case hw => rfl); (case hx => rfl); (case hc => exact ((bA.ext (by (repeat (first | with_reducible exact Ext.refl _ | with_reducible assumption | refine Ext.trans ?_ (by with_reducible assumption) | refine Ext.alloc ?_ _ _ | refine Ext.drew ?_ | refine Ext.drewN ?_ _)))).cell (by omega)).trans (congrArg some hv1.out))) | (go_at_call 88; refine (HZ _ (by (repeat (first | with_reducible exact Ext.refl _ | with_reducible assumption | refine Ext.trans ?_ (by with_reducible assumption) | refine Ext.alloc ?_ _ _ | refine Ext.drew ?_ | refine Ext.drewN ?_ _)))).mono ?_; rintro e w8 ⟨rfl, hdr⟩; have he8 := drew_ext hdr; clear hdr))
  go_upto_region 25 with (go_at_call 162; refine (HV _ _ (E5.trans (by (repeat (first | with_reducible exact Ext.refl _ | with_reducible assumption | refine Ext.trans ?_ (by with_reducible assumption) | refine Ext.alloc ?_ _ _ | refine Ext.drew ?_ | refine Ext.drewN ?_ _)))) (HN5 _ (by (repeat (first | with_reducible exact Ext.refl _ | with_reducible assumption | refine Ext.trans ?_ (by with_reducible assumption) | refine Ext.alloc ?_ _ _ | refine Ext.drew ?_ | refine Ext.drewN ?_ _))))).mono ?_; rintro e w9 ⟨rfl, he9⟩)
  have X6 := X5.ext (show Ext _ w9 by (repeat (first | with_reducible exact Ext.refl _ | with_reducible assumption | refine Ext.trans ?_ (by with_reducible assumption) | refine Ext.alloc ?_ _ _ | refine Ext.drew ?_ | refine Ext.drewN ?_ _)))
  have hr7 := hr5.ext (show Ext _ w9 by (repeat (first | with_reducible exact Ext.refl _ | with_reducible assumption | refine Ext.trans ?_ (by with_reducible assumption) | refine Ext.alloc ?_ _ _ | refine Ext.drew ?_ | refine Ext.drewN ?_ _)))
  have hv8' : NumS O w9 (.slice os m m) (f.stack.drop T).reverse := by
    have k := X6.fc.stack
    rw [hsd] at k
    have := NumS.cut k m (by rw [List.length_reverse]; exact hm2)
    rwa [HT.out] at this
  have E6 := E5.trans (show Ext _ w9 by (repeat (first | with_reducible exact Ext.refl _ | with_reducible assumption | refine Ext.trans ?_ (by with_reducible assumption) | refine Ext.alloc ?_ _ _ | refine Ext.drew ?_ | refine Ext.drewN ?_ _)))
  go_upto_region 26 with ((with_reducible (refine Veil.out ?_; apply wl_store1 oneN)); (case hx => rfl); (case hy => rfl); (case h1 => rfl); (case hB => exact X6.bF); (case ho => omega); rintro W2 hB2 hm2')
  have X8 := X6.putStack hv8' hm2' hB2 hok1
  have hr8 := hr7.keep hm2' X6.hsF
  go_wp2_with ((with_reducible (refine Veil.out ?_; apply wl_store1 onet96o)); (case hx => rfl); (case hy => rfl); (case h1 => exact hr8.one); (case hB => exact X8.bF); (case ho => omega); rintro W9 hB9 hm9)
  go_end0
  have hfin : f.settle T [] 1 = { f with stack := f.stack.drop T, pc := f.pc + (1 + im) } := by unfold AFrame.settle; rw [← him2.out]; rfl
  rw [hfin] at hok' ⊢
  refine ⟨rfl, _, X8.putPc hr8 hm9 hB9 hok', ?_, fun i h8 h3 => by rw [updv_ne _ _ h3, updv_ne _ _ h8]⟩
  exact (E6.mod _).trans (hm2'.trans hm9)
end
end Go.Proofs.YgvahwGreat
