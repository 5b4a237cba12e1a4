import Derived.Test.YgvahwGreatYk
import Derived.Test.YgvahwGreatYu2
namespace Go.Proofs.YgvahwGreat
open Go.RowKit
set_option linter.unusedSimpArgs false
section
variable {kk : Nat → Value} {O TM TL : Nat → Prop} {w : World} {Y F q n : Nat} {tF : TypeId} {c d : Nat → Value} {W : YW} {start : List (Nat × Nat × Nat)} {st : ASt} {f : AFrame}
set_option maxRecDepth 100000 in
set_option maxHeartbeats 6400000 in
theorem xPlainL (hX : YX kk O TM TL w Y F q n tF c d W start st f) (o : Nat) (h160 : 160 ≤ o) (h164 : o ≤ 164) (hg : givesA o = 0) (hT : takesA o ≤ f.stack.length) (W' : YW) (st' : ASt) (HV : ∀ W1 vg, Ext w W1 → NumL O W1 vg ((List.range (takesA o)).map f.arg) → Calls Hvah.prog 162 #[.pointer (some ⟨Y, 0, none⟩), .pointer (some ⟨F, q, none⟩), .int .u8 o, vg] W1 fun e w' => ∃ O' TL' c', e = .returned (.bool true) ∧ YX kk O' TM TL' w' Y F q n tF c' d W' start st' f ∧ (∀ b, O b → O' b) ∧ (∀ b, b < W1.heap.size → O' b → O b) ∧ (∀ b, TL' b → TL b ∨ W1.heap.size ≤ b) ∧ Mod (fun b => b = Y ∨ TL b) W1 w') (hok1 : FOK { f with stack := f.stack.drop (takesA o) }) (hok' : FOK (f.settle (takesA o) [] 1)) (him : immA o = 0) : Calls Hvah.prog 76 #[.pointer (some ⟨Y, 0, none⟩), .pointer (some ⟨F, q, none⟩), .int .u8 o] w fun e w' => e = .returned (.tuple #[]) ∧ ∃ O' TL' c' d', YX kk O' TM TL' w' Y F q n tF c' d' W' start st' (f.settle (takesA o) [] 1) ∧ (∀ b, O b → O' b) ∧ (∀ b, b < w.heap.size → O' b → O b) ∧ (∀ b, TL' b → TL b ∨ w.heap.size ≤ b) ∧ Mod (fun b => b = Y ∨ b = F ∨ TL b) w w' ∧ (∀ i, i ≠ q + 8 → i ≠ q + 3 → d' i = d i) := by
  have ho : o < 256 := by omega
  have hO := hX.small
  have hq := hX.hq
  have hYl := hX.bY.lt
  have hsl := hX.ok.sLen
  have hsli : (f.stack.length : Int) ≤ 64 := by omega
  have hdp : dl f.pc ≤ 2000 := Nat.le_trans (dl_u64 _ (by have := hX.ok.pc; omega)) (by decide)
  obtain ⟨os, cs, hsd, hs1⟩ := NumS.slice hX.fc.stack
  rw [List.length_reverse] at hsd
  have hsc : f.stack.length ≤ cs := by
    obtain ⟨o2, cap2, h1, h2, _⟩ := hX.fc.stack
    rw [hsd] at h1
    injection h1 with _ _ h1
    rw [h1]; simpa using h2
  have hIm : immA o ≤ 32 := by unfold immA; split <;> omega
  have HAr := yArity o ho
  have HIm := fun W1 => oImm o W1 ho
  obtain ⟨im, him2⟩ : ∃ x, Hid (immA o = x) := ⟨_, rfl⟩
  obtain ⟨T, hTT⟩ : ∃ x, Hid (takesA o = x) := ⟨_, rfl⟩
  have HTT : Hid (T = T) := rfl
  rw [him2.out] at HIm hIm
  rw [hTT.out] at hT HAr HV hok' hok1 ⊢
  rw [hg] at HAr
  obtain ⟨args, hargs⟩ : ∃ x, Hid ((List.range T).map f.arg = x) := ⟨_, rfl⟩
  have hal : args.length = T := by rw [← hargs.out]; simp
  rw [hargs.out] at HV
  have hT64 : T ≤ 64 := Nat.le_trans hT hsl
  have n86 : ¬ (o : Int) = 86 := by omega
  have n87 : ¬ (o : Int) = 87 := by omega
  have y128 : (128 : Int) ≤ (o : Int) := by omega
  have y144 : (144 : Int) ≤ (o : Int) := by omega
  have n143 : ¬ (o : Int) ≤ 143 := by omega
  have n159 : ¬ (o : Int) ≤ 159 := by omega
  have m86 : ((o : Int) == 86) = false := by simp; omega
  have m87 : ((o : Int) == 87) = false := by simp; omega
  clear hs1 h160 h164
  go_enter Hvah.func76, Hvah.ntmps76
  go_upto_region 1 with (go_at_call 146; refine (HAr _).mono ?_; rintro e w1 ⟨rfl, hww⟩; replace hww := hww.symm; subst hww)
  go_upto_region 2 with ((with_reducible (refine Veil.out ?_; apply wl_makeR under145 el96 T)); (case hl => rfl); (case hc => rfl); (case hn => omega); rintro B W1 e1 b1 g1)
  rw [Nat.mul_one] at b1
  have hBY : ¬ B = Y := by omega
  have hLE : ∀ W', Mod (· = B) W1 W' → Ext w W' := fun W' hm => Ext.trans_mod e1 hm (fun q hq => by have hq2 : q = B := hq; rw [hq2]; exact g1)
  have hXw : ∀ W', Mod (· = B) W1 W' → YX kk (Wd O B) TM TL W' Y F q n tF c d W start st f := fun W' hm => hX.widen0 g1 (hLE W' hm) (Nat.lt_of_lt_of_le b1.lt hm.size)
  go_upto_block 0 with (fail)
  go_cut [] (fun wx => ∃ cA, Blk wx B T 109 cA ∧ Hid (∀ j, j < T → NV (Wd O B) wx (cA j) (f.arg j)) ∧ Mod (· = B) W1 wx)
  case first =>
    go_upto_region 3 with (fail)
    try simp only [Act.put]
    go_loopw [24] (fun iv wr => ∃ (i : Nat) (cA : Nat → Value), iv = .int .i64 (i : Nat) ∧ i ≤ T ∧ Blk wr B T 109 cA ∧ Hid (∀ j, j < i → NV (Wd O B) wr (cA j) (f.arg j)) ∧ Mod (· = B) W1 wr) (fun iv _ => T - (intOf iv).toNat)
    case atStart => exact ⟨0, _, rfl, Nat.zero_le _, b1, (fun j hj => absurd hj (Nat.not_lt_zero _) : ∀ j, j < 0 → _), Mod.refl _ _⟩
    case round =>
      obtain ⟨i, cA, rfl, hi, bA, hdone, hm⟩ := hrel
      rcases Nat.lt_or_ge i T with hlt | hge
      · have z1 : (i : Int) < (T : Int) := by omega
        have z2 : IntKind.i64.wrap ((i : Int) + 1) = ((i + 1 : Nat) : Int) := by rw [IntKind.wrap_i64]; omega
        have HXA := fun W' (hW : Ext wr W') => xArg (((hXw _ hm)).ext hW) i (by omega)
        go_upto_region 6 with (first | (go_at_call 73; refine (HXA _ (by (repeat (first | with_reducible exact Ext.refl _ | with_reducible assumption | refine Ext.trans ?_ (by with_reducible assumption) | refine Ext.alloc ?_ _ _ | refine Ext.drew ?_ | refine Ext.drewN ?_ _)))).mono ?_; rintro e w2 ⟨r2, rfl, hr2, he2⟩) | ((with_reducible (refine Veil.out ?_; apply wl_storeC onet96o)); (case hx => rfl); (case hy => rfl); (case h1 => exact hr2.one); (case hB => exact bA.ext he2); (case hi => exact hlt); rintro W5 b5 m5))
        go_wp2
        go_roundw
        case rel =>
          refine ⟨i + 1, _, rfl, hlt, b5, (fun j hj => ?_ : ∀ j, j < i + 1 → NV (Wd O B) W5 (updv cA i r2 j) (f.arg j)), (hm.trans (he2.mod _)).trans m5⟩
          by_cases e : j = i
          · subst e; rw [updv_same]; exact hr2.keep m5 (fun b hb q => hb (Or.inr q))
          · rw [updv_ne _ _ e]; exact (((hdone.out j (by omega)).ext he2)).keep m5 (fun b hb q => hb (Or.inr q))
        case measure => simp [intOf]; omega
      · have z1 : ¬ (i : Int) < (T : Int) := by omega
        have : i = T := by omega
        subst this
        go_wp2
        go_meet
        case rel => exact ⟨cA, bA, hdone, hm⟩
  case rest =>
  obtain ⟨cA, bA, hdone, hm⟩ := hcut
  obtain ⟨W3, eW3⟩ : ∃ X, X = wc := ⟨_, rfl⟩
  subst eW3
  have E3 := hLE _ hm
  have HN : ∀ W', Ext W3 W' → NumL O W' (.slice (some ⟨B, 0, none⟩) T T) args := fun W' hW => Or.inr ⟨B, T, cA, by rw [hal], by rw [hal]; exact Nat.le_refl _, by omega, by rw [Nat.mul_one]; exact bA.ext hW, fun hb => by have := hO B hb; omega, fun i hi => by
    have hi2 : i < T := by rw [← hal]; exact hi
    have e : args[i] = f.arg i := by
      have : ((List.range T).map f.arg)[i]'(by simpa using hi2) = f.arg i := by simp
      rw [← this]; congr 1; exact hargs.out.symm
    rw [Nat.mul_one, e]
    exact ((hdone.out i hi2).narrow).ext hW⟩
  have hX3 := hX.ext E3
  clear hdone hargs hXw hLE bA hm b1 g1 HAr
  have iw : IntKind.u64.wrap (1 + (im : Int)) = ((1 + im : Nat) : Int) := by rw [IntKind.wrap_u64]; omega
  have iw2 : IntKind.u64.wrap (im : Int) = (im : Int) := by rw [IntKind.wrap_u64]; omega
  go_upto_region 7 with (fail)
  refine w_ext ?_
  rintro W0 hW0
  refine wp_region_held_drew (S := fun w' => Ext W0 w') (by kernel_rfl) (Ext.refl _).drew (fun hHeld => ?_)
  have HH : Hid (Ext W0 _) := hHeld
  clear hHeld
  refine wpAnyH_take (i := 0) (v := ?_) rfl (by kernel_rfl) (by kernel_rfl) (by kernel_rfl) (fun _ _ _ h => h) (Or.inl ⟨by rfl, ?_⟩) HH.out ?_
  rotate_left
  · intro w hSw; go_simp; try with_reducible rfl
  change wpAnyH _ _ _ _ _ _ _ (Act.put _ (some 34) _) _
  simp only [Act.put, List.setIfInBounds_toArray, List.set_cons_zero, List.set_cons_succ]
  refine wpAnyH_take (i := 1) (v := ?_) rfl (by kernel_rfl) (by kernel_rfl) (by kernel_rfl) (fun _ _ _ h => h) (Or.inl ⟨by rfl, ?_⟩) HH.out ?_
  rotate_left
  · intro w hSw; go_simp; try with_reducible rfl
  change wpAnyH _ _ _ _ _ _ _ (Act.put _ (some 35) _) _
  simp only [Act.put, List.setIfInBounds_toArray, List.set_cons_zero, List.set_cons_succ]
  refine wpAnyH_take (i := 2) (v := ?_) rfl (by kernel_rfl) (by kernel_rfl) (by kernel_rfl) (fun _ _ _ h => h) (Or.inl ⟨by rfl, ?_⟩) HH.out ?_
  rotate_left
  · intro w hSw; go_simp; try with_reducible rfl
  change wpAnyH _ _ _ _ _ _ _ (Act.put _ (some 36) _) _
  simp only [Act.put, List.setIfInBounds_toArray, List.set_cons_zero, List.set_cons_succ]
  refine wpAnyH_take (i := 3) rfl (by kernel_rfl) (by kernel_rfl) (by kernel_rfl) (fun _ _ _ h => h) (yieldsIf_load1 (by rfl) _ _ rfl _ _ rfl onet96o _ (fun w hSw => (hX3.bF.ext (hW0.trans hSw)).cell (by omega))) HH.out ?_
  change wpAnyH _ _ _ _ _ _ _ (Act.put _ (some 37) _) _
  simp only [Act.put, List.setIfInBounds_toArray, List.set_cons_zero, List.set_cons_succ]
  refine wpAnyH_take (i := 4) (v := ?_) rfl (by kernel_rfl) (by kernel_rfl) (by kernel_rfl) (fun _ _ _ h => h) (Or.inl ⟨by rfl, ?_⟩) HH.out ?_
  rotate_left
  · intro w hSw; go_simp; try with_reducible rfl
  change wpAnyH _ _ _ _ _ _ _ (Act.put _ (some 38) _) _
  simp only [Act.put, List.setIfInBounds_toArray, List.set_cons_zero, List.set_cons_succ]
  refine wpAnyH_ready (rs := [5]) (by kernel_rfl) (by simp) ?_
  refine AllReadyH.cons rfl (fun K hK => ?_) AllReadyH.nil
  go_simp
  (go_at_call 160; refine (HIm _).mono ?_; rintro e w1 ⟨rfl, hww⟩; replace hww := hww.symm; subst hww)
  refine hK.out _ _ ?_ (fun hHeld => ?_)
  · first | exact HH.out.trans hmY | exact HH.out.trans he | exact HH.out
  clear hK K HH
  have HH : Hid (Ext W0 _) := hHeld
  clear hHeld
  refine wpAnyH_take (i := 6) (v := ?_) rfl (by kernel_rfl) (by kernel_rfl) (by kernel_rfl) (fun _ _ _ h => h) (Or.inl ⟨by rfl, ?_⟩) HH.out ?_
  rotate_left
  · intro w hSw; go_simp; try with_reducible rfl
  change wpAnyH _ _ _ _ _ _ _ (Act.put _ (some 40) _) _
  simp only [Act.put, List.setIfInBounds_toArray, List.set_cons_zero, List.set_cons_succ]
  refine wpAnyH_take (i := 7) (v := ?_) rfl (by kernel_rfl) (by kernel_rfl) (by kernel_rfl) (fun _ _ _ h => h) (Or.inl ⟨by rfl, ?_⟩) HH.out ?_
  rotate_left
  · intro w hSw; go_simp; try with_reducible rfl
  change wpAnyH _ _ _ _ _ _ _ (Act.put _ (some 41) _) _
  simp only [Act.put, List.setIfInBounds_toArray, List.set_cons_zero, List.set_cons_succ]
  refine wpAnyH_ready (rs := [8]) (by kernel_rfl) (by simp) ?_
  refine AllReadyH.cons rfl (fun K hK => ?_) AllReadyH.nil
  go_simp
  (go_at_call 42; refine (nNum O (1 + im) _ (hX3.small.ext (by (repeat (first | with_reducible exact Ext.refl _ | with_reducible assumption | refine Ext.trans ?_ (by with_reducible assumption) | refine Ext.alloc ?_ _ _ | refine Ext.drew ?_ | refine Ext.drewN ?_ _)))) (by omega)).mono ?_; rintro e w4 ⟨r1, rfl, hr1, he⟩)
  refine hK.out _ _ ?_ (fun hHeld => ?_)
  · first | exact HH.out.trans hmY | exact HH.out.trans he | exact HH.out
  clear hK K HH
  have HH : Hid (Ext W0 _) := hHeld
  clear hHeld
  refine wpAnyH_ready (rs := [9]) (by kernel_rfl) (by simp) ?_
  refine AllReadyH.cons rfl (fun K hK => ?_) AllReadyH.nil
  go_simp
  (go_at_call 44; refine (nAdd O _ _ _ _ _ (hX3.small.ext (by (repeat (first | with_reducible exact Ext.refl _ | with_reducible assumption | refine Ext.trans ?_ (by with_reducible assumption) | refine Ext.alloc ?_ _ _ | refine Ext.drew ?_ | refine Ext.drewN ?_ _)))) (hX3.fc.pc.ext (by (repeat (first | with_reducible exact Ext.refl _ | with_reducible assumption | refine Ext.trans ?_ (by with_reducible assumption) | refine Ext.alloc ?_ _ _ | refine Ext.drew ?_ | refine Ext.drewN ?_ _)))) (hr1.ext (by (repeat (first | with_reducible exact Ext.refl _ | with_reducible assumption | refine Ext.trans ?_ (by with_reducible assumption) | refine Ext.alloc ?_ _ _ | refine Ext.drew ?_ | refine Ext.drewN ?_ _)))) hdp (Nat.le_trans (dl_u64 _ (by omega)) (by decide))).mono ?_; rintro e w5 ⟨r2, rfl, hr2, he⟩)
  refine hK.out _ _ ?_ (fun hHeld => ?_)
  · first | exact HH.out.trans hmY | exact HH.out.trans he | exact HH.out
  clear hK K HH
  have HH : Hid (Ext W0 _) := hHeld
  clear hHeld
  refine wpAnyH_take (i := 10) (v := ?_) rfl (by kernel_rfl) (by kernel_rfl) (by kernel_rfl) (fun _ _ _ h => h) (Or.inl ⟨by rfl, ?_⟩) HH.out ?_
  rotate_left
  · intro w hSw; go_simp; try with_reducible rfl
  change wpAnyH _ _ _ _ _ _ _ (Act.put _ (some 11) _) _
  simp only [Act.put, List.setIfInBounds_toArray, List.set_cons_zero, List.set_cons_succ]
  refine wpAnyH_done (by kernel_rfl) ?_ _
  have X4 := hX3.ext (hW0.trans HH.out)
  have hr3 := hr2
  have HN4 := fun W' (hW : Ext _ W') => HN W' ((hW0.trans HH.out).trans hW)
  have E4 := E3.trans (hW0.trans HH.out)
  have EE4 := hW0.trans HH.out
  clear HH hW0 HN hr1 hX3
  have i1 : (f.stack.length : Int) - (T : Int) = ((f.stack.length - T : Nat) : Int) := by omega
  have i3 : ((f.stack.length - T : Nat) : Int) ≤ 64 := by omega
  have i4 : ((f.stack.length - T : Nat) : Int) ≤ cs := by omega
  obtain ⟨m, hm⟩ : ∃ m, Hid (f.stack.length - T = m) := ⟨_, rfl⟩
  have hm2 : m ≤ f.stack.length := by have := hm.out; omega
  rw [hm.out] at i1 i3 i4
  have iwm : IntKind.i64.wrap ((f.stack.length : Int) - (T : Int)) = (m : Int) := by rw [i1, IntKind.wrap_i64]; omega
  have iwm2 : IntKind.i64.wrap (m : Int) = (m : Int) := by rw [IntKind.wrap_i64]; omega
  have i5 : ¬ ((m : Int) < 0) := by omega
  have i7 : (0 : Int) ≤ (m : Int) := by omega
  have i6 : m ≤ cs := by omega
  go_upto_region 8 with (fail)
  refine w_ext ?_
  rintro W0 hW0
  refine wp_region_held_drew (S := fun w' => Ext W0 w') (by kernel_rfl) (Ext.refl _).drew (fun hHeld => ?_)
  have HH : Hid (Ext W0 _) := hHeld
  clear hHeld
  refine wpAnyH_take (i := 0) (v := ?_) rfl (by kernel_rfl) (by kernel_rfl) (by kernel_rfl) (fun _ _ _ h => h) (Or.inl ⟨by rfl, ?_⟩) HH.out ?_
  rotate_left
  · intro w hSw; go_simp; try with_reducible rfl
  change wpAnyH _ _ _ _ _ _ _ (Act.put _ (some 44) _) _
  simp only [Act.put, List.setIfInBounds_toArray, List.set_cons_zero, List.set_cons_succ]
  refine wpAnyH_take (i := 1) (v := ?_) rfl (by kernel_rfl) (by kernel_rfl) (by kernel_rfl) (fun _ _ _ h => h) (Or.inl ⟨by rfl, ?_⟩) HH.out ?_
  rotate_left
  · intro w hSw; go_simp; try with_reducible rfl
  change wpAnyH _ _ _ _ _ _ _ (Act.put _ (some 45) _) _
  simp only [Act.put, List.setIfInBounds_toArray, List.set_cons_zero, List.set_cons_succ]
  refine wpAnyH_take (i := 2) (v := ?_) rfl (by kernel_rfl) (by kernel_rfl) (by kernel_rfl) (fun _ _ _ h => h) (Or.inl ⟨by rfl, ?_⟩) HH.out ?_
  rotate_left
  · intro w hSw; go_simp; try with_reducible rfl
  change wpAnyH _ _ _ _ _ _ _ (Act.put _ (some 46) _) _
  simp only [Act.put, List.setIfInBounds_toArray, List.set_cons_zero, List.set_cons_succ]
  refine wpAnyH_take (i := 3) rfl (by kernel_rfl) (by kernel_rfl) (by kernel_rfl) (fun _ _ _ h => h) (yieldsIf_load1 (by rfl) _ _ rfl _ _ rfl oneN _ (fun w hSw => by rw [(X4.bF.ext (hW0.trans hSw)).cell (by omega), hsd])) HH.out ?_
  change wpAnyH _ _ _ _ _ _ _ (Act.put _ (some 47) _) _
  simp only [Act.put, List.setIfInBounds_toArray, List.set_cons_zero, List.set_cons_succ]
  refine wpAnyH_take (i := 4) (v := ?_) rfl (by kernel_rfl) (by kernel_rfl) (by kernel_rfl) (fun _ _ _ h => h) (Or.inl ⟨by rfl, ?_⟩) HH.out ?_
  rotate_left
  · intro w hSw; go_simp; try with_reducible rfl
  change wpAnyH _ _ _ _ _ _ _ (Act.put _ (some 48) _) _
  simp only [Act.put, List.setIfInBounds_toArray, List.set_cons_zero, List.set_cons_succ]
  refine wpAnyH_take (i := 5) (v := ?_) rfl (by kernel_rfl) (by kernel_rfl) (by kernel_rfl) (fun _ _ _ h => h) (Or.inl ⟨by rfl, ?_⟩) HH.out ?_
  rotate_left
  · intro w hSw; go_simp; try with_reducible rfl
  change wpAnyH _ _ _ _ _ _ _ (Act.put _ (some 49) _) _
  simp only [Act.put, List.setIfInBounds_toArray, List.set_cons_zero, List.set_cons_succ]
  refine wpAnyH_take (i := 6) (v := ?_) rfl (by kernel_rfl) (by kernel_rfl) (by kernel_rfl) (fun _ _ _ h => h) (Or.inl ⟨by rfl, ?_⟩) HH.out ?_
  rotate_left
  · intro w hSw; go_simp; try with_reducible rfl
  change wpAnyH _ _ _ _ _ _ _ (Act.put _ (some 50) _) _
  simp only [Act.put, List.setIfInBounds_toArray, List.set_cons_zero, List.set_cons_succ]
  refine wpAnyH_take (i := 7) rfl (by kernel_rfl) (by kernel_rfl) (by kernel_rfl) (fun _ _ _ h => h) (yieldsIf_load1 (by rfl) _ _ rfl _ _ rfl oneN _ (fun w hSw => by rw [(X4.bF.ext (hW0.trans hSw)).cell (by omega), hsd])) HH.out ?_
  change wpAnyH _ _ _ _ _ _ _ (Act.put _ (some 51) _) _
  simp only [Act.put, List.setIfInBounds_toArray, List.set_cons_zero, List.set_cons_succ]
  refine wpAnyH_take (i := 8) (v := ?_) rfl (by kernel_rfl) (by kernel_rfl) (by kernel_rfl) (fun _ _ _ h => h) (Or.inl ⟨by rfl, ?_⟩) HH.out ?_
  rotate_left
  · intro w hSw; go_simp; try with_reducible rfl
  change wpAnyH _ _ _ _ _ _ _ (Act.put _ (some 52) _) _
  simp only [Act.put, List.setIfInBounds_toArray, List.set_cons_zero, List.set_cons_succ]
  refine wpAnyH_take (i := 9) (v := ?_) rfl (by kernel_rfl) (by kernel_rfl) (by kernel_rfl) (fun _ _ _ h => h) (Or.inl ⟨by rfl, ?_⟩) HH.out ?_
  rotate_left
  · intro w hSw; go_simp; try with_reducible rfl
  change wpAnyH _ _ _ _ _ _ _ (Act.put _ (some 53) _) _
  simp only [Act.put, List.setIfInBounds_toArray, List.set_cons_zero, List.set_cons_succ]
  refine wpAnyH_take (i := 10) (v := ?_) rfl (by kernel_rfl) (by kernel_rfl) (by kernel_rfl) (fun _ _ _ h => h) (Or.inl ⟨by rfl, ?_⟩) HH.out ?_
  rotate_left
  · intro w hSw; go_simp; try with_reducible rfl
  change wpAnyH _ _ _ _ _ _ _ (Act.put _ (some 54) _) _
  simp only [Act.put, List.setIfInBounds_toArray, List.set_cons_zero, List.set_cons_succ]
  refine wpAnyH_take (i := 11) (v := ?_) rfl (by kernel_rfl) (by kernel_rfl) (by kernel_rfl) (fun _ _ _ h => h) (Or.inl ⟨by rfl, ?_⟩) HH.out ?_
  rotate_left
  · intro w hSw; go_simp; try with_reducible rfl
  change wpAnyH _ _ _ _ _ _ _ (Act.put _ (some 55) _) _
  simp only [Act.put, List.setIfInBounds_toArray, List.set_cons_zero, List.set_cons_succ]
  refine wpAnyH_take (i := 12) (v := ?_) rfl (by kernel_rfl) (by kernel_rfl) (by kernel_rfl) (fun _ _ _ h => h) (Or.inl ⟨by rfl, ?_⟩) HH.out ?_
  rotate_left
  · intro w hSw; go_simp; try with_reducible rfl
  change wpAnyH _ _ _ _ _ _ _ (Act.put _ (some 56) _) _
  simp only [Act.put, List.setIfInBounds_toArray, List.set_cons_zero, List.set_cons_succ]
  refine wpAnyH_take (i := 13) (v := ?_) rfl (by kernel_rfl) (by kernel_rfl) (by kernel_rfl) (fun _ _ _ h => h) (Or.inl ⟨by rfl, ?_⟩) HH.out ?_
  rotate_left
  · intro w hSw; go_simp; try with_reducible rfl
  change wpAnyH _ _ _ _ _ _ _ (Act.put _ (some 57) _) _
  simp only [Act.put, List.setIfInBounds_toArray, List.set_cons_zero, List.set_cons_succ]
  refine wpAnyH_take (i := 14) rfl (by kernel_rfl) (by kernel_rfl) (by kernel_rfl) (fun _ _ _ h => h) (yieldsIf_load1 (by rfl) _ _ rfl _ _ rfl oneN _ (fun w hSw => by rw [(X4.bF.ext (hW0.trans hSw)).cell (by omega), hsd])) HH.out ?_
  change wpAnyH _ _ _ _ _ _ _ (Act.put _ (some 58) _) _
  simp only [Act.put, List.setIfInBounds_toArray, List.set_cons_zero, List.set_cons_succ]
  refine wpAnyH_take (i := 15) (v := ?_) rfl (by kernel_rfl) (by kernel_rfl) (by kernel_rfl) (fun _ _ _ h => h) (Or.inl ⟨by rfl, ?_⟩) HH.out ?_
  rotate_left
  · intro w hSw; go_simp; try with_reducible rfl
  change wpAnyH _ _ _ _ _ _ _ (Act.put _ (some 59) _) _
  simp only [Act.put, List.setIfInBounds_toArray, List.set_cons_zero, List.set_cons_succ]
  refine wpAnyH_take (i := 16) (v := ?_) rfl (by kernel_rfl) (by kernel_rfl) (by kernel_rfl) (fun _ _ _ h => h) (Or.inl ⟨by rfl, ?_⟩) HH.out ?_
  rotate_left
  · intro w hSw; go_simp; try with_reducible rfl
  change wpAnyH _ _ _ _ _ _ _ (Act.put _ (some 60) _) _
  simp only [Act.put, List.setIfInBounds_toArray, List.set_cons_zero, List.set_cons_succ]
  refine wpAnyH_take (i := 17) (v := ?_) rfl (by kernel_rfl) (by kernel_rfl) (by kernel_rfl) (fun _ _ _ h => h) (Or.inl ⟨by rfl, ?_⟩) HH.out ?_
  rotate_left
  · intro w hSw; go_simp; try with_reducible rfl
  change wpAnyH _ _ _ _ _ _ _ (Act.put _ (some 61) _) _
  simp only [Act.put, List.setIfInBounds_toArray, List.set_cons_zero, List.set_cons_succ]
  refine wpAnyH_take (i := 18) (v := ?_) rfl (by kernel_rfl) (by kernel_rfl) (by kernel_rfl) (fun _ _ _ h => h) (Or.inl ⟨by rfl, ?_⟩) HH.out ?_
  rotate_left
  · intro w hSw; go_simp; try with_reducible rfl
  change wpAnyH _ _ _ _ _ _ _ (Act.put _ (some 62) _) _
  simp only [Act.put, List.setIfInBounds_toArray, List.set_cons_zero, List.set_cons_succ]
  refine wpAnyH_take (i := 19) (v := ?_) rfl (by kernel_rfl) (by kernel_rfl) (by kernel_rfl) (fun _ _ _ h => h) (Or.inl ⟨by rfl, ?_⟩) HH.out ?_
  rotate_left
  · intro w hSw; go_simp; try with_reducible rfl
  change wpAnyH _ _ _ _ _ _ _ (Act.put _ (some 12) _) _
  simp only [Act.put, List.setIfInBounds_toArray, List.set_cons_zero, List.set_cons_succ]
  refine wpAnyH_done (by kernel_rfl) ?_ _
  have X5 := X4.ext (hW0.trans HH.out)
  have hr5 := hr3.ext (hW0.trans HH.out)
  have HN5 := fun W' (hW : Ext _ W') => HN4 W' ((hW0.trans HH.out).trans hW)
  have E5 := E4.trans (hW0.trans HH.out)
  have EE5 := EE4.trans (hW0.trans HH.out)
  clear HH hW0 HN4 hr3 hr2 X4 E4 E3 e1 EE4
  have HT : Hid (f.stack.reverse.take m = (f.stack.drop T).reverse) := by
    rw [← hm.out]
    simp [List.take_reverse, show f.stack.length - (f.stack.length - T) = T by omega]
    try exact trivial
  go_upto_region 9 with (fail)
  go_upto_region 25 with (go_at_call 162; refine (HV _ _ E5 (HN5 _ (Ext.refl _))).mono ?_; rintro e w6 ⟨O6, TL6, c6, rfl, X6, hO61, hO62, hT6, m6⟩)
  have hYT : ∀ b, ¬ O6 b → ¬ (b = Y ∨ TL b) := fun b hb q => q.elim (fun e => hb (hO61 b (e ▸ X5.oY))) (fun q => hb (hO61 b (X5.tl b q).1))
  have hr7 := (hr5.reo hO62).keep m6 hYT
  have s5 := E5.size
  have hv8' : NumS O6 w6 (.slice os m m) (f.stack.drop T).reverse := by
    have k := X6.fc.stack
    rw [hsd] at k
    have := NumS.cut k m (by rw [List.length_reverse]; exact hm2)
    rwa [HT.out] at this
  clear HV HN5
  go_upto_region 26 with ((with_reducible (refine Veil.out ?_; apply wl_store1 oneN)); (case hx => rfl); (case hy => rfl); (case h1 => rfl); (case hB => exact X6.bF); (case ho => omega); rintro W2 hB2 hm2')
  have X8 := X6.putStack hv8' hm2' hB2 hok1
  have hr8 := hr7.keep hm2' X6.hsF
  go_wp2_with ((with_reducible (refine Veil.out ?_; apply wl_store1 onet96o)); (case hx => rfl); (case hy => rfl); (case h1 => exact hr8.one); (case hB => exact X8.bF); (case ho => omega); rintro W9 hB9 hm9)
  go_end0
  have hfin : f.settle T [] 1 = { f with stack := f.stack.drop T, pc := f.pc + (1 + im) } := by unfold AFrame.settle; rw [← him2.out, him]; rfl
  rw [hfin] at hok' ⊢
  refine ⟨rfl, O6, TL6, c6, _, X8.putPc hr8 hm9 hB9 hok', hO61, fun b hb => hO62 b (Nat.lt_of_lt_of_le hb s5), fun b hb => (hT6 b hb).imp id (fun k => Nat.le_trans s5 k), ?_, fun i h8 h3 => by rw [updv_ne _ _ h3, updv_ne _ _ h8]⟩
  exact ((E5.mod _).trans (m6.sub (fun b hb => hb.elim Or.inl (fun q => Or.inr (Or.inr q))))).trans ((hm2'.trans hm9).sub (fun b hb => Or.inr (Or.inl hb)))
end
section
variable {O TL : Nat → Prop} {w : World} {Y F n : Nat} {c d : Nat → Value} {W : YW} {start : List (Nat × Nat × Nat)} {st : ASt} {tot : Nat} {x : YFrm} {r : List YFrm}
theorem log_tk (k : Nat) (hk : k ≤ 4) : takesA (160 + k) = 2 + k ∧ givesA (160 + k) = 0 ∧ immA (160 + k) = 0 := by
  match k, hk with
  | 0, _ => exact ⟨rfl, rfl, rfl⟩
  | 1, _ => exact ⟨rfl, rfl, rfl⟩
  | 2, _ => exact ⟨rfl, rfl, rfl⟩
  | 3, _ => exact ⟨rfl, rfl, rfl⟩
  | 4, _ => exact ⟨rfl, rfl, rfl⟩
theorem log_plain (st : ASt) (f : AFrame) (rest : List AFrame) (k : Nat) (hk : k ≤ 4) : st.plain f rest (160 + k) = { st with now := st.now.putLog ⟨f.self, (f.stack.drop 2).take k, readA f.mem (f.arg 0) (f.arg 1)⟩, frames := f.settle (2 + k) [] 1 :: rest } := by
  match k, hk with
  | 0, _ => unfold ASt.plain ASt.effectMem ASt.effectWorld; simp [show givesA 160 = 0 from rfl, show takesA 160 = 2 from rfl, show immA 160 = 0 from rfl]
  | 1, _ => unfold ASt.plain ASt.effectMem ASt.effectWorld; simp [show givesA 161 = 0 from rfl, show takesA 161 = 3 from rfl, show immA 161 = 0 from rfl]
  | 2, _ => unfold ASt.plain ASt.effectMem ASt.effectWorld; simp [show givesA 162 = 0 from rfl, show takesA 162 = 4 from rfl, show immA 162 = 0 from rfl]
  | 3, _ => unfold ASt.plain ASt.effectMem ASt.effectWorld; simp [show givesA 163 = 0 from rfl, show takesA 163 = 5 from rfl, show immA 163 = 0 from rfl]
  | 4, _ => unfold ASt.plain ASt.effectMem ASt.effectWorld; simp [show givesA 164 = 0 from rfl, show takesA 164 = 6 from rfl, show immA 164 = 0 from rfl]
theorem zpLog (h : YZ O TL w Y F n c d W start st tot (x :: r)) (k : Nat) (hk : k ≤ 4) (hT : 2 + k ≤ x.f.stack.length) (hb : x.f.arg 1 ≤ 717280) (hl : YLim (W.putLog ⟨x.f.self, (x.f.stack.drop 2).take k, readA x.f.mem (x.f.arg 0) (x.f.arg 1)⟩)) (hok1 : FOK { x.f with stack := x.f.stack.drop (2 + k) }) (hok' : FOK (x.f.settle (2 + k) [] 1)) :
    Calls Hvah.prog 76 #[.pointer (some ⟨Y, 0, none⟩), .pointer (some ⟨F, r.length * 60, none⟩), .int .u8 (160 + k : Nat)] w fun e w' => e = .returned (.tuple #[]) ∧ YPl O TL w w' Y F n (W.putLog ⟨x.f.self, (x.f.stack.drop 2).take k, readA x.f.mem (x.f.arg 0) (x.f.arg 1)⟩) start (st.plain x.f (r.map (·.f)) (160 + k)) tot x r := by
  obtain ⟨t1, t2, t3⟩ := log_tk k hk
  have ea : ((List.range (2 + k)).map x.f.arg).drop 2 = (x.f.stack.drop 2).take k := by
    rw [topics_eq x.f k hT]
    apply List.ext_getElem (by simp)
    intro i h1 h2
    simp
  have e0 : ((List.range (2 + k)).map x.f.arg).getD 0 0 = x.f.arg 0 := by simp [List.getD_eq_getElem?_getD, List.getElem?_range (show 0 < 2 + k by omega)]
  have e1 : ((List.range (2 + k)).map x.f.arg).getD 1 0 = x.f.arg 1 := by simp [List.getD_eq_getElem?_getD, List.getElem?_range (show 1 < 2 + k by omega)]
  have eP : ∀ j, ((List.range (2 + k)).map x.f.arg).getD j 0 < P256 := fun j => by
    rw [List.getD_eq_getElem?_getD]
    by_cases hj : j < 2 + k
    · simp [hj, List.getElem?_range hj]; exact h.top.ok.argLt j
    · rw [List.getElem?_eq_none (by simp; omega)]; decide
  rw [log_plain st x.f _ k hk]
  refine (xPlainL h.top (160 + k) (by omega) (by omega) t2 (by rw [t1]; exact hT) (W.putLog ⟨x.f.self, (x.f.stack.drop 2).take k, readA x.f.mem (x.f.arg 0) (x.f.arg 1)⟩) { st with now := st.now.putLog ⟨x.f.self, (x.f.stack.drop 2).take k, readA x.f.mem (x.f.arg 0) (x.f.arg 1)⟩ } (fun W1 vg e1' hN => ?_) (by rw [t1]; exact hok1) (by rw [t1]; exact hok') t3).mono ?_
  · rw [t1] at hN
    have := yEffLog (h.top.ext e1') hN k hk (160 + k) rfl (by simp) eP (by rw [e1]; exact hb) (by rw [ea, e0, e1]; exact hl)
    rw [ea, e0, e1] at this
    exact this
  · rintro e2 w2 ⟨rfl, O', TL', c', d', hX, k1, k2, k3, m, hd⟩
    rw [t1] at hX
    refine ⟨rfl, O', TL', c', d', _, x.TM, h.back hX ⟨h.wf.accts, h.wf.slots, h.wf.addrs, h.wf.warmS, h.wf.temps, h.wf.tkeys, h.wf.gone⟩ (fun b hb => ⟨k2 b hb, k1 b⟩) (fun _ q => Or.inl q) k3 (m.sub (fun b hb => ?_)) (fun i hi => hd i (by omega) (by omega)) rfl (by rw [YW.putLog_abs, h.now]), fun b hb => ⟨k2 b hb, k1 b⟩, m.sub (fun b hb => ?_)⟩
    · rcases hb with hb | hb | hb
      · exact Or.inl hb
      · exact Or.inr (Or.inl hb)
      · exact Or.inr (Or.inr (Or.inr hb))
    · rcases hb with rfl | rfl | hb
      · exact h.oY
      · exact h.oF
      · exact (h.tl b hb).1
end
end Go.Proofs.YgvahwGreat
