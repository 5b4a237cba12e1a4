import Derived.Test.YgvahwGreatVaP
import Derived.Test.YgvahwGreatRowsK
namespace Go.Proofs.YgvahwGreat
open Go.RowKit
set_option linter.unusedSimpArgs false
theorem el171 : ElT 179 6 #[.int .i32 0, .int .u64 0, .int .u64 0, .int .u64 0, .int .u64 0, .int .i32 0] := ⟨⟨Hvah.t179, .agg #[.int .i32 0, .int .u64 0, .int .u64 0, .int .u64 0, .int .u64 0, .int .i32 0], by kernel_rfl, by kernel_rfl, rfl, by kernel_rfl, by decide +kernel⟩, rfl, by decide⟩
theorem under166s : Hvah.prog.underlying 174 = some (.slice 179) := by kernel_rfl
/-- A key in cells. -/
def SKR (c : Nat → Value) (o : Nat) (x : SK) : Prop := SKC c o x.r x.x x.k ∧ x.x < P256
theorem post_76 {R : Ending → World → Prop} {ac : Act} {w : World} {v : Value} (hv : ac.tmps.getD 2 undef = v) (hdf : ac.defers = []) (h : R (.returned v) w) : bodyPost Hvah.prog Hvah.f84 R .ret ac w := by
  subst hv; exact bodyPost_ret (results_tmp rfl _ _ _) hdf h
theorem KAt.part {c : Nat → Value} {L : List SK} (h : KAt c 0 L) (a n : Nat) : KAt c (a * 6) ((L.drop a).take n) := fun i hi => by
  have h1 : i < L.length - a := by
    rw [List.length_take, List.length_drop] at hi
    omega
  rw [List.getElem_take, List.getElem_drop]
  have := h (a + i) (by omega)
  rw [Nat.zero_add, Nat.add_mul] at this
  exact this
theorem KAt.glue {c c' : Nat → Value} {D M : List SK} {n : Nat} (h : KAt c 0 D) (hl : D.length = n) (hM : KAt c' (n * 6) M) (hc : ∀ q, q < n * 6 → c' q = c q) : KAt c' 0 (D ++ M) := fun i hi => by
  rw [List.length_append] at hi
  by_cases e : i < D.length
  · rw [List.getElem_append_left e]
    obtain ⟨h1, h2⟩ := h i e
    rw [Nat.zero_add] at h1 ⊢
    exact ⟨h1.keep (fun q hq => hc _ (by omega)), h2⟩
  · rw [List.getElem_append_right (by omega)]
    have := hM (i - D.length) (by omega)
    rw [show n * 6 + (i - D.length) * 6 = 0 + i * 6 by omega] at this
    exact this
theorem len_glue {lo wd n p2 : Nat} (h1 : lo < n) (h2 : p2 = lo + 2 * wd) : lo + (min wd (n - lo) + min wd (n - (lo + wd))) = min p2 n := by omega
theorem pass_step {wd f n : Nat} {L D : List SK} {lo : Nat} (hlt : lo < L.length) (hf : L.length - lo ≤ f) (hD : D ++ passL wd f (L.drop lo) = passL wd n L) : ∃ f', L.length - (lo + 2 * wd) ≤ f' ∧ (0 < wd → D ++ mrg ((L.drop lo).take wd) ((L.drop (lo + wd)).take wd) ++ passL wd f' (L.drop (lo + 2 * wd)) = passL wd n L) := by
  obtain ⟨g, rfl⟩ : ∃ g, f = g + 1 := ⟨f - 1, by omega⟩
  have hne : L.drop lo ≠ [] := fun e => by
    have := List.length_drop (i := lo) (l := L)
    rw [e, List.length_nil] at this
    omega
  rw [passL, if_neg hne, List.drop_drop, List.drop_drop] at hD
  rcases Nat.eq_zero_or_pos wd with e | e
  · exact ⟨L.length, by omega, fun q => by omega⟩
  · exact ⟨g, by omega, fun _ => by rw [List.append_assoc]; exact hD⟩
section
variable {T : Nat → Prop} {w : World} {v : Value} {L : List SK}
set_option maxRecDepth 100000 in
set_option maxHeartbeats 6400000 in
theorem vSorted (hT : ∀ b, w.heap.size ≤ b → T b) (h : GRow 179 6 SKR T w v L) (hl : L.length ≤ 100000) : Calls Hvah.prog 84 #[v] w fun e w' => ∃ v' L', e = .returned v' ∧ GRow 179 6 SKR T w' v' L' ∧ L'.Perm L ∧ L'.Pairwise SKle ∧ Mod T w w' := by
  rcases h with ⟨rfl, rfl⟩ | ⟨b, cap, cs, rfl, h1, h2, h3, h4, h5⟩
  · go_enter Hvah.func84, Hvah.ntmps84
    go_upto_region 4 with ((with_reducible (refine Veil.out ?_; apply wl_makeR under166s el171 (n := 0))); (case hl => rfl); (case hc => rfl); (case hn => decide); rintro G W1 e1 bG gG)
    try simp only [Act.put]
    go_loopw [3, 5] (fun fv dv wr => fv = .slice none 0 0 ∧ dv = .int .i64 1 ∧ wr = W1) (fun _ _ _ => 0)
    case atStart => exact ⟨rfl, rfl, rfl⟩
    case round =>
      obtain ⟨rfl, rfl, rfl⟩ := hrel
      go_wp2
      refine post_76 (v := .slice none 0 0) rfl rfl ?_
      exact ⟨_, [], rfl, Or.inl ⟨rfl, rfl⟩, List.Perm.refl _, List.Pairwise.nil, e1.mod _⟩
  obtain ⟨n, hn⟩ : ∃ n, Hid (L.length = n) := ⟨_, rfl⟩
  rw [hn.out] at h1 hl ⊢
  have hkA : KAt cs 0 L := fun i hi => by
    have := h5 i hi
    rw [Nat.zero_add]
    exact this
  clear h5
  go_enter Hvah.func84, Hvah.ntmps84
  go_upto_region 4 with ((with_reducible (refine Veil.out ?_; apply wl_makeR under166s el171 (n := n))); (case hl => rfl); (case hc => rfl); (case hn => omega); rintro G W1 e1 bG gG)
  try simp only [Act.put]
  have hbG : b ≠ G := fun q => by have := h3.lt; omega
  have hTG : T G := hT G gG
  go_loopw [3, 4, 5] (fun fv tv dv wr => ∃ (wd F G' cF cG : Nat) (dF dG : Nat → Value) (L1 : List SK), fv = .slice (some ⟨F, 0, none⟩) n cF ∧ tv = .slice (some ⟨G', 0, none⟩) n cG ∧ dv = .int .i64 (wd : Nat) ∧ 0 < wd ∧ wd ≤ 2 * n + 1 ∧ n ≤ cF ∧ n ≤ cG ∧ cF ≤ 9223372036854775807 ∧ cG ≤ 9223372036854775807 ∧ F ≠ G' ∧ T F ∧ T G' ∧ Blk wr F (cF * 6) 179 dF ∧ Blk wr G' (cG * 6) 179 dG ∧ KAt dF 0 L1 ∧ Hid (L1.Perm L ∧ RunsOK wd L1) ∧ Mod T w wr) (fun _ _ dv _ => 2 * n + 1 - (intOf dv).toNat)
  case atStart => exact ⟨1, b, G, cap, n, cs, _, L, rfl, rfl, rfl, by decide, by omega, h1, Nat.le_refl _, h2, by omega, hbG, h4, hTG, h3.ext e1, bG, hkA, (⟨List.Perm.refl _, runs_one L⟩ : _ ∧ _), e1.mod _⟩
  case round =>
    obtain ⟨wd, F, G', cF, cG, dF, dG, L1, rfl, rfl, rfl, hw0, hw2, hcF, hcG, hF63, hG63, hFG, hTF, hTG', bF, bG', hk1, hP, hM⟩ := hrel
    have hL1 : L1.length = n := by rw [hP.out.1.length_eq, hn.out]
    rcases Nat.lt_or_ge wd n with hlt | hge
    · have z1 : (wd : Int) < n := by omega
      obtain ⟨wd2, hwd2⟩ : ∃ z, Hid (2 * wd = z) := ⟨_, rfl⟩
      have hw4 := hwd2.out
      have j1 : IntKind.i64.wrap ((wd : Int) * 2) = (wd2 : Int) := by rw [IntKind.wrap_i64]; omega
      have j2 : IntKind.i64.wrap (2 * (wd : Int)) = (wd2 : Int) := by rw [IntKind.wrap_i64]; omega
      replace hL1 : Hid (L1.length = n) := hL1
      clear hw4
      go_upto_region 7 with (fail)
      try simp only [Act.put]
      go_loopw [6] (fun lv wx => ∃ (lo f : Nat) (D : List SK) (d : Nat → Value), lv = .int .i64 (lo : Nat) ∧ lo ≤ 3 * n ∧ Hid (n - lo ≤ f ∧ D.length = min lo n ∧ D ++ passL wd f (L1.drop lo) = passL wd n L1) ∧ Blk wx F (cF * 6) 179 dF ∧ Blk wx G' (cG * 6) 179 d ∧ KAt d 0 D ∧ Mod T w wx) (fun lv _ => 3 * n - (intOf lv).toNat)
      case atStart => exact ⟨0, n, [], dG, rfl, Nat.zero_le _, (⟨by omega, by simp, rfl⟩ : _ ∧ _ ∧ _), bF, bG', fun i hi => absurd hi (Nat.not_lt_zero _), hM⟩
      case round =>
        obtain ⟨lo, f, D, d, rfl, hlo, hI, bFx, bGx, hkD, hMx⟩ := hrel
        rcases Nat.lt_or_ge lo n with hl2 | hg2
        · have z2 : (lo : Int) < n := by omega
          obtain ⟨p1, hp1⟩ : ∃ z, Hid (lo + wd = z) := ⟨_, rfl⟩
          obtain ⟨p2, hp2⟩ : ∃ z, Hid (lo + wd2 = z) := ⟨_, rfl⟩
          have q1 := hp1.out
          have q2 := hp2.out
          obtain ⟨mid, hmid⟩ : ∃ z, Hid (min p1 n = z) := ⟨_, rfl⟩
          obtain ⟨hi, hhi⟩ : ∃ z, Hid (min p2 n = z) := ⟨_, rfl⟩
          have hw4 := hwd2.out
          have q3 := hmid.out
          have q4 := hhi.out
          have i1 : IntKind.i64.wrap ((lo : Int) + wd) = (p1 : Int) := by rw [IntKind.wrap_i64]; omega
          have i2 : IntKind.i64.wrap ((lo : Int) + wd2) = (p2 : Int) := by rw [IntKind.wrap_i64]; omega
          have i3 : min (p1 : Int) (n : Int) = (mid : Int) := by omega
          have i4 : min (p2 : Int) (n : Int) = (hi : Int) := by omega
          have hm1 : lo < mid := by omega
          have hm2 : mid ≤ hi := by omega
          have hm3 : hi ≤ n := by omega
          have hHF : Hid (hi - lo = (mid - lo) + (hi - mid) ∧ hi = min (lo + 2 * wd) n ∧ mid = min (lo + wd) n) := (⟨by omega, by omega, by omega⟩ : _ ∧ _ ∧ _)
          clear q1 q2 q3 q4 hw4
          go_upto_region 11 with (fail)
          try simp only [Act.put]
          have hna : ((L1.drop lo).take wd).length = mid - lo := by
            obtain ⟨_, g2, g3⟩ := hHF.out
            rw [List.length_take, List.length_drop, hL1.out]; omega
          have hnb : ((L1.drop (lo + wd)).take wd).length = hi - mid := by
            obtain ⟨_, g2, g3⟩ := hHF.out
            rw [List.length_take, List.length_drop, hL1.out]; omega
          have y1 : (lo : Int) ≤ hi := by omega
          have y2 : (hi : Int) ≤ cG := by omega
          have y3 : (lo : Int) ≤ mid := by omega
          have y4 : (mid : Int) ≤ cF := by omega
          have y5 : (mid : Int) ≤ hi := by omega
          have y6 : (hi : Int) ≤ cF := by omega
          have n1 : ¬ hi = lo := by omega
          have n2 : ¬ mid = lo := by omega
          have n3 : ¬ (hi : Int) = lo := by omega
          have n4 : ¬ (mid : Int) = lo := by omega
          rcases Nat.lt_or_ge mid hi with hmh | hmh
          · have n5 : ¬ hi = mid := by omega
            have hkB : KAt dF (mid * 6) ((L1.drop (lo + wd)).take wd) := by
              obtain ⟨_, g2, g3⟩ := hHF.out
              have := hk1.part (lo + wd) wd
              rwa [show lo + wd = mid by omega] at this ⊢
            refine w_ext ?_
            rintro W0 hW0
            refine wp_region_held_drew (S := fun w' => (0 ≤ (w' : World).heap.size)) (by kernel_rfl) (Nat.zero_le _) (fun hHeld => ?_)
            have HH : Hid ((0 ≤ (_ : World).heap.size)) := hHeld
            clear hHeld
            refine wpAnyH_take (i := 0) (v := ?_) rfl (by kernel_rfl) (by kernel_rfl) (by kernel_rfl) (fun _ _ _ h => h) (Or.inl ⟨by rfl, ?_⟩) HH.out ?_
            rotate_left
            · intro w hSw; go_simp; try with_reducible rfl
            change wpAnyH _ _ _ _ _ _ _ (Act.put _ (some 40) _) _
            simp only [Act.put, List.setIfInBounds_toArray, List.set_cons_zero, List.set_cons_succ]
            refine wpAnyH_take (i := 1) (v := ?_) rfl (by kernel_rfl) (by kernel_rfl) (by kernel_rfl) (fun _ _ _ h => h) (Or.inl ⟨by rfl, ?_⟩) HH.out ?_
            rotate_left
            · intro w hSw; go_simp; try with_reducible rfl
            change wpAnyH _ _ _ _ _ _ _ (Act.put _ (some 41) _) _
            simp only [Act.put, List.setIfInBounds_toArray, List.set_cons_zero, List.set_cons_succ]
            refine wpAnyH_take (i := 2) (v := ?_) rfl (by kernel_rfl) (by kernel_rfl) (by kernel_rfl) (fun _ _ _ h => h) (Or.inl ⟨by rfl, ?_⟩) HH.out ?_
            rotate_left
            · intro w hSw; go_simp; try with_reducible rfl
            change wpAnyH _ _ _ _ _ _ _ (Act.put _ (some 42) _) _
            simp only [Act.put, List.setIfInBounds_toArray, List.set_cons_zero, List.set_cons_succ]
            refine wpAnyH_take (i := 3) (v := ?_) rfl (by kernel_rfl) (by kernel_rfl) (by kernel_rfl) (fun _ _ _ h => h) (Or.inl ⟨by rfl, ?_⟩) HH.out ?_
            rotate_left
            · intro w hSw; go_simp; try with_reducible rfl
            change wpAnyH _ _ _ _ _ _ _ (Act.put _ (some 43) _) _
            simp only [Act.put, List.setIfInBounds_toArray, List.set_cons_zero, List.set_cons_succ]
            refine wpAnyH_take (i := 4) (v := ?_) rfl (by kernel_rfl) (by kernel_rfl) (by kernel_rfl) (fun _ _ _ h => h) (Or.inl ⟨by rfl, ?_⟩) HH.out ?_
            rotate_left
            · intro w hSw; go_simp; try with_reducible rfl
            change wpAnyH _ _ _ _ _ _ _ (Act.put _ (some 44) _) _
            simp only [Act.put, List.setIfInBounds_toArray, List.set_cons_zero, List.set_cons_succ]
            refine wpAnyH_take (i := 5) (v := ?_) rfl (by kernel_rfl) (by kernel_rfl) (by kernel_rfl) (fun _ _ _ h => h) (Or.inl ⟨by rfl, ?_⟩) HH.out ?_
            rotate_left
            · intro w hSw; go_simp; try with_reducible rfl
            change wpAnyH _ _ _ _ _ _ _ (Act.put _ (some 45) _) _
            simp only [Act.put, List.setIfInBounds_toArray, List.set_cons_zero, List.set_cons_succ]
            refine wpAnyH_take (i := 6) (v := ?_) rfl (by kernel_rfl) (by kernel_rfl) (by kernel_rfl) (fun _ _ _ h => h) (Or.inl ⟨by rfl, ?_⟩) HH.out ?_
            rotate_left
            · intro w hSw; go_simp; try with_reducible rfl
            change wpAnyH _ _ _ _ _ _ _ (Act.put _ (some 46) _) _
            simp only [Act.put, List.setIfInBounds_toArray, List.set_cons_zero, List.set_cons_succ]
            refine wpAnyH_take (i := 7) (v := ?_) rfl (by kernel_rfl) (by kernel_rfl) (by kernel_rfl) (fun _ _ _ h => h) (Or.inl ⟨by rfl, ?_⟩) HH.out ?_
            rotate_left
            · intro w hSw; go_simp; try with_reducible rfl
            change wpAnyH _ _ _ _ _ _ _ (Act.put _ (some 47) _) _
            simp only [Act.put, List.setIfInBounds_toArray, List.set_cons_zero, List.set_cons_succ]
            refine wpAnyH_take (i := 8) (v := ?_) rfl (by kernel_rfl) (by kernel_rfl) (by kernel_rfl) (fun _ _ _ h => h) (Or.inl ⟨by rfl, ?_⟩) HH.out ?_
            rotate_left
            · intro w hSw; go_simp; try with_reducible rfl
            change wpAnyH _ _ _ _ _ _ _ (Act.put _ (some 48) _) _
            simp only [Act.put, List.setIfInBounds_toArray, List.set_cons_zero, List.set_cons_succ]
            refine wpAnyH_take (i := 9) (v := ?_) rfl (by kernel_rfl) (by kernel_rfl) (by kernel_rfl) (fun _ _ _ h => h) (Or.inl ⟨by rfl, ?_⟩) HH.out ?_
            rotate_left
            · intro w hSw; go_simp; try with_reducible rfl
            change wpAnyH _ _ _ _ _ _ _ (Act.put _ (some 49) _) _
            simp only [Act.put, List.setIfInBounds_toArray, List.set_cons_zero, List.set_cons_succ]
            refine wpAnyH_take (i := 10) (v := ?_) rfl (by kernel_rfl) (by kernel_rfl) (by kernel_rfl) (fun _ _ _ h => h) (Or.inl ⟨by rfl, ?_⟩) HH.out ?_
            rotate_left
            · intro w hSw; go_simp; try with_reducible rfl
            change wpAnyH _ _ _ _ _ _ _ (Act.put _ (some 50) _) _
            simp only [Act.put, List.setIfInBounds_toArray, List.set_cons_zero, List.set_cons_succ]
            refine wpAnyH_take (i := 11) (v := ?_) rfl (by kernel_rfl) (by kernel_rfl) (by kernel_rfl) (fun _ _ _ h => h) (Or.inl ⟨by rfl, ?_⟩) HH.out ?_
            rotate_left
            · intro w hSw; go_simp; try with_reducible rfl
            change wpAnyH _ _ _ _ _ _ _ (Act.put _ (some 51) _) _
            simp only [Act.put, List.setIfInBounds_toArray, List.set_cons_zero, List.set_cons_succ]
            refine wpAnyH_take (i := 12) (v := ?_) rfl (by kernel_rfl) (by kernel_rfl) (by kernel_rfl) (fun _ _ _ h => h) (Or.inl ⟨by rfl, ?_⟩) HH.out ?_
            rotate_left
            · intro w hSw; go_simp; try with_reducible rfl
            change wpAnyH _ _ _ _ _ _ _ (Act.put _ (some 52) _) _
            simp only [Act.put, List.setIfInBounds_toArray, List.set_cons_zero, List.set_cons_succ]
            refine wpAnyH_take (i := 13) (v := ?_) rfl (by kernel_rfl) (by kernel_rfl) (by kernel_rfl) (fun _ _ _ h => h) (Or.inl ⟨by rfl, ?_⟩) HH.out ?_
            rotate_left
            · intro w hSw; go_simp; try with_reducible rfl
            change wpAnyH _ _ _ _ _ _ _ (Act.put _ (some 53) _) _
            simp only [Act.put, List.setIfInBounds_toArray, List.set_cons_zero, List.set_cons_succ]
            refine wpAnyH_take (i := 14) (v := ?_) rfl (by kernel_rfl) (by kernel_rfl) (by kernel_rfl) (fun _ _ _ h => h) (Or.inl ⟨by rfl, ?_⟩) HH.out ?_
            rotate_left
            · intro w hSw; go_simp; try with_reducible rfl
            change wpAnyH _ _ _ _ _ _ _ (Act.put _ (some 54) _) _
            simp only [Act.put, List.setIfInBounds_toArray, List.set_cons_zero, List.set_cons_succ]
            refine wpAnyH_ready (rs := [15]) (by kernel_rfl) (by simp) ?_
            refine AllReadyH.cons rfl (fun K hK => ?_) AllReadyH.nil
            go_simp
            go_at_call 166; refine (vMerge (bGx.ext (by (repeat (first | with_reducible exact Ext.refl _ | with_reducible assumption | refine Ext.trans ?_ (by with_reducible assumption) | refine Ext.alloc ?_ _ _ | refine Ext.drew ?_ | refine Ext.drewN ?_ _)))) (bFx.ext (by (repeat (first | with_reducible exact Ext.refl _ | with_reducible assumption | refine Ext.trans ?_ (by with_reducible assumption) | refine Ext.alloc ?_ _ _ | refine Ext.drew ?_ | refine Ext.drewN ?_ _)))) (bFx.ext (by (repeat (first | with_reducible exact Ext.refl _ | with_reducible assumption | refine Ext.trans ?_ (by with_reducible assumption) | refine Ext.alloc ?_ _ _ | refine Ext.drew ?_ | refine Ext.drewN ?_ _)))) hFG hFG (La := (L1.drop lo).take wd) (Lb := (L1.drop (lo + wd)).take wd) hna hnb hHF.out.1 (by omega) (by omega) (by omega) (by omega) (hk1.part lo wd) hkB).mono ?_; rintro e w1 ⟨rfl, d9, b9, k9, f9, m9⟩
            refine hK.out _ _ ?_ (fun hHeld => ?_)
            · exact Nat.zero_le _
            clear hK K HH
            have HH : Hid ((0 ≤ (_ : World).heap.size)) := hHeld
            clear hHeld
            refine wpAnyH_done (by kernel_rfl) ?_ _
            replace f9 := (show Hid _ from f9)
            clear hnb hna y1 y2 y3 y4 y5 y6 n1 n2 n3 n4 i1 i3 i4
            go_wp2
            go_roundw
            case rel =>
              have hw5 := hwd2.out
              have hl5 := hL1.out
              obtain ⟨hI1, hI2, hI3⟩ := hI.out
              obtain ⟨g1, g2, g3⟩ := hHF.out
              obtain ⟨f', hf1, hf2⟩ := pass_step (wd := wd) (by omega) (by omega) hI3
              have eD : D.length = lo := by omega
              have hE9 : Ext wr W0.drew := hW0.drew
              have hp5 := hp2.out
              have R1 : p2 ≤ 3 * n := by omega
              have R2 : Blk w1 F (cF * 6) 179 dF := (bFx.ext hE9).mod m9 hFG
              have R3 : KAt d9 0 (D ++ mrg ((L1.drop lo).take wd) ((L1.drop (lo + wd)).take wd)) := hkD.glue eD k9 (fun q hq => f9.out q (Or.inl hq))
              have R4 : Mod T w w1 := hMx.trans ((hE9.mod _).trans (m9.sub (fun b hb => by have hb2 : b = G' := hb; rw [hb2]; exact hTG')))
              refine ⟨p2, f', D ++ mrg ((L1.drop lo).take wd) ((L1.drop (lo + wd)).take wd), d9, rfl, R1, ?_, R2, b9, R3, R4⟩
              show n - p2 ≤ f' ∧ (D ++ mrg ((L1.drop lo).take wd) ((L1.drop (lo + wd)).take wd)).length = min p2 n ∧ D ++ mrg ((L1.drop lo).take wd) ((L1.drop (lo + wd)).take wd) ++ passL wd f' (L1.drop p2) = passL wd n L1
              refine ⟨by omega, ?_, ?_⟩
              · rw [List.length_append, mrg_len, List.length_take, List.length_drop, List.length_take, List.length_drop, hl5, eD]; exact len_glue hl2 (by rw [hw5]; exact hp5.symm)
              · rw [← hp5, ← hw5]; exact hf2 hw0
            case measure => have hw5 := hwd2.out; have hp5 := hp2.out; simp only [intOf, Int.toNat_natCast]; omega
          · obtain rfl : mid = hi := by omega
            have hnb0 : ((L1.drop (lo + wd)).take wd).length = 0 := by rw [hnb]; omega
            have hkB : KAt dF 0 ((L1.drop (lo + wd)).take wd) := fun i hi => by
              rw [hnb0] at hi; omega
            refine w_ext ?_
            rintro W0 hW0
            refine wp_region_held_drew (S := fun w' => (0 ≤ (w' : World).heap.size)) (by kernel_rfl) (Nat.zero_le _) (fun hHeld => ?_)
            have HH : Hid ((0 ≤ (_ : World).heap.size)) := hHeld
            clear hHeld
            refine wpAnyH_take (i := 0) (v := ?_) rfl (by kernel_rfl) (by kernel_rfl) (by kernel_rfl) (fun _ _ _ h => h) (Or.inl ⟨by rfl, ?_⟩) HH.out ?_
            rotate_left
            · intro w hSw; go_simp; try with_reducible rfl
            change wpAnyH _ _ _ _ _ _ _ (Act.put _ (some 40) _) _
            simp only [Act.put, List.setIfInBounds_toArray, List.set_cons_zero, List.set_cons_succ]
            refine wpAnyH_take (i := 1) (v := ?_) rfl (by kernel_rfl) (by kernel_rfl) (by kernel_rfl) (fun _ _ _ h => h) (Or.inl ⟨by rfl, ?_⟩) HH.out ?_
            rotate_left
            · intro w hSw; go_simp; try with_reducible rfl
            change wpAnyH _ _ _ _ _ _ _ (Act.put _ (some 41) _) _
            simp only [Act.put, List.setIfInBounds_toArray, List.set_cons_zero, List.set_cons_succ]
            refine wpAnyH_take (i := 2) (v := ?_) rfl (by kernel_rfl) (by kernel_rfl) (by kernel_rfl) (fun _ _ _ h => h) (Or.inl ⟨by rfl, ?_⟩) HH.out ?_
            rotate_left
            · intro w hSw; go_simp; try with_reducible rfl
            change wpAnyH _ _ _ _ _ _ _ (Act.put _ (some 42) _) _
            simp only [Act.put, List.setIfInBounds_toArray, List.set_cons_zero, List.set_cons_succ]
            refine wpAnyH_take (i := 3) (v := ?_) rfl (by kernel_rfl) (by kernel_rfl) (by kernel_rfl) (fun _ _ _ h => h) (Or.inl ⟨by rfl, ?_⟩) HH.out ?_
            rotate_left
            · intro w hSw; go_simp; try with_reducible rfl
            change wpAnyH _ _ _ _ _ _ _ (Act.put _ (some 43) _) _
            simp only [Act.put, List.setIfInBounds_toArray, List.set_cons_zero, List.set_cons_succ]
            refine wpAnyH_take (i := 4) (v := ?_) rfl (by kernel_rfl) (by kernel_rfl) (by kernel_rfl) (fun _ _ _ h => h) (Or.inl ⟨by rfl, ?_⟩) HH.out ?_
            rotate_left
            · intro w hSw; go_simp; try with_reducible rfl
            change wpAnyH _ _ _ _ _ _ _ (Act.put _ (some 44) _) _
            simp only [Act.put, List.setIfInBounds_toArray, List.set_cons_zero, List.set_cons_succ]
            refine wpAnyH_take (i := 5) (v := ?_) rfl (by kernel_rfl) (by kernel_rfl) (by kernel_rfl) (fun _ _ _ h => h) (Or.inl ⟨by rfl, ?_⟩) HH.out ?_
            rotate_left
            · intro w hSw; go_simp; try with_reducible rfl
            change wpAnyH _ _ _ _ _ _ _ (Act.put _ (some 45) _) _
            simp only [Act.put, List.setIfInBounds_toArray, List.set_cons_zero, List.set_cons_succ]
            refine wpAnyH_take (i := 6) (v := ?_) rfl (by kernel_rfl) (by kernel_rfl) (by kernel_rfl) (fun _ _ _ h => h) (Or.inl ⟨by rfl, ?_⟩) HH.out ?_
            rotate_left
            · intro w hSw; go_simp; try with_reducible rfl
            change wpAnyH _ _ _ _ _ _ _ (Act.put _ (some 46) _) _
            simp only [Act.put, List.setIfInBounds_toArray, List.set_cons_zero, List.set_cons_succ]
            refine wpAnyH_take (i := 7) (v := ?_) rfl (by kernel_rfl) (by kernel_rfl) (by kernel_rfl) (fun _ _ _ h => h) (Or.inl ⟨by rfl, ?_⟩) HH.out ?_
            rotate_left
            · intro w hSw; go_simp; try with_reducible rfl
            change wpAnyH _ _ _ _ _ _ _ (Act.put _ (some 47) _) _
            simp only [Act.put, List.setIfInBounds_toArray, List.set_cons_zero, List.set_cons_succ]
            refine wpAnyH_take (i := 8) (v := ?_) rfl (by kernel_rfl) (by kernel_rfl) (by kernel_rfl) (fun _ _ _ h => h) (Or.inl ⟨by rfl, ?_⟩) HH.out ?_
            rotate_left
            · intro w hSw; go_simp; try with_reducible rfl
            change wpAnyH _ _ _ _ _ _ _ (Act.put _ (some 48) _) _
            simp only [Act.put, List.setIfInBounds_toArray, List.set_cons_zero, List.set_cons_succ]
            refine wpAnyH_take (i := 9) (v := ?_) rfl (by kernel_rfl) (by kernel_rfl) (by kernel_rfl) (fun _ _ _ h => h) (Or.inl ⟨by rfl, ?_⟩) HH.out ?_
            rotate_left
            · intro w hSw; go_simp; try with_reducible rfl
            change wpAnyH _ _ _ _ _ _ _ (Act.put _ (some 49) _) _
            simp only [Act.put, List.setIfInBounds_toArray, List.set_cons_zero, List.set_cons_succ]
            refine wpAnyH_take (i := 10) (v := ?_) rfl (by kernel_rfl) (by kernel_rfl) (by kernel_rfl) (fun _ _ _ h => h) (Or.inl ⟨by rfl, ?_⟩) HH.out ?_
            rotate_left
            · intro w hSw; go_simp; try with_reducible rfl
            change wpAnyH _ _ _ _ _ _ _ (Act.put _ (some 50) _) _
            simp only [Act.put, List.setIfInBounds_toArray, List.set_cons_zero, List.set_cons_succ]
            refine wpAnyH_take (i := 11) (v := ?_) rfl (by kernel_rfl) (by kernel_rfl) (by kernel_rfl) (fun _ _ _ h => h) (Or.inl ⟨by rfl, ?_⟩) HH.out ?_
            rotate_left
            · intro w hSw; go_simp; try with_reducible rfl
            change wpAnyH _ _ _ _ _ _ _ (Act.put _ (some 51) _) _
            simp only [Act.put, List.setIfInBounds_toArray, List.set_cons_zero, List.set_cons_succ]
            refine wpAnyH_take (i := 12) (v := ?_) rfl (by kernel_rfl) (by kernel_rfl) (by kernel_rfl) (fun _ _ _ h => h) (Or.inl ⟨by rfl, ?_⟩) HH.out ?_
            rotate_left
            · intro w hSw; go_simp; try with_reducible rfl
            change wpAnyH _ _ _ _ _ _ _ (Act.put _ (some 52) _) _
            simp only [Act.put, List.setIfInBounds_toArray, List.set_cons_zero, List.set_cons_succ]
            refine wpAnyH_take (i := 13) (v := ?_) rfl (by kernel_rfl) (by kernel_rfl) (by kernel_rfl) (fun _ _ _ h => h) (Or.inl ⟨by rfl, ?_⟩) HH.out ?_
            rotate_left
            · intro w hSw; go_simp; try with_reducible rfl
            change wpAnyH _ _ _ _ _ _ _ (Act.put _ (some 53) _) _
            simp only [Act.put, List.setIfInBounds_toArray, List.set_cons_zero, List.set_cons_succ]
            refine wpAnyH_take (i := 14) (v := ?_) rfl (by kernel_rfl) (by kernel_rfl) (by kernel_rfl) (fun _ _ _ h => h) (Or.inl ⟨by rfl, ?_⟩) HH.out ?_
            rotate_left
            · intro w hSw; go_simp; try with_reducible rfl
            change wpAnyH _ _ _ _ _ _ _ (Act.put _ (some 54) _) _
            simp only [Act.put, List.setIfInBounds_toArray, List.set_cons_zero, List.set_cons_succ]
            refine wpAnyH_ready (rs := [15]) (by kernel_rfl) (by simp) ?_
            refine AllReadyH.cons rfl (fun K hK => ?_) AllReadyH.nil
            go_simp
            go_at_call 166; refine (vMerge (bGx.ext (by (repeat (first | with_reducible exact Ext.refl _ | with_reducible assumption | refine Ext.trans ?_ (by with_reducible assumption) | refine Ext.alloc ?_ _ _ | refine Ext.drew ?_ | refine Ext.drewN ?_ _)))) (bFx.ext (by (repeat (first | with_reducible exact Ext.refl _ | with_reducible assumption | refine Ext.trans ?_ (by with_reducible assumption) | refine Ext.alloc ?_ _ _ | refine Ext.drew ?_ | refine Ext.drewN ?_ _)))) (bFx.ext (by (repeat (first | with_reducible exact Ext.refl _ | with_reducible assumption | refine Ext.trans ?_ (by with_reducible assumption) | refine Ext.alloc ?_ _ _ | refine Ext.drew ?_ | refine Ext.drewN ?_ _)))) hFG hFG (pb := 0) (nb := 0) (La := (L1.drop lo).take wd) (Lb := (L1.drop (lo + wd)).take wd) hna hnb0 (Nat.add_zero _).symm (by omega) (by omega) (by omega) (by omega) (hk1.part lo wd) hkB).mono ?_; rintro e w1 ⟨rfl, d9, b9, k9, f9, m9⟩
            refine hK.out _ _ ?_ (fun hHeld => ?_)
            · exact Nat.zero_le _
            clear hK K HH
            have HH : Hid ((0 ≤ (_ : World).heap.size)) := hHeld
            clear hHeld
            refine wpAnyH_done (by kernel_rfl) ?_ _
            replace f9 := (show Hid _ from f9)
            clear hnb hna hnb0 y1 y2 y3 y4 y5 y6 n1 n2 n3 n4 i1 i3 i4
            go_wp2
            go_roundw
            case rel =>
              have hw5 := hwd2.out
              have hl5 := hL1.out
              obtain ⟨hI1, hI2, hI3⟩ := hI.out
              obtain ⟨g1, g2, g3⟩ := hHF.out
              obtain ⟨f', hf1, hf2⟩ := pass_step (wd := wd) (by omega) (by omega) hI3
              have eD : D.length = lo := by omega
              have hE9 : Ext wr W0.drew := hW0.drew
              have hp5 := hp2.out
              have R1 : p2 ≤ 3 * n := by omega
              have R2 : Blk w1 F (cF * 6) 179 dF := (bFx.ext hE9).mod m9 hFG
              have R3 : KAt d9 0 (D ++ mrg ((L1.drop lo).take wd) ((L1.drop (lo + wd)).take wd)) := hkD.glue eD k9 (fun q hq => f9.out q (Or.inl hq))
              have R4 : Mod T w w1 := hMx.trans ((hE9.mod _).trans (m9.sub (fun b hb => by have hb2 : b = G' := hb; rw [hb2]; exact hTG')))
              refine ⟨p2, f', D ++ mrg ((L1.drop lo).take wd) ((L1.drop (lo + wd)).take wd), d9, rfl, R1, ?_, R2, b9, R3, R4⟩
              show n - p2 ≤ f' ∧ (D ++ mrg ((L1.drop lo).take wd) ((L1.drop (lo + wd)).take wd)).length = min p2 n ∧ D ++ mrg ((L1.drop lo).take wd) ((L1.drop (lo + wd)).take wd) ++ passL wd f' (L1.drop p2) = passL wd n L1
              refine ⟨by omega, ?_, ?_⟩
              · rw [List.length_append, mrg_len, List.length_take, List.length_drop, List.length_take, List.length_drop, hl5, eD]; exact len_glue hl2 (by rw [hw5]; exact hp5.symm)
              · rw [← hp5, ← hw5]; exact hf2 hw0
            case measure => have hw5 := hwd2.out; have hp5 := hp2.out; simp only [intOf, Int.toNat_natCast]; omega
        · have z2 : ¬ (lo : Int) < n := by omega
          go_wp2
          go_roundw
          case rel =>
            have hw5 := hwd2.out
            have hl5 := hL1.out
            obtain ⟨hI1, hI2, hI3⟩ := hI.out
            rw [List.drop_eq_nil_of_le (by omega), pass_nil, List.append_nil] at hI3
            refine ⟨wd2, G', F, cG, cF, d, dF, D, rfl, rfl, rfl, by omega, by omega, hcG, hcF, hG63, hF63, hFG.symm, hTG', hTF, bGx, bFx, hkD, ?_, hMx⟩
            show D.Perm L ∧ RunsOK wd2 D
            rw [hI3, ← hw5]
            exact ⟨(pass_perm hw0 n L1 (by omega)).trans hP.out.1, pass_runs hw0 n L1 (by omega) hP.out.2⟩
          case measure => have hw5 := hwd2.out; simp [intOf]; omega
    · have z1 : ¬ (wd : Int) < n := by omega
      go_wp2
      refine post_76 (v := .slice (some ⟨F, 0, none⟩) n cF) rfl rfl ?_
      refine ⟨_, rfl, L1, Or.inr ⟨F, cF, dF, by rw [hL1], by omega, hF63, bF, hTF, fun i hi => by have := hk1 i hi; rw [Nat.zero_add] at this; exact this⟩, hP.out.1, runs_all hP.out.2 (by omega), hM⟩
end
end Go.Proofs.YgvahwGreat
