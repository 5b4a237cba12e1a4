import Derived.Test.YgvahwGreatVaTb
import Derived.Deep.CutBlock
import Derived.Deep.DeepCutAuto
namespace Go.Proofs.YgvahwGreat
open Go.RowKit
set_option linter.unusedSimpArgs false
section
variable {own : Nat → Nat} {w : World} {g : Nat} {c : Nat → Value} {V : EV} {a k i : Nat}
set_option maxRecDepth 100000 in
set_option maxHeartbeats 6400000 in
theorem vTempOf_K (h : VRep own w g c V) (ha : a < 2 ^ 160) (hk : k < P256) {i : Nat} (hj : V.ix a = some i) (hs : ixG ETemp.kc (i, k) V.temps = none) (hrT : V.temps.length < 12288) : Calls Hvah.prog 392 #[.pointer (some ⟨g, 2435, none⟩), .agg (av a), wv k] w fun e w' => e = .returned (.tuple #[.int .i32 (V.atAT a k : Nat), .bool true]) ∧ ∃ own' c', VRep own' w' g c' (V.needAT a k) ∧ VStep own w c own' w' c' := by
  have HF := vFind_some h ha hj
  have hi9 : i < 2560 := Nat.lt_of_lt_of_le (ix_lt_of hj) h.nA
  obtain ⟨fr, HT⟩ := vFindT_none h hi9 hk hs
  have hjn := needT_none h.wf a k (fun i' h' => by rw [hj] at h'; cases h'; exact hs)
  have HAc := fun W (hW : Ext w W) => vAcct (h.ext hW) ha (fun q => by rw [hj] at q; cases q)
  have hat := (need_len V a).2.2
  obtain ⟨o17, cap17, hv17⟩ := h.tempsLen
  obtain ⟨n, hn⟩ : ∃ n, Hid (V.temps.length = n) := ⟨_, rfl⟩
  rw [hn.out] at hrT hv17
  have hni : ¬ (12288 : Int) ≤ n := by omega
  clear hj hs
  obtain ⟨ii, hii⟩ : ∃ ii, Hid (V.at_ a = ii) := ⟨_, rfl⟩
  rw [hii.out] at hjn hat HAc
  have hwi : IntKind.i32.wrap (n : Int) = n := by rw [IntKind.wrap_i32]; omega
  go_enter Hvah.func392, Hvah.ntmps392
  go_upto_region 10 with (first | ((with_reducible (refine Veil.out ?_; apply wl_boxA)); (case hx => rfl); (case hn => exact ha); rintro B1 W1 c1 e1 b1 a1 g1) | ((with_reducible (refine Veil.out ?_; apply wl_boxW)); (case hx => rfl); rintro B2 W2 c2 e2 b2 a2 g2) | ((with_reducible (refine Veil.out ?_; apply wl_loadA)); (case hx => rfl); (case hB => exact b1.ext (by (repeat (first | with_reducible exact Ext.refl _ | with_reducible assumption | refine Ext.trans ?_ (by with_reducible assumption) | refine Ext.alloc ?_ _ _ | refine Ext.drew ?_ | refine Ext.drewN ?_ _)))); (case hA => exact a1); (case hs => exact ha); (case ho => decide)) | ((with_reducible (refine Veil.out ?_; apply wl_loadWB)); (case hx => rfl); (case hB => exact b2.ext (by (repeat (first | with_reducible exact Ext.refl _ | with_reducible assumption | refine Ext.trans ?_ (by with_reducible assumption) | refine Ext.alloc ?_ _ _ | refine Ext.drew ?_ | refine Ext.drewN ?_ _)))); (case hW => exact a2); (case hi => decide)) | (go_at_call 391; refine (HT _ (by (repeat (first | with_reducible exact Ext.refl _ | with_reducible assumption | refine Ext.trans ?_ (by with_reducible assumption) | refine Ext.alloc ?_ _ _ | refine Ext.drew ?_ | refine Ext.drewN ?_ _)))).mono ?_; rintro e w5 ⟨rfl, he5⟩) | (go_at_call 168; refine (HF _ (by (repeat (first | with_reducible exact Ext.refl _ | with_reducible assumption | refine Ext.trans ?_ (by with_reducible assumption) | refine Ext.alloc ?_ _ _ | refine Ext.drew ?_ | refine Ext.drewN ?_ _)))).mono ?_; rintro e w4 ⟨rfl, he4⟩) | ((with_reducible (refine Veil.out ?_; apply wl_load1 one82)); (case hx => rfl); (case hB => exact h.blk.ext (by (repeat (first | with_reducible exact Ext.refl _ | with_reducible assumption | refine Ext.trans ?_ (by with_reducible assumption) | refine Ext.alloc ?_ _ _ | refine Ext.drew ?_ | refine Ext.drewN ?_ _)))); (case ho => decide); rw [hv17]) | (go_at_call 91; refine (HAc _ (by (repeat (first | with_reducible exact Ext.refl _ | with_reducible assumption | refine Ext.trans ?_ (by with_reducible assumption) | refine Ext.alloc ?_ _ _ | refine Ext.drew ?_ | refine Ext.drewN ?_ _)))).mono ?_; rintro e w6 ⟨rfl, own1, c6, h1, s1⟩; have s1' := (VStep.ext (own := own) (c := c) (show Ext w _ by (repeat (first | with_reducible exact Ext.refl _ | with_reducible assumption | refine Ext.trans ?_ (by with_reducible assumption) | refine Ext.alloc ?_ _ _ | refine Ext.drew ?_ | refine Ext.drewN ?_ _)))).trans s1; have b2' := (b2.ext (show Ext W2 _ by (repeat (first | with_reducible exact Ext.refl _ | with_reducible assumption | refine Ext.trans ?_ (by with_reducible assumption) | refine Ext.alloc ?_ _ _ | refine Ext.drew ?_ | refine Ext.drewN ?_ _)))).mod s1.mod (fun q => q.1.1 (h.fresh B2 (Nat.le_trans (Ext.size (show Ext w W1 by (repeat (first | with_reducible exact Ext.refl _ | with_reducible assumption | refine Ext.trans ?_ (by with_reducible assumption) | refine Ext.alloc ?_ _ _ | refine Ext.drew ?_ | refine Ext.drewN ?_ _)))) g2)))))
  have hgB2 : ¬ g = B2 := fun q => by have := h.blk.lt; have := Ext.size (show Ext w W1 by (repeat (first | with_reducible exact Ext.refl _ | with_reducible assumption | refine Ext.trans ?_ (by with_reducible assumption) | refine Ext.alloc ?_ _ _ | refine Ext.drew ?_ | refine Ext.drewN ?_ _))); omega
  have ho2 : own1 B2 = 0 := by rw [s1.keep B2 (b2.ext (show Ext W2 _ by (repeat (first | with_reducible exact Ext.refl _ | with_reducible assumption | refine Ext.trans ?_ (by with_reducible assumption) | refine Ext.alloc ?_ _ _ | refine Ext.drew ?_ | refine Ext.drewN ?_ _)))).lt]; exact h.fresh B2 (Nat.le_trans (Ext.size (show Ext w W1 by (repeat (first | with_reducible exact Ext.refl _ | with_reducible assumption | refine Ext.trans ?_ (by with_reducible assumption) | refine Ext.alloc ?_ _ _ | refine Ext.drew ?_ | refine Ext.drewN ?_ _)))) g2)
  have hoB2 := ho2
  rcases h1.tT with ⟨hnil, htv1⟩ | hTab
  · go_upto_region 14 with (first | ((with_reducible (refine Veil.out ?_; apply wl_load1 one83)); (case hx => rfl); (case hB => exact h1.blk.ext (by (repeat (first | with_reducible exact Ext.refl _ | with_reducible assumption | refine Ext.trans ?_ (by with_reducible assumption) | refine Ext.alloc ?_ _ _ | refine Ext.drew ?_ | refine Ext.drewN ?_ _)))); (case ho => decide); rw [htv1]) | ((with_reducible (refine Veil.out ?_; apply wl_makeR under83 el21 16384)); (case hl => rfl); (case hc => rfl); (case hn => decide); rintro B7 W7 e7 b7 g7) | ((with_reducible (refine Veil.out ?_; apply wl_storeC one83)); (case hx => rfl); (case hy => rfl); (case h1 => rfl); (case hB => exact h1.blk.ext (by (repeat (first | with_reducible exact Ext.refl _ | with_reducible assumption | refine Ext.trans ?_ (by with_reducible assumption) | refine Ext.alloc ?_ _ _ | refine Ext.drew ?_ | refine Ext.drewN ?_ _)))); (case hi => decide); rintro W8 hBg7 m8))
    have hcT : updv c6 27018 (.slice (some ⟨B7, 0, none⟩) 16384 16384) 27018 = .slice (some ⟨B7, 0, none⟩) 16384 16384 := updv_same _ _ _
    obtain ⟨c7, hc7⟩ : ∃ c7, Hid (updv c6 27018 (.slice (some ⟨B7, 0, none⟩) 16384 16384) = c7) := ⟨_, rfl⟩
    have hBg7 : Blk W8 g 27024 105 (updv c6 27018 (.slice (some ⟨B7, 0, none⟩) 16384 16384)) := hBg7
    rw [hc7.out] at hBg7 hcT
    have hgB7 : ¬ g = B7 := fun q => by have := h1.blk.lt; omega
    have hB7g : ¬ B7 = g := fun q => hgB7 q.symm
    have hB2g : ¬ B2 = g := fun q => hgB2 q.symm
    have hB27 : ¬ B2 = B7 := fun q => by have := b2'.lt; omega
    have b7' := b7.mod m8 (fun q => hB7g q)
    rw [Nat.mul_one] at b7'
    have b28 := (b2'.ext e7).mod m8 (fun q => hB2g q)
    have m68 : Mod (· = g) w6 W8 := (e7.mod _).trans m8
    go_upto_region 15 with (first | ((with_reducible (refine Veil.out ?_; apply wl_load1 one83)); (case hx => rfl); (case hB => exact hBg7.ext (by (repeat (first | with_reducible exact Ext.refl _ | with_reducible assumption | refine Ext.trans ?_ (by with_reducible assumption) | refine Ext.alloc ?_ _ _ | refine Ext.drew ?_ | refine Ext.drewN ?_ _)))); (case ho => decide); rw [hcT]))
    try simp only [Act.put]
    clear b7 m8
    go_loopw [62] (fun iv wr => ∃ (p : Nat) (cT : Nat → Value), iv = .int .i64 (p : Nat) ∧ p ≤ 16384 ∧ Blk wr B7 16384 21 cT ∧ (∀ q, q < p → cT q = .int .i32 (-1)) ∧ Mod (· = B7) W8 wr) (fun iv _ => 16384 - (intOf iv).toNat)
    case atStart => exact ⟨0, _, rfl, by omega, b7', fun q hq => absurd hq (Nat.not_lt_zero _), Mod.refl _ _⟩
    case round =>
      clear b7'
      obtain ⟨p, cT, rfl, hp, bT, fT, mT⟩ := hrel
      rcases Nat.lt_or_ge p 16384 with hlt | hge
      · have hpi : (p : Int) < 16384 := by omega
        have hBgr := hBg7.mod mT hgB7
        go_wp2_with (first | ((with_reducible (refine Veil.out ?_; apply wl_load1 one83)); (case hx => rfl); (case hB => exact hBgr.ext (by (repeat (first | with_reducible exact Ext.refl _ | with_reducible assumption | refine Ext.trans ?_ (by with_reducible assumption) | refine Ext.alloc ?_ _ _ | refine Ext.drew ?_ | refine Ext.drewN ?_ _)))); (case ho => decide); rw [hcT]) | ((with_reducible (refine Veil.out ?_; apply wl_storeC one21)); (case hx => rfl); (case hy => rfl); (case h1 => rfl); (case hB => exact bT.ext (by (repeat (first | with_reducible exact Ext.refl _ | with_reducible assumption | refine Ext.trans ?_ (by with_reducible assumption) | refine Ext.alloc ?_ _ _ | refine Ext.drew ?_ | refine Ext.drewN ?_ _)))); (case hi => omega); rintro W9 b9 m9))
        go_roundw
        case rel =>
          refine ⟨p + 1, _, int_eq (by omega), by omega, b9, fun q hq => ?_, mT.trans m9⟩
          by_cases e : q = p
          · rw [e, updv_same]; rfl
          · rw [updv_ne _ _ e]; exact fT q (by omega)
        case measure => simp [intOf]; omega
      · have hpi : ¬ (p : Int) < 16384 := by omega
        obtain rfl : p = 16384 := by omega
        have hBgr := hBg7.mod mT hgB7
        have m6r : Mod (· = g) w6 wr := m68.trans' mT (fun x hx => Or.inr (by have hx2 : x = B7 := hx; rw [hx2]; exact g7))
        obtain ⟨own2, hoB7, h2, sT⟩ := tab_new h1 g7 hnil m6r (by rw [hc7.out]; exact hBgr) bT fT
        rw [hc7.out] at h2 sT
        have b2x := b28.mod mT hB27
        have s2 := s1'.trans sT
        have hoB2' : own2 B2 = 0 := by rw [sT.keep B2 b2'.lt]; exact hoB2
        clear hoB2
        have hoB2 := hoB2'
        have hTab := h2.tT.resolve_left (fun q => by rw [hcT] at q; cases q.2)
        clear hBg7 hBgr m68 m6r b28 bT fT mT sT hc7 hoB2'
        have hTT : ∃ t, TTab (Ow own2 6) wr (c7 27018) t ∧ TOK 16384 (V.need a).temps.length (fun i => mixP ((V.need a).temps.getD i (ETemp.new 0 0)).acct ((V.need a).temps.getD i (ETemp.new 0 0)).key % 16384) t := hTab
        obtain ⟨t, ⟨bt, capt, ct, htv, hcapt, hbt, hot, htc⟩, hTok⟩ := hTT
        have hot : own2 bt = 6 := hot
        have hjn2 : ixG ETemp.kc (ii, k) (V.need a).temps = none := by rw [need_temps]; exact hjn
        have hi2 : ii < 2560 := Nat.lt_of_lt_of_le hat h2.nA
        obtain ⟨d, hd, hfree, hbusy, HT2⟩ := vFindT_tab h2 hi2 hk hjn2 ⟨bt, capt, ct, htv, hcapt, hbt, hot, htc⟩ hTok
        have hP : (mixP ii k % 16384 + d) % 16384 < 16384 := Nat.mod_lt _ (by decide)
        obtain ⟨P, hPe⟩ : ∃ P, Hid ((mixP ii k % 16384 + d) % 16384 = P) := ⟨_, rfl⟩
        rw [hPe.out] at HT2 hP
        have hPi : (P : Int) < 16384 := by omega
        have hPn : ¬ (P : Int) < 0 := by omega
        obtain ⟨b, c9, hArn, hTag, hRows⟩ := h2.temps.arn
        obtain ⟨o9, cap9, hv2⟩ := h2.tempsLen
        have hn2 : (V.need a).temps.length = n := by rw [need_temps]; exact hn.out
        rw [hn2] at hv2 hArn
        rw [hv2] at hArn
        have hbtg : ¬ bt = g := fun q => by have := h2.tag; rw [← q, hot] at this; omega
        go_upto_region 23 with (first | ((with_reducible (refine Veil.out ?_; apply wl_load1 one83)); (case hx => rfl); (case hB => exact h2.blk.ext (by (repeat (first | with_reducible exact Ext.refl _ | with_reducible assumption | refine Ext.trans ?_ (by with_reducible assumption) | refine Ext.alloc ?_ _ _ | refine Ext.drew ?_ | refine Ext.drewN ?_ _)))); (case ho => decide); rw [hcT]) | (go_at_call 391; refine (HT2 _ (by (repeat (first | with_reducible exact Ext.refl _ | with_reducible assumption | refine Ext.trans ?_ (by with_reducible assumption) | refine Ext.alloc ?_ _ _ | refine Ext.drew ?_ | refine Ext.drewN ?_ _)))).mono ?_; rintro e w8 ⟨rfl, he8⟩) | ((with_reducible (refine Veil.out ?_; apply wl_loadWB)); (case hx => rfl); (case hB => exact b2x.ext (by (repeat (first | with_reducible exact Ext.refl _ | with_reducible assumption | refine Ext.trans ?_ (by with_reducible assumption) | refine Ext.alloc ?_ _ _ | refine Ext.drew ?_ | refine Ext.drewN ?_ _)))); (case hW => exact a2); (case hi => decide)) | ((with_reducible (refine Veil.out ?_; apply wl_load1 one82)); (case hx => rfl); (case hB => exact h2.blk.ext (by (repeat (first | with_reducible exact Ext.refl _ | with_reducible assumption | refine Ext.trans ?_ (by with_reducible assumption) | refine Ext.alloc ?_ _ _ | refine Ext.drew ?_ | refine Ext.drewN ?_ _)))); (case ho => decide); rw [hv2]))
        have K17 : ∀ W, Ext wr W → W.cell? ⟨g, 27017, none⟩ = some (.slice o9 n cap9) := fun W (hW : Ext wr W) => by rw [(h2.blk.ext hW).cell (i := 27017) (by omega), hv2]
        have HA : ∀ W, Ext wr W → Arn W 439 9 (.slice o9 n cap9) n b c9 := fun W hW => by
          rcases hArn with q | ⟨cp, q1, q2, q3, q4⟩
          · exact Or.inl q
          · exact Or.inr ⟨cp, q1, q2, q3, q4.ext hW⟩
        refine w_ext ?_
        rintro W0 hW0
        refine wp_region_held_drew (S := fun w' => Mod (fun x => ¬ x = B2) W0 w') (by kernel_rfl) (Mod.refl _ _).drew (fun hHeld => ?_)
        have HH : Hid (Mod (fun x => ¬ x = B2) W0 _) := hHeld
        clear hHeld
        refine wpAnyH_take (i := 0) (v := ?_) rfl (by kernel_rfl) (by kernel_rfl) (by kernel_rfl) (fun _ _ _ h => h) (Or.inl ⟨by rfl, ?_⟩) HH.out ?_
        rotate_left
        · intro w hSw; go_simp; try with_reducible rfl
        change wpAnyH _ _ _ _ _ _ _ (Act.put _ (some 87) _) _
        simp only [Act.put, List.setIfInBounds_toArray, List.set_cons_zero, List.set_cons_succ]
        refine wpAnyH_take (i := 1) (v := ?_) rfl (by kernel_rfl) (by kernel_rfl) (by kernel_rfl) (fun _ _ _ h => h) (Or.inl ⟨by rfl, ?_⟩) HH.out ?_
        rotate_left
        · intro w hSw; go_simp; try with_reducible rfl
        change wpAnyH _ _ _ _ _ _ _ (Act.put _ (some 88) _) _
        simp only [Act.put, List.setIfInBounds_toArray, List.set_cons_zero, List.set_cons_succ]
        refine wpAnyH_take (i := 2) (v := ?_) rfl (by kernel_rfl) (by kernel_rfl) (by kernel_rfl) (fun _ _ _ h => h) (Or.inl ⟨by rfl, ?_⟩) HH.out ?_
        rotate_left
        · intro w hSw; go_simp; try with_reducible rfl
        change wpAnyH _ _ _ _ _ _ _ (Act.put _ (some 89) _) _
        simp only [Act.put, List.setIfInBounds_toArray, List.set_cons_zero, List.set_cons_succ]
        refine wpAnyH_take (i := 3) (v := ?_) rfl (by kernel_rfl) (by kernel_rfl) (by kernel_rfl) (fun _ _ _ h => h) (Or.inl ⟨by rfl, ?_⟩) HH.out ?_
        rotate_left
        · intro w hSw; go_simp; try with_reducible rfl
        change wpAnyH _ _ _ _ _ _ _ (Act.put _ (some 90) _) _
        simp only [Act.put, List.setIfInBounds_toArray, List.set_cons_zero, List.set_cons_succ]
        refine wpAnyH_take (i := 5) (v := ?_) rfl (by kernel_rfl) (by kernel_rfl) (by kernel_rfl) (fun _ _ _ h => h) (Or.inl ⟨by rfl, ?_⟩) HH.out ?_
        rotate_left
        · intro w hSw; go_simp; try with_reducible rfl
        change wpAnyH _ _ _ _ _ _ _ (Act.put _ (some 92) _) _
        simp only [Act.put, List.setIfInBounds_toArray, List.set_cons_zero, List.set_cons_succ]
        refine wpAnyH_take (i := 6) rfl (by kernel_rfl) (by kernel_rfl) (by kernel_rfl) (fun _ _ _ h => h) (yields_W (by rfl) rfl rfl (fun w hSw => (b2x.ext (show Ext wr W0 by (repeat (first | with_reducible exact Ext.refl _ | with_reducible assumption | refine Ext.trans ?_ (by with_reducible assumption) | refine Ext.alloc ?_ _ _ | refine Ext.drew ?_ | refine Ext.drewN ?_ _)))).mod hSw (fun q => q rfl)) a2 (by decide)) HH.out ?_
        change wpAnyH _ _ _ _ _ _ _ (Act.put _ (some 93) _) _
        simp only [Act.put, List.setIfInBounds_toArray, List.set_cons_zero, List.set_cons_succ]
        refine wpAnyH_take (i := 7) rfl (by kernel_rfl) (by kernel_rfl) (by kernel_rfl) (fun _ _ _ h => h) (yields_build (ps := [(0, .int .i32 (ii : Nat)), (1, wv k)]) (by rfl) rfl (b431 ii k) (by simp [Act.eval])) HH.out ?_
        change wpAnyH _ _ _ _ _ _ _ (Act.put _ (some 94) _) _
        simp only [Act.put, List.setIfInBounds_toArray, List.set_cons_zero, List.set_cons_succ]
        refine wpAnyH_ready (rs := [4, 8]) (by kernel_rfl) (by simp) ?_
        refine (AllReadyH.cons rfl (fun K hK => ?_) (AllReadyH.cons rfl (fun K hK => ?_) AllReadyH.nil))
        refine step_any rfl (op_loadC rfl one82 rfl (K17 _ (by (repeat (first | with_reducible exact Ext.refl _ | with_reducible assumption | refine Ext.trans ?_ (by with_reducible assumption) | refine Ext.alloc ?_ _ _ | refine Ext.drew ?_ | refine Ext.drewN ?_ _)))) ?_)
        refine hK.out _ _ HH.out (fun hHeld => ?_)
        clear hK K HH
        have HH : Hid (Mod (fun x => ¬ x = B2) W0 _) := hHeld
        clear hHeld
        change wpAnyH _ _ _ _ _ _ _ (Act.put _ (some 91) _) _
        simp only [Act.put, List.setIfInBounds_toArray, List.set_cons_zero, List.set_cons_succ]
        refine wpAnyH_ready (rs := [8]) (by kernel_rfl) (by simp) ?_
        refine AllReadyH.cons rfl (fun K hK => ?_) AllReadyH.nil
        refine step_any rfl (op_build1 439 Hvah.t439 _ 9 rfl under82 info431 zero431 size431 rfl (by decide) (by decide) (tempZ ii k) rfl rfl ?_)
        rintro B9 W9 e9 r9 g9
        refine hK.out _ _ (HH.out.trans_ext e9) (fun hHeld => ?_)
        clear hK K HH
        have HH : Hid (Mod (fun x => ¬ x = B2) W0 _) := hHeld
        clear hHeld
        change wpAnyH _ _ _ _ _ _ _ (Act.put _ (some 95) _) _
        simp only [Act.put, List.setIfInBounds_toArray, List.set_cons_zero, List.set_cons_succ]
        refine wpAnyH_ready (rs := [9]) (by kernel_rfl) (by simp) ?_
        refine AllReadyH.cons rfl (fun K hK => ?_) AllReadyH.nil
        refine step_append1 rfl _ _ 95 rfl 439 Hvah.t439 _ 9 under82 info431 zero431 size431 rfl bytes431 (.slice o9 n cap9) n b c9 (HA _ (by (repeat (first | with_reducible exact Ext.refl _ | with_reducible assumption | refine Ext.trans ?_ (by with_reducible assumption) | refine Ext.alloc ?_ _ _ | refine Ext.drew ?_ | refine Ext.drewN ?_ _)))) (by omega) ⟨B9, 0, none⟩ 1 (tempZ ii k).toList rfl r9 (tempZ_one ii k) rfl rfl ?_
        rintro v' W10 b' c' hG
        obtain ⟨cp', rfl⟩ := hG.some
        have hEW9 : Ext wr W9 := by (repeat (first | with_reducible exact Ext.refl _ | with_reducible assumption | refine Ext.trans ?_ (by with_reducible assumption) | refine Ext.alloc ?_ _ _ | refine Ext.drew ?_ | refine Ext.drewN ?_ _))
        have hBoth : Blk W10 g 27024 105 c7 ∧ Blk W10 bt capt 21 ct ∧ Mod (fun x => ¬ x = B2) W9 W10 := by
          rcases hG.how with ⟨_, ⟨cp, hc⟩, hm⟩ | ⟨_, hx⟩
          · have hob : own2 b = 5 := hTag cp (by rw [hv2, hn2]; exact hc)
            exact ⟨(h2.blk.ext hEW9).mod hm (fun e => by have h8 := h2.tag; rw [e, hob] at h8; omega), (hbt.ext hEW9).mod hm (fun e => by rw [e, hob] at hot; omega), hm.sub (fun x hx hq => by have hx2 : x = b := hx; rw [← hx2, hq, hoB2] at hob; omega)⟩
          · exact ⟨(h2.blk.ext hEW9).ext hx, (hbt.ext hEW9).ext hx, hx.mod _⟩
        obtain ⟨hBg, hBt10, hmB⟩ := hBoth
        refine hK.out _ _ (HH.out.trans hmB) (fun hHeld => ?_)
        clear hK K HH
        have HH : Hid (Mod (fun x => ¬ x = B2) W0 _) := hHeld
        clear hHeld
        change wpAnyH _ _ _ _ _ _ _ (Act.put _ (some 96) _) _
        simp only [Act.put, List.setIfInBounds_toArray, List.set_cons_zero, List.set_cons_succ]
        refine wpAnyH_take (i := 10) (v := ?_) rfl (by kernel_rfl) (by kernel_rfl) (by kernel_rfl) (fun _ _ _ h => h) (Or.inl ⟨by rfl, ?_⟩) HH.out ?_
        rotate_left
        · intro w hSw; go_simp; try with_reducible rfl
        change wpAnyH _ _ _ _ _ _ _ (Act.put _ (some 97) _) _
        simp only [Act.put, List.setIfInBounds_toArray, List.set_cons_zero, List.set_cons_succ]
        refine wpAnyH_take (i := 11) (v := ?_) rfl (by kernel_rfl) (by kernel_rfl) (by kernel_rfl) (fun _ _ _ h => h) (Or.inl ⟨by rfl, ?_⟩) HH.out ?_
        rotate_left
        · intro w hSw; go_simp; try with_reducible rfl
        change wpAnyH _ _ _ _ _ _ _ (Act.put _ (some 98) _) _
        simp only [Act.put, List.setIfInBounds_toArray, List.set_cons_zero, List.set_cons_succ]
        refine wpAnyH_ready (rs := [12]) (by kernel_rfl) (by simp) ?_
        refine AllReadyH.cons rfl (fun K hK => ?_) AllReadyH.nil
        refine step_any rfl (op_store1 rfl one82 rfl rfl rfl hBg (by decide) ?_)
        rintro W11 b11 m11
        have hBt11 := hBt10.mod m11 (fun q => hbtg q)
        refine hK.out _ _ ?_ (fun hHeld => ?_)
        · exact HH.out.trans (m11.sub (fun x hx hq => hgB2 (by have hx2 : x = g := hx; rw [← hx2]; exact hq)))
        clear hK K HH
        have HH : Hid (Mod (fun x => ¬ x = B2) W0 _) := hHeld
        clear hHeld
        change wpAnyH _ _ _ _ _ _ _ (Act.put _ none _) _
        simp only [Act.put, List.setIfInBounds_toArray, List.set_cons_zero, List.set_cons_succ]
        refine wpAnyH_done (by kernel_rfl) ?_ _
        · go_wp2_with (first | ((with_reducible (refine Veil.out ?_; apply wl_load1 one83)); (case hx => rfl); (case hB => exact b11.ext (by (repeat (first | with_reducible exact Ext.refl _ | with_reducible assumption | refine Ext.trans ?_ (by with_reducible assumption) | refine Ext.alloc ?_ _ _ | refine Ext.drew ?_ | refine Ext.drewN ?_ _)))); (case ho => decide); rw [updv_ne _ _ (show (27018 : Nat) ≠ 27017 by decide), htv]) | ((with_reducible (refine Veil.out ?_; apply wl_storeC one21)); (case hx => rfl); (case hy => rfl); (case h1 => rfl); (case hB => exact hBt11.ext (by (repeat (first | with_reducible exact Ext.refl _ | with_reducible assumption | refine Ext.trans ?_ (by with_reducible assumption) | refine Ext.alloc ?_ _ _ | refine Ext.drew ?_ | refine Ext.drewN ?_ _)))); (case hi => omega); rintro W12 b12 m12))
          go_ret2
          obtain ⟨own9, hr9, hs9⟩ := temp_end h2 hat hk hjn2 (by rw [hn2]; exact hrT) htv hcapt hbt hot htc hTok hd hfree hbusy hEW9 hTag hRows (by rw [hv2, hn2]; exact hG) m11 b11 m12 (by rw [hPe.out, hn2]; exact b12)
          have e2 : V.needAT a k = (V.need a).needT ii k := by unfold EV.needAT; rw [hii.out]
          have e3 : V.atAT a k = n := by unfold EV.atAT EV.atT; rw [hii.out, hjn2]; exact hn2
          rw [e2, e3]
          exact ⟨rfl, own9, _, hr9, s2.trans hs9⟩
        refine step_any rfl (op_build1 439 Hvah.t439 _ 9 rfl under82 info431 zero431 size431 rfl (by decide) (by decide) (tempZ ii k) rfl rfl ?_)
        rintro B9 W9 e9 r9 g9
        refine hK.out _ _ (HH.out.trans_ext e9) (fun hHeld => ?_)
        clear hK K HH
        have HH : Hid (Mod (fun x => ¬ x = B2) W0 _) := hHeld
        clear hHeld
        change wpAnyH _ _ _ _ _ _ _ (Act.put _ (some 95) _) _
        simp only [Act.put, List.setIfInBounds_toArray, List.set_cons_zero, List.set_cons_succ]
        refine wpAnyH_ready (rs := [4]) (by kernel_rfl) (by simp) ?_
        refine AllReadyH.cons rfl (fun K hK => ?_) AllReadyH.nil
        refine step_any rfl (op_loadC rfl one82 rfl (K17 _ (by (repeat (first | with_reducible exact Ext.refl _ | with_reducible assumption | refine Ext.trans ?_ (by with_reducible assumption) | refine Ext.alloc ?_ _ _ | refine Ext.drew ?_ | refine Ext.drewN ?_ _)))) ?_)
        refine hK.out _ _ HH.out (fun hHeld => ?_)
        clear hK K HH
        have HH : Hid (Mod (fun x => ¬ x = B2) W0 _) := hHeld
        clear hHeld
        change wpAnyH _ _ _ _ _ _ _ (Act.put _ (some 91) _) _
        simp only [Act.put, List.setIfInBounds_toArray, List.set_cons_zero, List.set_cons_succ]
        refine wpAnyH_ready (rs := [9]) (by kernel_rfl) (by simp) ?_
        refine AllReadyH.cons rfl (fun K hK => ?_) AllReadyH.nil
        refine step_append1 rfl _ _ 95 rfl 439 Hvah.t439 _ 9 under82 info431 zero431 size431 rfl bytes431 (.slice o9 n cap9) n b c9 (HA _ (by (repeat (first | with_reducible exact Ext.refl _ | with_reducible assumption | refine Ext.trans ?_ (by with_reducible assumption) | refine Ext.alloc ?_ _ _ | refine Ext.drew ?_ | refine Ext.drewN ?_ _)))) (by omega) ⟨B9, 0, none⟩ 1 (tempZ ii k).toList rfl r9 (tempZ_one ii k) rfl rfl ?_
        rintro v' W10 b' c' hG
        obtain ⟨cp', rfl⟩ := hG.some
        have hEW9 : Ext wr W9 := by (repeat (first | with_reducible exact Ext.refl _ | with_reducible assumption | refine Ext.trans ?_ (by with_reducible assumption) | refine Ext.alloc ?_ _ _ | refine Ext.drew ?_ | refine Ext.drewN ?_ _))
        have hBoth : Blk W10 g 27024 105 c7 ∧ Blk W10 bt capt 21 ct ∧ Mod (fun x => ¬ x = B2) W9 W10 := by
          rcases hG.how with ⟨_, ⟨cp, hc⟩, hm⟩ | ⟨_, hx⟩
          · have hob : own2 b = 5 := hTag cp (by rw [hv2, hn2]; exact hc)
            exact ⟨(h2.blk.ext hEW9).mod hm (fun e => by have h8 := h2.tag; rw [e, hob] at h8; omega), (hbt.ext hEW9).mod hm (fun e => by rw [e, hob] at hot; omega), hm.sub (fun x hx hq => by have hx2 : x = b := hx; rw [← hx2, hq, hoB2] at hob; omega)⟩
          · exact ⟨(h2.blk.ext hEW9).ext hx, (hbt.ext hEW9).ext hx, hx.mod _⟩
        obtain ⟨hBg, hBt10, hmB⟩ := hBoth
        refine hK.out _ _ (HH.out.trans hmB) (fun hHeld => ?_)
        clear hK K HH
        have HH : Hid (Mod (fun x => ¬ x = B2) W0 _) := hHeld
        clear hHeld
        change wpAnyH _ _ _ _ _ _ _ (Act.put _ (some 96) _) _
        simp only [Act.put, List.setIfInBounds_toArray, List.set_cons_zero, List.set_cons_succ]
        refine wpAnyH_take (i := 10) (v := ?_) rfl (by kernel_rfl) (by kernel_rfl) (by kernel_rfl) (fun _ _ _ h => h) (Or.inl ⟨by rfl, ?_⟩) HH.out ?_
        rotate_left
        · intro w hSw; go_simp; try with_reducible rfl
        change wpAnyH _ _ _ _ _ _ _ (Act.put _ (some 97) _) _
        simp only [Act.put, List.setIfInBounds_toArray, List.set_cons_zero, List.set_cons_succ]
        refine wpAnyH_take (i := 11) (v := ?_) rfl (by kernel_rfl) (by kernel_rfl) (by kernel_rfl) (fun _ _ _ h => h) (Or.inl ⟨by rfl, ?_⟩) HH.out ?_
        rotate_left
        · intro w hSw; go_simp; try with_reducible rfl
        change wpAnyH _ _ _ _ _ _ _ (Act.put _ (some 98) _) _
        simp only [Act.put, List.setIfInBounds_toArray, List.set_cons_zero, List.set_cons_succ]
        refine wpAnyH_ready (rs := [12]) (by kernel_rfl) (by simp) ?_
        refine AllReadyH.cons rfl (fun K hK => ?_) AllReadyH.nil
        refine step_any rfl (op_store1 rfl one82 rfl rfl rfl hBg (by decide) ?_)
        rintro W11 b11 m11
        have hBt11 := hBt10.mod m11 (fun q => hbtg q)
        refine hK.out _ _ ?_ (fun hHeld => ?_)
        · exact HH.out.trans (m11.sub (fun x hx hq => hgB2 (by have hx2 : x = g := hx; rw [← hx2]; exact hq)))
        clear hK K HH
        have HH : Hid (Mod (fun x => ¬ x = B2) W0 _) := hHeld
        clear hHeld
        change wpAnyH _ _ _ _ _ _ _ (Act.put _ none _) _
        simp only [Act.put, List.setIfInBounds_toArray, List.set_cons_zero, List.set_cons_succ]
        refine wpAnyH_done (by kernel_rfl) ?_ _
        · go_wp2_with (first | ((with_reducible (refine Veil.out ?_; apply wl_load1 one83)); (case hx => rfl); (case hB => exact b11.ext (by (repeat (first | with_reducible exact Ext.refl _ | with_reducible assumption | refine Ext.trans ?_ (by with_reducible assumption) | refine Ext.alloc ?_ _ _ | refine Ext.drew ?_ | refine Ext.drewN ?_ _)))); (case ho => decide); rw [updv_ne _ _ (show (27018 : Nat) ≠ 27017 by decide), htv]) | ((with_reducible (refine Veil.out ?_; apply wl_storeC one21)); (case hx => rfl); (case hy => rfl); (case h1 => rfl); (case hB => exact hBt11.ext (by (repeat (first | with_reducible exact Ext.refl _ | with_reducible assumption | refine Ext.trans ?_ (by with_reducible assumption) | refine Ext.alloc ?_ _ _ | refine Ext.drew ?_ | refine Ext.drewN ?_ _)))); (case hi => omega); rintro W12 b12 m12))
          go_ret2
          obtain ⟨own9, hr9, hs9⟩ := temp_end h2 hat hk hjn2 (by rw [hn2]; exact hrT) htv hcapt hbt hot htc hTok hd hfree hbusy hEW9 hTag hRows (by rw [hv2, hn2]; exact hG) m11 b11 m12 (by rw [hPe.out, hn2]; exact b12)
          have e2 : V.needAT a k = (V.need a).needT ii k := by unfold EV.needAT; rw [hii.out]
          have e3 : V.atAT a k = n := by unfold EV.atAT EV.atT; rw [hii.out, hjn2]; exact hn2
          rw [e2, e3]
          exact ⟨rfl, own9, _, hr9, s2.trans hs9⟩
  · obtain ⟨X, hX⟩ : ∃ X, X = w6 := ⟨_, rfl⟩
    subst hX
    have h2 := h1
    have s2 := s1'
    have b2x := b2'
    have hTT : ∃ t, TTab (Ow own1 6) X (c6 27018) t ∧ TOK 16384 (V.need a).temps.length (fun i => mixP ((V.need a).temps.getD i (ETemp.new 0 0)).acct ((V.need a).temps.getD i (ETemp.new 0 0)).key % 16384) t := hTab
    obtain ⟨t, ⟨bt, capt, ct, htv, hcapt, hbt, hot, htc⟩, hTok⟩ := hTT
    have hot : own1 bt = 6 := hot
    have hjn2 : ixG ETemp.kc (ii, k) (V.need a).temps = none := by rw [need_temps]; exact hjn
    have hi2 : ii < 2560 := Nat.lt_of_lt_of_le hat h2.nA
    obtain ⟨d, hd, hfree, hbusy, HT2⟩ := vFindT_tab h2 hi2 hk hjn2 ⟨bt, capt, ct, htv, hcapt, hbt, hot, htc⟩ hTok
    have hP : (mixP ii k % 16384 + d) % 16384 < 16384 := Nat.mod_lt _ (by decide)
    obtain ⟨P, hPe⟩ : ∃ P, Hid ((mixP ii k % 16384 + d) % 16384 = P) := ⟨_, rfl⟩
    rw [hPe.out] at HT2 hP
    have hPi : (P : Int) < 16384 := by omega
    have hPn : ¬ (P : Int) < 0 := by omega
    obtain ⟨b, c9, hArn, hTag, hRows⟩ := h2.temps.arn
    obtain ⟨o9, cap9, hv2⟩ := h2.tempsLen
    have hn2 : (V.need a).temps.length = n := by rw [need_temps]; exact hn.out
    rw [hn2] at hv2 hArn
    rw [hv2] at hArn
    have hbtg : ¬ bt = g := fun q => by have := h2.tag; rw [← q, hot] at this; omega
    go_upto_region 23 with (first | ((with_reducible (refine Veil.out ?_; apply wl_load1 one83)); (case hx => rfl); (case hB => exact h1.blk.ext (by (repeat (first | with_reducible exact Ext.refl _ | with_reducible assumption | refine Ext.trans ?_ (by with_reducible assumption) | refine Ext.alloc ?_ _ _ | refine Ext.drew ?_ | refine Ext.drewN ?_ _)))); (case ho => decide); rw [htv]) | (go_at_call 391; refine (HT2 _ (by (repeat (first | with_reducible exact Ext.refl _ | with_reducible assumption | refine Ext.trans ?_ (by with_reducible assumption) | refine Ext.alloc ?_ _ _ | refine Ext.drew ?_ | refine Ext.drewN ?_ _)))).mono ?_; rintro e w8 ⟨rfl, he8⟩) | ((with_reducible (refine Veil.out ?_; apply wl_loadWB)); (case hx => rfl); (case hB => exact b2x.ext (by (repeat (first | with_reducible exact Ext.refl _ | with_reducible assumption | refine Ext.trans ?_ (by with_reducible assumption) | refine Ext.alloc ?_ _ _ | refine Ext.drew ?_ | refine Ext.drewN ?_ _)))); (case hW => exact a2); (case hi => decide)) | ((with_reducible (refine Veil.out ?_; apply wl_load1 one82)); (case hx => rfl); (case hB => exact h2.blk.ext (by (repeat (first | with_reducible exact Ext.refl _ | with_reducible assumption | refine Ext.trans ?_ (by with_reducible assumption) | refine Ext.alloc ?_ _ _ | refine Ext.drew ?_ | refine Ext.drewN ?_ _)))); (case ho => decide); rw [hv2]))
    have K17 : ∀ W, Ext X W → W.cell? ⟨g, 27017, none⟩ = some (.slice o9 n cap9) := fun W (hW : Ext X W) => by rw [(h2.blk.ext hW).cell (i := 27017) (by omega), hv2]
    have HA : ∀ W, Ext X W → Arn W 439 9 (.slice o9 n cap9) n b c9 := fun W hW => by
      rcases hArn with q | ⟨cp, q1, q2, q3, q4⟩
      · exact Or.inl q
      · exact Or.inr ⟨cp, q1, q2, q3, q4.ext hW⟩
    refine w_ext ?_
    rintro W0 hW0
    refine wp_region_held_drew (S := fun w' => Mod (fun x => ¬ x = B2) W0 w') (by kernel_rfl) (Mod.refl _ _).drew (fun hHeld => ?_)
    have HH : Hid (Mod (fun x => ¬ x = B2) W0 _) := hHeld
    clear hHeld
    refine wpAnyH_take (i := 0) (v := ?_) rfl (by kernel_rfl) (by kernel_rfl) (by kernel_rfl) (fun _ _ _ h => h) (Or.inl ⟨by rfl, ?_⟩) HH.out ?_
    rotate_left
    · intro w hSw; go_simp; try with_reducible rfl
    change wpAnyH _ _ _ _ _ _ _ (Act.put _ (some 87) _) _
    simp only [Act.put, List.setIfInBounds_toArray, List.set_cons_zero, List.set_cons_succ]
    refine wpAnyH_take (i := 1) (v := ?_) rfl (by kernel_rfl) (by kernel_rfl) (by kernel_rfl) (fun _ _ _ h => h) (Or.inl ⟨by rfl, ?_⟩) HH.out ?_
    rotate_left
    · intro w hSw; go_simp; try with_reducible rfl
    change wpAnyH _ _ _ _ _ _ _ (Act.put _ (some 88) _) _
    simp only [Act.put, List.setIfInBounds_toArray, List.set_cons_zero, List.set_cons_succ]
    refine wpAnyH_take (i := 2) (v := ?_) rfl (by kernel_rfl) (by kernel_rfl) (by kernel_rfl) (fun _ _ _ h => h) (Or.inl ⟨by rfl, ?_⟩) HH.out ?_
    rotate_left
    · intro w hSw; go_simp; try with_reducible rfl
    change wpAnyH _ _ _ _ _ _ _ (Act.put _ (some 89) _) _
    simp only [Act.put, List.setIfInBounds_toArray, List.set_cons_zero, List.set_cons_succ]
    refine wpAnyH_take (i := 3) (v := ?_) rfl (by kernel_rfl) (by kernel_rfl) (by kernel_rfl) (fun _ _ _ h => h) (Or.inl ⟨by rfl, ?_⟩) HH.out ?_
    rotate_left
    · intro w hSw; go_simp; try with_reducible rfl
    change wpAnyH _ _ _ _ _ _ _ (Act.put _ (some 90) _) _
    simp only [Act.put, List.setIfInBounds_toArray, List.set_cons_zero, List.set_cons_succ]
    refine wpAnyH_take (i := 5) (v := ?_) rfl (by kernel_rfl) (by kernel_rfl) (by kernel_rfl) (fun _ _ _ h => h) (Or.inl ⟨by rfl, ?_⟩) HH.out ?_
    rotate_left
    · intro w hSw; go_simp; try with_reducible rfl
    change wpAnyH _ _ _ _ _ _ _ (Act.put _ (some 92) _) _
    simp only [Act.put, List.setIfInBounds_toArray, List.set_cons_zero, List.set_cons_succ]
    refine wpAnyH_take (i := 6) rfl (by kernel_rfl) (by kernel_rfl) (by kernel_rfl) (fun _ _ _ h => h) (yields_W (by rfl) rfl rfl (fun w hSw => (b2x.ext (show Ext X W0 by (repeat (first | with_reducible exact Ext.refl _ | with_reducible assumption | refine Ext.trans ?_ (by with_reducible assumption) | refine Ext.alloc ?_ _ _ | refine Ext.drew ?_ | refine Ext.drewN ?_ _)))).mod hSw (fun q => q rfl)) a2 (by decide)) HH.out ?_
    change wpAnyH _ _ _ _ _ _ _ (Act.put _ (some 93) _) _
    simp only [Act.put, List.setIfInBounds_toArray, List.set_cons_zero, List.set_cons_succ]
    refine wpAnyH_take (i := 7) rfl (by kernel_rfl) (by kernel_rfl) (by kernel_rfl) (fun _ _ _ h => h) (yields_build (ps := [(0, .int .i32 (ii : Nat)), (1, wv k)]) (by rfl) rfl (b431 ii k) (by simp [Act.eval])) HH.out ?_
    change wpAnyH _ _ _ _ _ _ _ (Act.put _ (some 94) _) _
    simp only [Act.put, List.setIfInBounds_toArray, List.set_cons_zero, List.set_cons_succ]
    refine wpAnyH_ready (rs := [4, 8]) (by kernel_rfl) (by simp) ?_
    refine (AllReadyH.cons rfl (fun K hK => ?_) (AllReadyH.cons rfl (fun K hK => ?_) AllReadyH.nil))
    refine step_any rfl (op_loadC rfl one82 rfl (K17 _ (by (repeat (first | with_reducible exact Ext.refl _ | with_reducible assumption | refine Ext.trans ?_ (by with_reducible assumption) | refine Ext.alloc ?_ _ _ | refine Ext.drew ?_ | refine Ext.drewN ?_ _)))) ?_)
    refine hK.out _ _ HH.out (fun hHeld => ?_)
    clear hK K HH
    have HH : Hid (Mod (fun x => ¬ x = B2) W0 _) := hHeld
    clear hHeld
    change wpAnyH _ _ _ _ _ _ _ (Act.put _ (some 91) _) _
    simp only [Act.put, List.setIfInBounds_toArray, List.set_cons_zero, List.set_cons_succ]
    refine wpAnyH_ready (rs := [8]) (by kernel_rfl) (by simp) ?_
    refine AllReadyH.cons rfl (fun K hK => ?_) AllReadyH.nil
    refine step_any rfl (op_build1 439 Hvah.t439 _ 9 rfl under82 info431 zero431 size431 rfl (by decide) (by decide) (tempZ ii k) rfl rfl ?_)
    rintro B9 W9 e9 r9 g9
    refine hK.out _ _ (HH.out.trans_ext e9) (fun hHeld => ?_)
    clear hK K HH
    have HH : Hid (Mod (fun x => ¬ x = B2) W0 _) := hHeld
    clear hHeld
    change wpAnyH _ _ _ _ _ _ _ (Act.put _ (some 95) _) _
    simp only [Act.put, List.setIfInBounds_toArray, List.set_cons_zero, List.set_cons_succ]
    refine wpAnyH_ready (rs := [9]) (by kernel_rfl) (by simp) ?_
    refine AllReadyH.cons rfl (fun K hK => ?_) AllReadyH.nil
    refine step_append1 rfl _ _ 95 rfl 439 Hvah.t439 _ 9 under82 info431 zero431 size431 rfl bytes431 (.slice o9 n cap9) n b c9 (HA _ (by (repeat (first | with_reducible exact Ext.refl _ | with_reducible assumption | refine Ext.trans ?_ (by with_reducible assumption) | refine Ext.alloc ?_ _ _ | refine Ext.drew ?_ | refine Ext.drewN ?_ _)))) (by omega) ⟨B9, 0, none⟩ 1 (tempZ ii k).toList rfl r9 (tempZ_one ii k) rfl rfl ?_
    rintro v' W10 b' c' hG
    obtain ⟨cp', rfl⟩ := hG.some
    have hEW9 : Ext X W9 := by (repeat (first | with_reducible exact Ext.refl _ | with_reducible assumption | refine Ext.trans ?_ (by with_reducible assumption) | refine Ext.alloc ?_ _ _ | refine Ext.drew ?_ | refine Ext.drewN ?_ _))
    have hBoth : Blk W10 g 27024 105 c6 ∧ Blk W10 bt capt 21 ct ∧ Mod (fun x => ¬ x = B2) W9 W10 := by
      rcases hG.how with ⟨_, ⟨cp, hc⟩, hm⟩ | ⟨_, hx⟩
      · have hob : own1 b = 5 := hTag cp (by rw [hv2, hn2]; exact hc)
        exact ⟨(h2.blk.ext hEW9).mod hm (fun e => by have h8 := h2.tag; rw [e, hob] at h8; omega), (hbt.ext hEW9).mod hm (fun e => by rw [e, hob] at hot; omega), hm.sub (fun x hx hq => by have hx2 : x = b := hx; rw [← hx2, hq, hoB2] at hob; omega)⟩
      · exact ⟨(h2.blk.ext hEW9).ext hx, (hbt.ext hEW9).ext hx, hx.mod _⟩
    obtain ⟨hBg, hBt10, hmB⟩ := hBoth
    refine hK.out _ _ (HH.out.trans hmB) (fun hHeld => ?_)
    clear hK K HH
    have HH : Hid (Mod (fun x => ¬ x = B2) W0 _) := hHeld
    clear hHeld
    change wpAnyH _ _ _ _ _ _ _ (Act.put _ (some 96) _) _
    simp only [Act.put, List.setIfInBounds_toArray, List.set_cons_zero, List.set_cons_succ]
    refine wpAnyH_take (i := 10) (v := ?_) rfl (by kernel_rfl) (by kernel_rfl) (by kernel_rfl) (fun _ _ _ h => h) (Or.inl ⟨by rfl, ?_⟩) HH.out ?_
    rotate_left
    · intro w hSw; go_simp; try with_reducible rfl
    change wpAnyH _ _ _ _ _ _ _ (Act.put _ (some 97) _) _
    simp only [Act.put, List.setIfInBounds_toArray, List.set_cons_zero, List.set_cons_succ]
    refine wpAnyH_take (i := 11) (v := ?_) rfl (by kernel_rfl) (by kernel_rfl) (by kernel_rfl) (fun _ _ _ h => h) (Or.inl ⟨by rfl, ?_⟩) HH.out ?_
    rotate_left
    · intro w hSw; go_simp; try with_reducible rfl
    change wpAnyH _ _ _ _ _ _ _ (Act.put _ (some 98) _) _
    simp only [Act.put, List.setIfInBounds_toArray, List.set_cons_zero, List.set_cons_succ]
    refine wpAnyH_ready (rs := [12]) (by kernel_rfl) (by simp) ?_
    refine AllReadyH.cons rfl (fun K hK => ?_) AllReadyH.nil
    refine step_any rfl (op_store1 rfl one82 rfl rfl rfl hBg (by decide) ?_)
    rintro W11 b11 m11
    have hBt11 := hBt10.mod m11 (fun q => hbtg q)
    refine hK.out _ _ ?_ (fun hHeld => ?_)
    · exact HH.out.trans (m11.sub (fun x hx hq => hgB2 (by have hx2 : x = g := hx; rw [← hx2]; exact hq)))
    clear hK K HH
    have HH : Hid (Mod (fun x => ¬ x = B2) W0 _) := hHeld
    clear hHeld
    change wpAnyH _ _ _ _ _ _ _ (Act.put _ none _) _
    simp only [Act.put, List.setIfInBounds_toArray, List.set_cons_zero, List.set_cons_succ]
    refine wpAnyH_done (by kernel_rfl) ?_ _
    · go_wp2_with (first | ((with_reducible (refine Veil.out ?_; apply wl_load1 one83)); (case hx => rfl); (case hB => exact b11.ext (by (repeat (first | with_reducible exact Ext.refl _ | with_reducible assumption | refine Ext.trans ?_ (by with_reducible assumption) | refine Ext.alloc ?_ _ _ | refine Ext.drew ?_ | refine Ext.drewN ?_ _)))); (case ho => decide); rw [updv_ne _ _ (show (27018 : Nat) ≠ 27017 by decide), htv]) | ((with_reducible (refine Veil.out ?_; apply wl_storeC one21)); (case hx => rfl); (case hy => rfl); (case h1 => rfl); (case hB => exact hBt11.ext (by (repeat (first | with_reducible exact Ext.refl _ | with_reducible assumption | refine Ext.trans ?_ (by with_reducible assumption) | refine Ext.alloc ?_ _ _ | refine Ext.drew ?_ | refine Ext.drewN ?_ _)))); (case hi => omega); rintro W12 b12 m12))
      go_ret2
      obtain ⟨own9, hr9, hs9⟩ := temp_end h2 hat hk hjn2 (by rw [hn2]; exact hrT) htv hcapt hbt hot htc hTok hd hfree hbusy hEW9 hTag hRows (by rw [hv2, hn2]; exact hG) m11 b11 m12 (by rw [hPe.out, hn2]; exact b12)
      have e2 : V.needAT a k = (V.need a).needT ii k := by unfold EV.needAT; rw [hii.out]
      have e3 : V.atAT a k = n := by unfold EV.atAT EV.atT; rw [hii.out, hjn2]; exact hn2
      rw [e2, e3]
      exact ⟨rfl, own9, _, hr9, s2.trans hs9⟩
    refine step_any rfl (op_build1 439 Hvah.t439 _ 9 rfl under82 info431 zero431 size431 rfl (by decide) (by decide) (tempZ ii k) rfl rfl ?_)
    rintro B9 W9 e9 r9 g9
    refine hK.out _ _ (HH.out.trans_ext e9) (fun hHeld => ?_)
    clear hK K HH
    have HH : Hid (Mod (fun x => ¬ x = B2) W0 _) := hHeld
    clear hHeld
    change wpAnyH _ _ _ _ _ _ _ (Act.put _ (some 95) _) _
    simp only [Act.put, List.setIfInBounds_toArray, List.set_cons_zero, List.set_cons_succ]
    refine wpAnyH_ready (rs := [4]) (by kernel_rfl) (by simp) ?_
    refine AllReadyH.cons rfl (fun K hK => ?_) AllReadyH.nil
    refine step_any rfl (op_loadC rfl one82 rfl (K17 _ (by (repeat (first | with_reducible exact Ext.refl _ | with_reducible assumption | refine Ext.trans ?_ (by with_reducible assumption) | refine Ext.alloc ?_ _ _ | refine Ext.drew ?_ | refine Ext.drewN ?_ _)))) ?_)
    refine hK.out _ _ HH.out (fun hHeld => ?_)
    clear hK K HH
    have HH : Hid (Mod (fun x => ¬ x = B2) W0 _) := hHeld
    clear hHeld
    change wpAnyH _ _ _ _ _ _ _ (Act.put _ (some 91) _) _
    simp only [Act.put, List.setIfInBounds_toArray, List.set_cons_zero, List.set_cons_succ]
    refine wpAnyH_ready (rs := [9]) (by kernel_rfl) (by simp) ?_
    refine AllReadyH.cons rfl (fun K hK => ?_) AllReadyH.nil
    refine step_append1 rfl _ _ 95 rfl 439 Hvah.t439 _ 9 under82 info431 zero431 size431 rfl bytes431 (.slice o9 n cap9) n b c9 (HA _ (by (repeat (first | with_reducible exact Ext.refl _ | with_reducible assumption | refine Ext.trans ?_ (by with_reducible assumption) | refine Ext.alloc ?_ _ _ | refine Ext.drew ?_ | refine Ext.drewN ?_ _)))) (by omega) ⟨B9, 0, none⟩ 1 (tempZ ii k).toList rfl r9 (tempZ_one ii k) rfl rfl ?_
    rintro v' W10 b' c' hG
    obtain ⟨cp', rfl⟩ := hG.some
    have hEW9 : Ext X W9 := by (repeat (first | with_reducible exact Ext.refl _ | with_reducible assumption | refine Ext.trans ?_ (by with_reducible assumption) | refine Ext.alloc ?_ _ _ | refine Ext.drew ?_ | refine Ext.drewN ?_ _))
    have hBoth : Blk W10 g 27024 105 c6 ∧ Blk W10 bt capt 21 ct ∧ Mod (fun x => ¬ x = B2) W9 W10 := by
      rcases hG.how with ⟨_, ⟨cp, hc⟩, hm⟩ | ⟨_, hx⟩
      · have hob : own1 b = 5 := hTag cp (by rw [hv2, hn2]; exact hc)
        exact ⟨(h2.blk.ext hEW9).mod hm (fun e => by have h8 := h2.tag; rw [e, hob] at h8; omega), (hbt.ext hEW9).mod hm (fun e => by rw [e, hob] at hot; omega), hm.sub (fun x hx hq => by have hx2 : x = b := hx; rw [← hx2, hq, hoB2] at hob; omega)⟩
      · exact ⟨(h2.blk.ext hEW9).ext hx, (hbt.ext hEW9).ext hx, hx.mod _⟩
    obtain ⟨hBg, hBt10, hmB⟩ := hBoth
    refine hK.out _ _ (HH.out.trans hmB) (fun hHeld => ?_)
    clear hK K HH
    have HH : Hid (Mod (fun x => ¬ x = B2) W0 _) := hHeld
    clear hHeld
    change wpAnyH _ _ _ _ _ _ _ (Act.put _ (some 96) _) _
    simp only [Act.put, List.setIfInBounds_toArray, List.set_cons_zero, List.set_cons_succ]
    refine wpAnyH_take (i := 10) (v := ?_) rfl (by kernel_rfl) (by kernel_rfl) (by kernel_rfl) (fun _ _ _ h => h) (Or.inl ⟨by rfl, ?_⟩) HH.out ?_
    rotate_left
    · intro w hSw; go_simp; try with_reducible rfl
    change wpAnyH _ _ _ _ _ _ _ (Act.put _ (some 97) _) _
    simp only [Act.put, List.setIfInBounds_toArray, List.set_cons_zero, List.set_cons_succ]
    refine wpAnyH_take (i := 11) (v := ?_) rfl (by kernel_rfl) (by kernel_rfl) (by kernel_rfl) (fun _ _ _ h => h) (Or.inl ⟨by rfl, ?_⟩) HH.out ?_
    rotate_left
    · intro w hSw; go_simp; try with_reducible rfl
    change wpAnyH _ _ _ _ _ _ _ (Act.put _ (some 98) _) _
    simp only [Act.put, List.setIfInBounds_toArray, List.set_cons_zero, List.set_cons_succ]
    refine wpAnyH_ready (rs := [12]) (by kernel_rfl) (by simp) ?_
    refine AllReadyH.cons rfl (fun K hK => ?_) AllReadyH.nil
    refine step_any rfl (op_store1 rfl one82 rfl rfl rfl hBg (by decide) ?_)
    rintro W11 b11 m11
    have hBt11 := hBt10.mod m11 (fun q => hbtg q)
    refine hK.out _ _ ?_ (fun hHeld => ?_)
    · exact HH.out.trans (m11.sub (fun x hx hq => hgB2 (by have hx2 : x = g := hx; rw [← hx2]; exact hq)))
    clear hK K HH
    have HH : Hid (Mod (fun x => ¬ x = B2) W0 _) := hHeld
    clear hHeld
    change wpAnyH _ _ _ _ _ _ _ (Act.put _ none _) _
    simp only [Act.put, List.setIfInBounds_toArray, List.set_cons_zero, List.set_cons_succ]
    refine wpAnyH_done (by kernel_rfl) ?_ _
    · go_wp2_with (first | ((with_reducible (refine Veil.out ?_; apply wl_load1 one83)); (case hx => rfl); (case hB => exact b11.ext (by (repeat (first | with_reducible exact Ext.refl _ | with_reducible assumption | refine Ext.trans ?_ (by with_reducible assumption) | refine Ext.alloc ?_ _ _ | refine Ext.drew ?_ | refine Ext.drewN ?_ _)))); (case ho => decide); rw [updv_ne _ _ (show (27018 : Nat) ≠ 27017 by decide), htv]) | ((with_reducible (refine Veil.out ?_; apply wl_storeC one21)); (case hx => rfl); (case hy => rfl); (case h1 => rfl); (case hB => exact hBt11.ext (by (repeat (first | with_reducible exact Ext.refl _ | with_reducible assumption | refine Ext.trans ?_ (by with_reducible assumption) | refine Ext.alloc ?_ _ _ | refine Ext.drew ?_ | refine Ext.drewN ?_ _)))); (case hi => omega); rintro W12 b12 m12))
      go_ret2
      obtain ⟨own9, hr9, hs9⟩ := temp_end h2 hat hk hjn2 (by rw [hn2]; exact hrT) htv hcapt hbt hot htc hTok hd hfree hbusy hEW9 hTag hRows (by rw [hv2, hn2]; exact hG) m11 b11 m12 (by rw [hPe.out, hn2]; exact b12)
      have e2 : V.needAT a k = (V.need a).needT ii k := by unfold EV.needAT; rw [hii.out]
      have e3 : V.atAT a k = n := by unfold EV.atAT EV.atT; rw [hii.out, hjn2]; exact hn2
      rw [e2, e3]
      exact ⟨rfl, own9, _, hr9, s2.trans hs9⟩
end
end Go.Proofs.YgvahwGreat
