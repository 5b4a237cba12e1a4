import Derived.Test.YgvahwGreatYZf
import Derived.Test.YgvahwGreatRowsG
import Derived.Test.YgvahwGreatRowsL
import Derived.Test.YgvahwGreatRowsM
import Derived.Test.YgvahwGreatRowsN
import Derived.Test.YgvahwGreatKc
import Derived.Test.YgvahwGreatYpB
namespace Go.Proofs.YgvahwGreat
open Go.RowKit
set_option linter.unusedSimpArgs false

theorem onet94j : OneT 107 := oneT_of (by kernel_rfl) (by kernel_rfl)
theorem b108g {a : Nat} (ha : a < 2 ^ 160) {u : Value} (hu : u.oneCell' = true) : ∀ w, (Instr.build 121 ([(0, .agg (av a)), (2, u)] : List (Nat × Value)).toArray).run Hvah.prog w = .ok (.agg (acR a (.slice none 0 0) u (.slice none 0 0) (.slice none 0 0))) w := fun w => by
  rw [run_build_gen (pl := [(0, 20), (20, 1), (21, 1), (22, 1), (23, 1)]) (z := #[.int .u8 0, .int .u8 0, .int .u8 0, .int .u8 0, .int .u8 0, .int .u8 0, .int .u8 0, .int .u8 0, .int .u8 0, .int .u8 0, .int .u8 0, .int .u8 0, .int .u8 0, .int .u8 0, .int .u8 0, .int .u8 0, .int .u8 0, .int .u8 0, .int .u8 0, .int .u8 0, .slice none 0 0, .slice none 0 0, .slice none 0 0, .slice none 0 0]) (by kernel_rfl) (by kernel_rfl) ([(0, .agg (av a)), (2, u)] : List (Nat × Value)) ⟨0, 20, rfl, av_size ha, by decide, 21, 1, rfl, by rw [one_cells hu]; rfl, by decide, trivial⟩ w]
  congr 2
  refine ext_cf (by rw [bld_size, acR_size ha]; rfl) (fun i hi => ?_)
  rw [bld_size] at hi
  have hi : i < 24 := hi
  rw [bld_get _ _ _ hi]
  simp only [partsA, List.map_cons, List.map_nil, List.getD_cons_zero, List.getD_cons_succ, bldc, one_cells hu, layv_one, one_agg]
  have hsz := av_size ha
  unfold acR
  rw [cf_append, hsz]
  by_cases h20 : i < 20
  · rw [if_pos h20, updv_ne _ _ (by omega)]
    have := layv_in (cf #[.int .u8 0, .int .u8 0, .int .u8 0, .int .u8 0, .int .u8 0, .int .u8 0, .int .u8 0, .int .u8 0, .int .u8 0, .int .u8 0, .int .u8 0, .int .u8 0, .int .u8 0, .int .u8 0, .int .u8 0, .int .u8 0, .int .u8 0, .int .u8 0, .int .u8 0, .int .u8 0, .slice none 0 0, .slice none 0 0, .slice none 0 0, .slice none 0 0]) 0 (av a) (j := i) (by omega)
    rwa [Nat.zero_add] at this
  · rw [if_neg h20]
    obtain ⟨k, rfl⟩ : ∃ k, i = 20 + k := ⟨i - 20, by omega⟩
    rw [Nat.add_sub_cancel_left]
    have hk : k < 4 := by omega
    match k, hk with
    | 0, _ => rw [updv_ne _ _ (by decide), layv_out _ _ _ (by rw [hsz]; omega)]; rfl
    | 1, _ => rw [updv_same]; rfl
    | 2, _ => rw [updv_ne _ _ (by decide), layv_out _ _ _ (by rw [hsz]; omega)]; rfl
    | 3, _ => rw [updv_ne _ _ (by decide), layv_out _ _ _ (by rw [hsz]; omega)]; rfl
theorem goesL_take (W : YW) (l : List Nat) (i : Nat) (hi : i < l.length) : W.goesL (l.take (i + 1)) = (W.goesL (l.take i)).put ⟨l[i], 0, ((W.goesL (l.take i)).acct l[i]).bal, [], []⟩ := by
  unfold YW.goesL
  rw [List.take_add_one, List.getElem?_eq_getElem hi, List.foldl_append]
  rfl
section
variable {O TL : Nat → Prop} {w : World} {Y F n : Nat} {c d : Nat → Value} {W : YW} {start : List (Nat × Nat × Nat)} {st : ASt} {tot : Nat} {L : List YFrm}
theorem zAccY (h : YZ O TL w Y F n c d W start st tot L) (a : Nat) (ha : a < 2 ^ 160) : Calls Hvah.prog 53 #[.pointer (some ⟨Y, 0, none⟩), .agg (av a)] w fun e w' => ∃ u1 u2 u3 u4, e = .returned (.agg (acR a u1 u2 u3 u4)) ∧ AcP O w' (W.acct a) u1 u2 u3 u4 ∧ AcG a u1 u2 u3 u4 ∧ Ext w w' := by
  refine (yAccount h.bY (by decide) W.accts h.wc.accts a ha (Nat.le_trans h.lim.accts (by decide))).mono ?_
  rintro e w1 ⟨r, rfl, ⟨u1, u2, u3, u4, rfl, hp⟩, he⟩
  have hp2 : AcP O w1 (W.acct a) u1 u2 u3 u4 := hp
  refine ⟨u1, u2, u3, u4, ?_, hp2, hp2.g (W.acct_addr a), he⟩
  have := W.acct_addr a
  unfold YW.acct at this
  rw [this]
set_option maxRecDepth 100000 in
set_option maxHeartbeats 6400000 in
theorem zGoes (h : YZ O TL w Y F n c d W start st tot L) (hlim : ∀ i, i ≤ W.gone.length → YLim (W.goesL (W.gone.take i))) (hgl : ∀ a ∈ W.gone, a < 2 ^ 160) :
    Calls Hvah.prog 81 #[.pointer (some ⟨Y, 0, none⟩)] w fun e w' => e = .returned (.tuple #[]) ∧ ∃ c', YZ O TL w' Y F n c' d (W.goesL W.gone) start { st with now := (W.goesL W.gone).abs } tot L ∧ Mod (· = Y) w w' := by
  have hYl := h.bY.lt
  have hgn := h.wc.gone
  obtain ⟨o, cap, hv, hmax⟩ := hgn.slice
  have hgl9 := h.lim.gone
  obtain ⟨G, hG⟩ : ∃ G, Hid (W.gone = G) := ⟨_, rfl⟩
  have hst0 : ({ st with now := W.abs } : ASt) = st := by rw [← h.now]
  have h0 : YZ O TL w Y F n c d (W.goesL (G.take 0)) start { st with now := (W.goesL (G.take 0)).abs } tot L := by
    have e : W.goesL (G.take 0) = W := by simp [YW.goesL]
    rw [e, hst0]; exact h
  rw [hG.out] at hgn hv hlim hgl hgl9
  have hgw : ∀ W', Mod (· = Y) w W' → AddrL O W' (c 7) G := fun W' hm => AddrL.keep hgn hm h.hsY
  have hwf : ∀ i, (W.goesL (G.take i)).WF := fun i => W.goesL_wf _ h.wf (fun a ha => hgl a (List.mem_of_mem_take ha)) 
  have hLi : (G.length : Int) ≤ 90000 := by omega
  have hv7 : c 7 = .slice o G.length cap := hv
  have hgwH : Hid (∀ W', Mod (· = Y) w W' → AddrL O W' (c 7) G) := hgw
  have hlimH : Hid (∀ i, i ≤ G.length → YLim (W.goesL (G.take i))) := hlim
  have hglH : Hid (∀ a ∈ G, a < 2 ^ 160) := hgl
  have hwfH : Hid (∀ i, (W.goesL (G.take i)).WF) := hwf
  rw [hG.out]
  clear hgw hlim hgl hwf hgn hst0
  go_enter Hvah.func81, Hvah.ntmps81
  go_upto_block 0 with ((with_reducible (refine Veil.out ?_; apply wl_loadC onet94j)); (case hw => rfl); (case hx => rfl); (case hc => exact (h.bY.cell (i := 7) (by decide)).trans (congrArg some hv7)))
  go_upto_region 1 with (fail)
  try simp only [Act.put]
  go_loopw [9] (fun iv wr => ∃ i : Nat, iv = .int .i64 (i : Nat) ∧ i ≤ G.length ∧ Hid (∃ ci, YZ O TL wr Y F n ci d (W.goesL (G.take i)) start { st with now := (W.goesL (G.take i)).abs } tot L) ∧ Mod (· = Y) w wr) (fun iv _ => G.length - (intOf iv).toNat)
  case atStart =>
    have k : ∃ ci, YZ O TL w Y F n ci d (W.goesL (G.take 0)) start { st with now := (W.goesL (G.take 0)).abs } tot L := ⟨c, h0⟩
    exact ⟨0, rfl, Nat.zero_le _, k, Mod.refl _ _⟩
  case round =>
    obtain ⟨i, rfl, hi, hZe, hm⟩ := hrel
    obtain ⟨ci, hZ⟩ := hZe.out
    clear hZe
    rcases Nat.lt_or_ge i G.length with hlt | hge
    · have z1 : (i : Int) < (G.length : Int) := by omega
      have z2 : IntKind.i64.wrap ((i : Int) + 1) = ((i + 1 : Nat) : Int) := by rw [IntKind.wrap_i64]; omega
      obtain ⟨b, cap', cs, hvb, hcap, hcm, hb, hnO, hrow⟩ := (hgwH.out wr hm).at_ (fun q => by rw [q] at hlt; cases hlt)
      rw [hv7] at hvb
      injection hvb with hv1 _ hv2
      subst hv1
      have hrk := hrow i hlt
      have hal : G[i] < 2 ^ 160 := hrk.2
      have hib : i * 20 + 20 ≤ cap' * 20 := by have := Nat.mul_le_mul_right 20 (Nat.le_trans hlt hcap); omega
      have HR : ∀ W', Ext wr W' → RowIn W' b (i * 20) (av G[i]) := fun W' hW => hrk.1.row hal (hb.ext hW) hib
      have hgt := goesL_take W G i hlt
      have hlm := hlimH.out (i + 1) hlt
      have hwf1 := hwfH.out (i + 1)
      rw [hgt] at hlm hwf1
      have hgtH : Hid (W.goesL (G.take (i + 1)) = _) := hgt
      clear hgt hrow hrk
      obtain ⟨a, ha⟩ : ∃ a, Hid (G[i]'hlt = a) := ⟨G[i]'hlt, rfl⟩
      rw [ha.out] at HR hal hlm hwf1 hgtH
      obtain ⟨Wi, hWi⟩ : ∃ X, Hid (W.goesL (G.take i) = X) := ⟨_, rfl⟩
      rw [hWi.out] at hZ hlm hwf1 hgtH
      go_upto_region 3 with (first | ((with_reducible (refine Veil.out ?_; apply wl_loadR rt25)); (case hx => rfl); (case hr => exact HR _ (by (repeat (first | with_reducible exact Ext.refl _ | with_reducible assumption | refine Ext.trans ?_ (by with_reducible assumption) | refine Ext.alloc ?_ _ _ | refine Ext.drew ?_ | refine Ext.drewN ?_ _)))); (case hn => exact av_size hal)) | ((with_reducible (refine Veil.out ?_; apply wl_allocA)); rintro B W1 c1 e1 b1 a1 g1) | ((with_reducible (refine Veil.out ?_; apply wl_storeA)); (case hx => rfl); (case hy => rfl); (case hv => exact hal); (case hB => exact b1); (case hi => decide); rintro W3 c3 b3 a3 _ m3))
      have E3 : Ext wr W3 := Ext.trans_mod e1 m3 (fun q hq => by have hq2 : q = B := hq; rw [hq2]; exact g1)
      have hBY : ¬ B = Y := by have := hm.size; omega
      have hZ3 := hZ.ext E3
      clear HR b1 m3
      refine w_ext ?_
      rintro W0 hW0
      refine wp_region_held_drew (S := fun w' => Mod (fun x => x = Y) W0 w') (by kernel_rfl) (Mod.refl _ _).drew (fun hHeld => ?_)
      have HH : Hid (Mod (fun x => x = Y) W0 _) := hHeld
      clear hHeld
      refine wpAnyH_take (i := 0) (v := ?_) rfl (by kernel_rfl) (by kernel_rfl) (by kernel_rfl) (fun _ _ _ h => h) (Or.inl ⟨by rfl, ?_⟩) HH.out ?_
      rotate_left
      · intro w hSw; go_simp; try with_reducible rfl
      change wpAnyH _ _ _ _ _ _ _ (Act.put _ (some 13) _) _
      simp only [Act.put, List.setIfInBounds_toArray, List.set_cons_zero, List.set_cons_succ]
      refine wpAnyH_take (i := 1) rfl (by kernel_rfl) (by kernel_rfl) (by kernel_rfl) (fun _ _ _ h => h) (yields_A (by rfl) rfl rfl (fun w hSw => (b3.ext hW0).mod hSw hBY) a3 hal (by decide)) HH.out ?_
      change wpAnyH _ _ _ _ _ _ _ (Act.put _ (some 14) _) _
      simp only [Act.put, List.setIfInBounds_toArray, List.set_cons_zero, List.set_cons_succ]
      refine wpAnyH_take (i := 2) (v := ?_) rfl (by kernel_rfl) (by kernel_rfl) (by kernel_rfl) (fun _ _ _ h => h) (Or.inl ⟨by rfl, ?_⟩) HH.out ?_
      rotate_left
      · intro w hSw; go_simp; try with_reducible rfl
      change wpAnyH _ _ _ _ _ _ _ (Act.put _ (some 15) _) _
      simp only [Act.put, List.setIfInBounds_toArray, List.set_cons_zero, List.set_cons_succ]
      refine wpAnyH_take (i := 3) rfl (by kernel_rfl) (by kernel_rfl) (by kernel_rfl) (fun _ _ _ h => h) (yields_A (by rfl) rfl rfl (fun w hSw => (b3.ext hW0).mod hSw hBY) a3 hal (by decide)) HH.out ?_
      change wpAnyH _ _ _ _ _ _ _ (Act.put _ (some 16) _) _
      simp only [Act.put, List.setIfInBounds_toArray, List.set_cons_zero, List.set_cons_succ]
      refine wpAnyH_ready (rs := [4]) (by kernel_rfl) (by simp) ?_
      refine AllReadyH.cons rfl (fun K hK => ?_) AllReadyH.nil
      go_simp
      go_at_call 53; refine (zAccY (hZ3.ext (by (repeat (first | with_reducible exact Ext.refl _ | with_reducible assumption | refine Ext.trans ?_ (by with_reducible assumption) | refine Ext.alloc ?_ _ _ | refine Ext.drew ?_ | refine Ext.drewN ?_ _)))) a hal).mono ?_; rintro e w4 ⟨u1, u2, u3, u4, rfl, hp, ⟨f1, f2, f3, f4, f5, f6⟩, he⟩
      refine hK.out _ _ ?_ (fun hHeld => ?_)
      · first | exact HH.out.trans hmY | exact HH.out.trans_ext he | exact HH.out
      clear hK K HH
      have HH : Hid (Mod (fun x => x = Y) W0 _) := hHeld
      clear hHeld
      refine wpAnyH_take (i := 5) (v := ?_) rfl (by kernel_rfl) (by kernel_rfl) (by kernel_rfl) (fun _ _ _ h => h) (Or.inl ⟨by rfl, ?_⟩) HH.out ?_
      rotate_left
      · intro w hSw; go_simp; try with_reducible rfl
      change wpAnyH _ _ _ _ _ _ _ (Act.put _ (some 18) _) _
      simp only [Act.put, List.setIfInBounds_toArray, List.set_cons_zero, List.set_cons_succ]
      refine wpAnyH_take (i := 6) rfl (by kernel_rfl) (by kernel_rfl) (by kernel_rfl) (fun _ _ _ h => h) (yields_build (ps := [(0, .agg (av a)), (2, u2)]) (by rfl) rfl (b108g hal (nv_onez hp.bal)) (by simp [Act.eval])) HH.out ?_
      change wpAnyH _ _ _ _ _ _ _ (Act.put _ (some 19) _) _
      simp only [Act.put, List.setIfInBounds_toArray, List.set_cons_zero, List.set_cons_succ]
      refine wpAnyH_ready (rs := [7]) (by kernel_rfl) (by simp) ?_
      refine AllReadyH.cons rfl (fun K hK => ?_) AllReadyH.nil
      go_simp
      go_at_call 136; refine (zPut (hZ3.ext (by (repeat (first | with_reducible exact Ext.refl _ | with_reducible assumption | refine Ext.trans ?_ (by with_reducible assumption) | refine Ext.alloc ?_ _ _ | refine Ext.drew ?_ | refine Ext.drewN ?_ _)))) ⟨a, 0, (Wi.acct a).bal, [], []⟩ _ ⟨_, _, _, _, rfl, ⟨hal, NV.nil, hp.bal.ext (by (repeat (first | with_reducible exact Ext.refl _ | with_reducible assumption | refine Ext.trans ?_ (by with_reducible assumption) | refine Ext.alloc ?_ _ _ | refine Ext.drew ?_ | refine Ext.drewN ?_ _))), NL.nil, Or.inl ⟨rfl, rfl⟩⟩⟩ hlm hwf1 rfl).mono ?_; rintro e w5 ⟨c5, rfl, h5, hmY⟩
      refine hK.out _ _ ?_ (fun hHeld => ?_)
      · first | exact HH.out.trans hmY | exact HH.out.trans_ext he | exact HH.out
      clear hK K HH
      have HH : Hid (Mod (fun x => x = Y) W0 _) := hHeld
      clear hHeld
      refine wpAnyH_done (by kernel_rfl) ?_ _
      have M5 : Mod (· = Y) w w5 := (hm.trans_ext (E3.trans hW0)).trans HH.out
      go_wp2
      go_roundw
      case rel =>
        have k : ∃ ci, YZ O TL w5 Y F n ci d (W.goesL (G.take (i + 1))) start { st with now := (W.goesL (G.take (i + 1))).abs } tot L := ⟨c5, by rw [hgtH.out]; exact h5⟩
        exact ⟨i + 1, by simp, hlt, k⟩
      case measure => simp [intOf]; omega
    · have z1 : ¬ (i : Int) < (G.length : Int) := by omega
      have e : i = G.length := by omega
      subst e
      rw [List.take_length] at hZ
      go_wp2
      go_end0
      first | exact ⟨rfl, ci, hZ, hm⟩ | exact ⟨rfl, ⟨ci, hZ⟩, hm⟩
end
end Go.Proofs.YgvahwGreat
