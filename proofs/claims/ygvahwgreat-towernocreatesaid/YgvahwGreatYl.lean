import Derived.Test.YgvahwGreatYlB
namespace Go.Proofs.YgvahwGreat
open Go.RowKit
set_option linter.unusedSimpArgs false
section
variable {O TL : Nat → Prop} {w : World} {Y F n : Nat} {c d : Nat → Value} {W : YW} {start : List (Nat × Nat × Nat)} {st : ASt} {tot : Nat} {x : YFrm} {r : List YFrm}
set_option maxRecDepth 100000 in
set_option maxHeartbeats 6400000 in
theorem zLeave (h : YZ O TL w Y F n c d W start st tot (x :: r)) (s : Nat) (hs : s < 256) (vo : Value) (out : List Nat) (hvo : NL O w vo out) (hol : out.length ≤ 717280)
    (hcode : lvDep x.f s = true → lvS x.f s out = 0 → YLim (W.setCode x.f.self out)) (hpar : ∀ p r', r = p :: r' → p.f.gas + x.f.gas ≤ 1048576 ∧ p.f.stack.length < 64 ∧ p.f.pc < 60000) :
    Calls Hvah.prog 69 #[.pointer (some ⟨Y, 0, none⟩), .int .u8 s, vo] w fun e w' => e = .returned (.tuple #[]) ∧ YLv O TL w w' Y F n (lvW W x s out) start (st.leave x.f (r.map (·.f)) s out) tot r := by
  have hYl : Y < w.heap.size := h.bY.lt
  have hFl : F < w.heap.size := h.top.bF.lt
  have hok := h.top.ok
  have hLW := lvW_abs h s out
  obtain ⟨k, hkr⟩ : ∃ k, Hid (k = r.length) := ⟨_, rfl⟩
  have hk7 : k < 1000 := by have := h.few; have q := hkr.out; simp at this; omega
  obtain ⟨cap, hc9, hcap, hcap2, bF, hcn⟩ : ∃ cap, c 9 = .slice (some ⟨F, 0, none⟩) (k + 1 : Nat) cap ∧ k + 1 ≤ cap ∧ cap ≤ 9223372036854775807 ∧ Blk w F n 156 d ∧ (cap * 60 = n ∨ (cap = k + 1 ∧ (k + 1) * 60 ≤ n)) := by
    rcases h.fv with q | q
    · simp at q
    · rw [hkr.out]; exact q
  have hn : k * 60 + 60 ≤ n := by have := h.top.hq; have q := hkr.out; omega
  have zk : ¬ ((k : Int) + 1 = 0) := by omega
  have jk : IntKind.i64.wrap (((k + 1 : Nat) : Int) - 1) = (k : Int) := by rw [IntKind.wrap_i64]; omega
  have jk' : IntKind.i64.wrap ((k : Int) + 1 - 1) = (k : Int) := by rw [IntKind.wrap_i64]; omega
  have zl : (k : Int) < ((k + 1 : Nat) : Int) := by omega
  have zl' : (k : Int) < (k : Int) + 1 := by omega
  have zk0 : (0 : Int) ≤ k := by omega
  have jk2 : IntKind.i64.wrap (k : Int) = (k : Int) := by rw [IntKind.wrap_i64]; omega
  obtain ⟨z, hz1, hz2⟩ := z147l
  have hr60 : Ones (rowOf d (k * 60) 60) := by rw [hkr.out]; exact h.fl.1.ones
  obtain ⟨mk, hmk⟩ : ∃ b, Hid (createsA x.f.kind = b) := ⟨_, rfl⟩
  go_enter Hvah.func69, Hvah.ntmps69
  go_upto_region 0 with (fail)
  refine w_ext ?_
  rintro W0 hW0
  refine wp_region_held_drew (S := fun w' => Ext W0 w') (by kernel_rfl) (Ext.refl _).drew (fun hHeld => ?_)
  have HH : Hid (Ext W0 _) := hHeld
  clear hHeld
  refine wpAnyH_take (i := 0) (v := ?_) rfl (by kernel_rfl) (by kernel_rfl) (by kernel_rfl) (fun _ _ _ h => h) (Or.inl ⟨by rfl, ?_⟩) HH.out ?_
  rotate_left
  · intro w hSw; go_simp; try with_reducible rfl
  change wpAnyH _ _ _ _ _ _ _ (Act.put _ (some 13) _) _
  simp only [Act.put, List.setIfInBounds_toArray, List.set_cons_zero, List.set_cons_succ]
  refine wpAnyH_take (i := 1) (v := ?_) rfl (by kernel_rfl) (by kernel_rfl) (by kernel_rfl) (fun _ _ _ h => h) (Or.inl ⟨by rfl, ?_⟩) HH.out ?_
  rotate_left
  · intro w hSw; go_simp; try with_reducible rfl
  change wpAnyH _ _ _ _ _ _ _ (Act.put _ (some 14) _) _
  simp only [Act.put, List.setIfInBounds_toArray, List.set_cons_zero, List.set_cons_succ]
  refine wpAnyH_take (i := 2) (v := ?_) rfl (by kernel_rfl) (by kernel_rfl) (by kernel_rfl) (fun _ _ _ h => h) (Or.inl ⟨by rfl, ?_⟩) HH.out ?_
  rotate_left
  · intro w hSw; go_simp; try with_reducible rfl
  change wpAnyH _ _ _ _ _ _ _ (Act.put _ (some 15) _) _
  simp only [Act.put, List.setIfInBounds_toArray, List.set_cons_zero, List.set_cons_succ]
  refine wpAnyH_take (i := 3) rfl (by kernel_rfl) (by kernel_rfl) (by kernel_rfl) (fun _ _ _ h => h) (yieldsIf_load1 (by rfl) _ _ rfl _ _ rfl onet101l _ (fun w hSw => by rw [(h.bY.ext (hW0.trans hSw)).cell (by decide), hc9])) HH.out ?_
  change wpAnyH _ _ _ _ _ _ _ (Act.put _ (some 16) _) _
  simp only [Act.put, List.setIfInBounds_toArray, List.set_cons_zero, List.set_cons_succ]
  refine wpAnyH_take (i := 4) (v := ?_) rfl (by kernel_rfl) (by kernel_rfl) (by kernel_rfl) (fun _ _ _ h => h) (Or.inl ⟨by rfl, ?_⟩) HH.out ?_
  rotate_left
  · intro w hSw; go_simp; try with_reducible rfl
  change wpAnyH _ _ _ _ _ _ _ (Act.put _ (some 17) _) _
  simp only [Act.put, List.setIfInBounds_toArray, List.set_cons_zero, List.set_cons_succ]
  refine wpAnyH_take (i := 5) (v := ?_) rfl (by kernel_rfl) (by kernel_rfl) (by kernel_rfl) (fun _ _ _ h => h) (Or.inl ⟨by rfl, ?_⟩) HH.out ?_
  rotate_left
  · intro w hSw; go_simp; try with_reducible rfl
  change wpAnyH _ _ _ _ _ _ _ (Act.put _ (some 18) _) _
  simp only [Act.put, List.setIfInBounds_toArray, List.set_cons_zero, List.set_cons_succ]
  refine wpAnyH_take (i := 6) (v := ?_) rfl (by kernel_rfl) (by kernel_rfl) (by kernel_rfl) (fun _ _ _ h => h) (Or.inl ⟨by rfl, ?_⟩) HH.out ?_
  rotate_left
  · intro w hSw; go_simp; try with_reducible rfl
  change wpAnyH _ _ _ _ _ _ _ (Act.put _ (some 19) _) _
  simp only [Act.put, List.setIfInBounds_toArray, List.set_cons_zero, List.set_cons_succ]
  refine wpAnyH_take (i := 7) rfl (by kernel_rfl) (by kernel_rfl) (by kernel_rfl) (fun _ _ _ h => h) (yieldsIf_load1 (by rfl) _ _ rfl _ _ rfl onet101l _ (fun w hSw => by rw [(h.bY.ext (hW0.trans hSw)).cell (by decide), hc9])) HH.out ?_
  change wpAnyH _ _ _ _ _ _ _ (Act.put _ (some 20) _) _
  simp only [Act.put, List.setIfInBounds_toArray, List.set_cons_zero, List.set_cons_succ]
  refine wpAnyH_take (i := 8) (v := ?_) rfl (by kernel_rfl) (by kernel_rfl) (by kernel_rfl) (fun _ _ _ h => h) (Or.inl ⟨by rfl, ?_⟩) HH.out ?_
  rotate_left
  · intro w hSw; go_simp; try with_reducible rfl
  change wpAnyH _ _ _ _ _ _ _ (Act.put _ (some 21) _) _
  simp only [Act.put, List.setIfInBounds_toArray, List.set_cons_zero, List.set_cons_succ]
  refine wpAnyH_take (i := 9) (v := ?_) rfl (by kernel_rfl) (by kernel_rfl) (by kernel_rfl) (fun _ _ _ h => h) (Or.inl ⟨by rfl, ?_⟩) HH.out ?_
  rotate_left
  · intro w hSw; go_simp; try with_reducible rfl
  change wpAnyH _ _ _ _ _ _ _ (Act.put _ (some 22) _) _
  simp only [Act.put, List.setIfInBounds_toArray, List.set_cons_zero, List.set_cons_succ]
  refine wpAnyH_take (i := 10) (v := ?_) rfl (by kernel_rfl) (by kernel_rfl) (by kernel_rfl) (fun _ _ _ h => h) (Or.inl ⟨by rfl, ?_⟩) HH.out ?_
  rotate_left
  · intro w hSw; go_simp; try with_reducible rfl
  change wpAnyH _ _ _ _ _ _ _ (Act.put _ (some 23) _) _
  simp only [Act.put, List.setIfInBounds_toArray, List.set_cons_zero, List.set_cons_succ]
  refine wpAnyH_take (i := 11) rfl (by kernel_rfl) (by kernel_rfl) (by kernel_rfl) (fun _ _ _ h => h) (yieldsRowL rt147l (by rfl) rfl rfl (fun w hSw => bF.ext (hW0.trans hSw)) hn) HH.out ?_
  change wpAnyH _ _ _ _ _ _ _ (Act.put _ (some 24) _) _
  simp only [Act.put, List.setIfInBounds_toArray, List.set_cons_zero, List.set_cons_succ]
  refine wpAnyH_ready (rs := [12]) (by kernel_rfl) (by simp) ?_
  refine AllReadyH.cons rfl (fun K hK => ?_) AllReadyH.nil
  refine step_any rfl (op_alloc rfl hz1 hz2 ?_)
  rintro B W1 e1 b1 g1
  refine hK.out _ _ ?_ (fun hHeld => ?_)
  · exact HH.out.trans e1
  clear hK K HH
  have HH : Hid (Ext W0 _) := hHeld
  clear hHeld
  change wpAnyH _ _ _ _ _ _ _ (Act.put _ (some 6) _) _
  simp only [Act.put, List.setIfInBounds_toArray, List.set_cons_zero, List.set_cons_succ]
  refine wpAnyH_ready (rs := [13]) (by kernel_rfl) (by simp) ?_
  refine AllReadyH.cons rfl (fun K hK => ?_) AllReadyH.nil
  refine step_any rfl (op_storeRow rfl rt147l rfl rfl (rowOf_size _ _ _) hr60 (b1.ext (by (repeat (first | with_reducible exact Ext.refl _ | with_reducible assumption | refine Ext.trans ?_ (by with_reducible assumption) | refine Ext.alloc ?_ _ _ | refine Ext.drew ?_ | refine Ext.drewN ?_ _)))) (by decide) ?_)
  rintro W2 b2 m2
  refine hK.out _ _ ?_ (fun hHeld => ?_)
  · exact Ext.trans_mod HH.out m2 (fun q hq => by have hq2 : q = B := hq; rw [hq2]; exact Nat.le_trans (Ext.size (by (repeat (first | with_reducible exact Ext.refl _ | with_reducible assumption | refine Ext.trans ?_ (by with_reducible assumption) | refine Ext.alloc ?_ _ _ | refine Ext.drew ?_ | refine Ext.drewN ?_ _)))) g1)
  clear hK K HH
  have HH : Hid (Ext W0 _) := hHeld
  clear hHeld
  change wpAnyH _ _ _ _ _ _ _ (Act.put _ none _) _
  simp only [Act.put, List.setIfInBounds_toArray, List.set_cons_zero, List.set_cons_succ]
  refine wpAnyH_done (by kernel_rfl) ?_ _
  have E2 : Ext w W2 := hW0.trans HH.out
  have gB : w.heap.size ≤ B := Nat.le_trans (Ext.size (show Ext w _ by (repeat (first | with_reducible exact Ext.refl _ | with_reducible assumption | refine Ext.trans ?_ (by with_reducible assumption) | refine Ext.alloc ?_ _ _ | refine Ext.drew ?_ | refine Ext.drewN ?_ _)))) g1
  have hBY : ¬ B = Y := by omega
  have hBF : ¬ B = F := by omega
  have h2 := h.ext E2
  obtain ⟨dB, hdB⟩ : ∃ dB, dB = layv (cf z) 0 (rowOf d (k * 60) 60) := ⟨_, rfl⟩
  rw [← hdB] at b2
  have hcB : Hid (∀ j, j < 60 → dB j = d (k * 60 + j)) := fun j hj => by
    have := layv_in (cf z) 0 (rowOf d (k * 60) 60) (j := j) (by rw [rowOf_size]; exact hj)
    rw [Nat.zero_add] at this
    rw [hdB, this, cf_rowOf _ _ _ hj]
  have hf2 := h2.top.fc
  rw [← hkr.out] at hf2
  obtain ⟨vg, hvg⟩ : ∃ v, Hid (d (k * 60 + 4) = v) := ⟨_, rfl⟩
  have hgas : NV O W2 vg x.f.gas := by rw [← hvg.out]; exact hf2.gas
  have gas4 : dB 4 = vg := (hcB.out 4 (by decide)).trans hvg.out
  have kind0 : dB 0 = .int .u8 (x.f.kind : Nat) := by rw [hcB.out 0 (by decide)]; exact hf2.kind
  have hselfB : AAt dB 12 x.f.self := fun i v hv => by
    have hi : i < 20 := by have := (Array.getElem?_eq_some_iff.1 hv).1; rwa [av_size hok.self] at this
    rw [hcB.out _ (by omega), ← Nat.add_assoc]; exact hf2.self i v hv
  have hones8 : Ones (rowOf dB 52 8) := ones_of (fun j hj => by
    rw [rowOf_size] at hj
    rw [cf_rowOf _ _ _ hj, hcB.out _ (by omega)]
    have := hr60.get (i := 52 + j) (by rw [rowOf_size]; omega)
    rwa [cf_rowOf _ _ _ (by omega)] at this)
  have hk8 : x.f.kind < 256 := Nat.lt_of_le_of_lt hok.kind (by decide)
  have HCr := fun W1 => yCreates (w := W1) x.f.kind hk8
  rw [hmk.out] at HCr
  clear HH hW0 hdB b1 g1 m2 hc9 hcn
  go_upto_region 3 with (first | ((with_reducible (refine Veil.out ?_; apply wl_loadC onet96l)); (case hw => rfl); (case hx => rfl); (case hc => exact (b2.cell (i := 4) (by decide)).trans (congrArg some gas4))) | ((with_reducible (refine Veil.out ?_; apply wl_loadC onet5l)); (case hw => rfl); (case hx => rfl); (case hc => exact (b2.cell (i := 0) (by decide)).trans (congrArg some kind0))) | (go_at_call 141; refine (HCr _).mono ?_; rintro e w4 ⟨rfl, e4⟩; have e5 := e4.symm; subst e5))
  clear HCr
  go_cut [34] (fun v wx => v = .bool (mk && decide (s = 0)) ∧ Ext W2 wx)
  case first =>
    cases mk with
    | false =>
      go_wp2
      go_meet
      case rel => exact ⟨rfl, Ext.refl _⟩
    | true =>
      by_cases hs0 : s = 0
      · subst hs0
        go_wp2
        go_meet
        case rel => exact ⟨rfl, Ext.refl _⟩
      · have hsb : ¬ (s : Int) = 0 := by omega
        go_wp2
        go_meet
        case rel => exact ⟨by simp [hs0], Ext.refl _⟩
  case rest =>
  obtain ⟨rfl, hwc⟩ := hcut
  obtain ⟨WA, eWA⟩ : ∃ X, X = wc := ⟨_, rfl⟩
  subst eWA
  replace h2 := h2.ext hwc
  replace b2 := b2.ext hwc
  replace hgas := hgas.ext hwc
  replace E2 := E2.trans hwc
  obtain ⟨dep, hdep⟩ : ∃ b, Hid ((mk && decide (s = 0)) = b) := ⟨_, rfl⟩
  have hlvd : Hid (lvDep x.f s = dep) := by unfold lvDep; rw [hmk.out]; exact hdep.out
  rw [hdep.out]
  clear hwc
  go_upto_if 34 with (fail)
  go_cut [1, 2, 7] (fun vs vo' vg' wx => LvB O TL wx WA Y F n d W start st tot x r B dB s out vs vo' vg')
  case first =>
    have h2' : YZ O TL WA Y F n c d W start { st with now := W.abs } tot (x :: r) := by rw [← h.now]; exact h2
    cases dep with
    | false =>
      go_wp2
      go_meet
      case rel =>
        refine ⟨s, out, x.f.gas, c, W, rfl, hvo.ext E2, hgas, h2', b2, Mod.refl _ _, hs, ?_, fun q => ?_, fun q => ?_, fun q => ?_⟩
        · unfold lvS; rw [hlvd.out]; rfl
        · unfold lvO lvS; rw [hlvd.out]; simp; omega
        · unfold lvG lvS; rw [hlvd.out]; simp; omega
        · unfold lvW lvS; rw [hlvd.out, q]; simp
    | true =>
      have hq := hdep.out
      simp only [Bool.and_eq_true, decide_eq_true_eq] at hq
      have hs0 := hq.2
      clear hq
      subst hs0
      obtain ⟨dg, hdg⟩ : ∃ v, Hid ((depositA x.f.gas out).1 = v) := ⟨_, rfl⟩
      obtain ⟨ds, hds⟩ : ∃ v, Hid ((depositA x.f.gas out).2 = v) := ⟨_, rfl⟩
      have hds8 : ds < 256 := by rw [← hds.out]; exact (dep_le _ _).2
      have hS1 : Hid (lvS x.f 0 out = ds) := by unfold lvS; rw [hlvd.out]; exact hds.out
      have HD := yDeposit (q := 0) h2.small b2 (by decide) x.f.gas (by rw [Nat.zero_add, gas4]; exact hgas) out (hvo.ext E2) hol
      rw [hdg.out, hds.out] at HD
      have hvoA := hvo.ext E2
      go_upto_if 41 with (go_at_call 150; refine HD.mono ?_; rintro e w5 ⟨rv, rfl, hrv, he5⟩)
      have h5 := h2'.ext he5
      have b5 := b2.ext he5
      have hvo5 := hvoA.ext he5
      clear HD hds
      by_cases hd0 : ds = 0
      · subst hd0
        have hds0 := hS1.out
        obtain ⟨oo, co, hvoe, hv1, hv2, hv3⟩ := id hvo
        subst hvoe
        clear hv1 hv2 hv3
        go_upto_if 44 with (fail)
        by_cases hoe : out = []
        · subst hoe
          go_wp2
          go_meet
          case rel =>
            refine ⟨0, [], dg, c, W, rfl, NL.nil, hrv, h5, b5, he5.mod _, by decide, hds0.symm, fun q => ?_, fun q => ?_, fun q => ?_⟩
            · unfold lvO; rw [hds0, hlvd.out]; rfl
            · unfold lvG; rw [hds0, hlvd.out, if_neg (by decide), if_pos rfl]; exact hdg.out.symm
            · unfold lvW; rw [hds0, hlvd.out]; simp
        · have hl9 := hcode hlvd.out hds0
          have hoi : (0 : Int) < (out.length : Int) := by have := List.length_pos_iff.2 hoe; omega
          obtain ⟨z8, hz81, hz82⟩ := z108l
          go_upto_region 7 with (fail)
          refine w_ext ?_
          rintro W0 hW0
          refine' joinAc (P := _) (Fc := fun B9 W8 u1 u2 u3 u4 => Ext W0 W8 ∧ Blk W8 B9 24 121 (layv (cf z8) 0 (acR x.f.self u1 u2 u3 u4)) ∧ AcP (Wd O B9) W8 (W.acct x.f.self) u1 u2 u3 u4 ∧ w5.heap.size ≤ B9) (fun key => _) _
          rotate_left
          refine wp_region_held_drew (S := fun w' => Ext W0 w') (by kernel_rfl) (Ext.refl _).drew (fun hHeld => ?_)
          have HH : Hid (Ext W0 _) := hHeld
          clear hHeld
          refine wpAnyH_take (i := 0) (v := ?_) rfl (by kernel_rfl) (by kernel_rfl) (by kernel_rfl) (fun _ _ _ h => h) (Or.inl ⟨by rfl, ?_⟩) HH.out ?_
          rotate_left
          · intro w hSw; go_simp; try with_reducible rfl
          change wpAnyH _ _ _ _ _ _ _ (Act.put _ (some 45) _) _
          simp only [Act.put, List.setIfInBounds_toArray, List.set_cons_zero, List.set_cons_succ]
          refine wpAnyH_take (i := 1) (v := ?_) rfl (by kernel_rfl) (by kernel_rfl) (by kernel_rfl) (fun _ _ _ h => h) (Or.inl ⟨by rfl, ?_⟩) HH.out ?_
          rotate_left
          · intro w hSw; go_simp; try with_reducible rfl
          change wpAnyH _ _ _ _ _ _ _ (Act.put _ (some 46) _) _
          simp only [Act.put, List.setIfInBounds_toArray, List.set_cons_zero, List.set_cons_succ]
          refine wpAnyH_take (i := 2) (v := ?_) rfl (by kernel_rfl) (by kernel_rfl) (by kernel_rfl) (fun _ _ _ h => h) (Or.inl ⟨by rfl, ?_⟩) HH.out ?_
          rotate_left
          · intro w hSw; go_simp; try with_reducible rfl
          change wpAnyH _ _ _ _ _ _ _ (Act.put _ (some 47) _) _
          simp only [Act.put, List.setIfInBounds_toArray, List.set_cons_zero, List.set_cons_succ]
          refine wpAnyH_take (i := 3) (v := ?_) rfl (by kernel_rfl) (by kernel_rfl) (by kernel_rfl) (fun _ _ _ h => h) (Or.inl ⟨by rfl, ?_⟩) HH.out ?_
          rotate_left
          · intro w hSw; go_simp; try with_reducible rfl
          change wpAnyH _ _ _ _ _ _ _ (Act.put _ (some 48) _) _
          simp only [Act.put, List.setIfInBounds_toArray, List.set_cons_zero, List.set_cons_succ]
          refine wpAnyH_take (i := 4) rfl (by kernel_rfl) (by kernel_rfl) (by kernel_rfl) (fun _ _ _ h => h) (yields_A (by rfl) rfl rfl (fun w hSw => b5.ext (hW0.trans hSw)) hselfB hok.self (by decide)) HH.out ?_
          change wpAnyH _ _ _ _ _ _ _ (Act.put _ (some 49) _) _
          simp only [Act.put, List.setIfInBounds_toArray, List.set_cons_zero, List.set_cons_succ]
          refine wpAnyH_ready (rs := [5, 6]) (by kernel_rfl) (by simp) ?_
          refine (AllReadyH.cons rfl (fun K hK => ?_) (AllReadyH.cons rfl (fun K hK => ?_) AllReadyH.nil))
          go_simp
          go_at_call 53; refine (xAccountG (h5.ext (by (repeat (first | with_reducible exact Ext.refl _ | with_reducible assumption | refine Ext.trans ?_ (by with_reducible assumption) | refine Ext.alloc ?_ _ _ | refine Ext.drew ?_ | refine Ext.drewN ?_ _)))).top x.f.self hok.self).mono ?_; rintro e w6 ⟨u1, u2, u3, u4, rfl, hp, ⟨f1, f2, f3, f4, f5, f6⟩, he⟩
          refine hK.out _ _ ?_ (fun hHeld => ?_)
          · first | exact HH.out.trans hmY | exact HH.out.trans he | exact HH.out
          clear hK K HH
          have HH : Hid (Ext W0 _) := hHeld
          clear hHeld
          refine wpAnyH_ready (rs := [6]) (by kernel_rfl) (by simp) ?_
          refine AllReadyH.cons rfl (fun K hK => ?_) AllReadyH.nil
          refine step_any rfl (op_alloc rfl hz81 hz82 ?_)
          rintro B9 W7 e7 b7 g7
          refine hK.out _ _ ?_ (fun hHeld => ?_)
          · exact HH.out.trans e7
          clear hK K HH
          have HH : Hid (Ext W0 _) := hHeld
          clear hHeld
          change wpAnyH _ _ _ _ _ _ _ (Act.put _ (some 9) _) _
          simp only [Act.put, List.setIfInBounds_toArray, List.set_cons_zero, List.set_cons_succ]
          refine wpAnyH_ready (rs := [7]) (by kernel_rfl) (by simp) ?_
          refine AllReadyH.cons rfl (fun K hK => ?_) AllReadyH.nil
          refine step_any rfl (op_storeRow rfl rt108 rfl rfl (acR_size hok.self _ _ _ _) (acR_one (nv_onez hp.nonce) (nv_onez hp.bal) (nl_onez hp.code) (grow_onez hp.slots)) (b7.ext (by (repeat (first | with_reducible exact Ext.refl _ | with_reducible assumption | refine Ext.trans ?_ (by with_reducible assumption) | refine Ext.alloc ?_ _ _ | refine Ext.drew ?_ | refine Ext.drewN ?_ _)))) (by decide) ?_)
          rintro W8 b8 m8
          refine hK.out _ _ ?_ (fun hHeld => ?_)
          · exact Ext.trans_mod HH.out m8 (fun q hq => by have hq2 : q = B9 := hq; rw [hq2]; exact Nat.le_trans (Ext.size (by (repeat (first | with_reducible exact Ext.refl _ | with_reducible assumption | refine Ext.trans ?_ (by with_reducible assumption) | refine Ext.alloc ?_ _ _ | refine Ext.drew ?_ | refine Ext.drewN ?_ _)))) g7)
          clear hK K HH
          have HH : Hid (Ext W0 _) := hHeld
          clear hHeld
          change wpAnyH _ _ _ _ _ _ _ (Act.put _ none _) _
          simp only [Act.put, List.setIfInBounds_toArray, List.set_cons_zero, List.set_cons_succ]
          refine wpAnyH_done (by kernel_rfl) ?_ _
          (have hpX : AcP (Wd O B9) W8 (W.acct x.f.self) u1 u2 u3 u4 := (by first | exact (AcP.ext (O := Wd O B9) hp (by (repeat (first | with_reducible exact Ext.refl _ | with_reducible assumption | refine Ext.trans ?_ (by with_reducible assumption) | refine Ext.alloc ?_ _ _ | refine Ext.drew ?_ | refine Ext.drewN ?_ _)))).keep m8 (fun b hb q => hb (Or.inr q)) | exact ((hp.widen (Nat.le_trans (Ext.size (by (repeat (first | with_reducible exact Ext.refl _ | with_reducible assumption | refine Ext.trans ?_ (by with_reducible assumption) | refine Ext.alloc ?_ _ _ | refine Ext.drew ?_ | refine Ext.drewN ?_ _)))) g7)).ext (by (repeat (first | with_reducible exact Ext.refl _ | with_reducible assumption | refine Ext.trans ?_ (by with_reducible assumption) | refine Ext.alloc ?_ _ _ | refine Ext.drew ?_ | refine Ext.drewN ?_ _)))).keep m8 (fun b hb q => hb (Or.inr q))); exact key B9 W8 u1 u2 u3 u4 ⟨HH.out, b8, hpX, Nat.le_trans (Ext.size (by (repeat (first | with_reducible exact Ext.refl _ | with_reducible assumption | refine Ext.trans ?_ (by with_reducible assumption) | refine Ext.alloc ?_ _ _ | refine Ext.drew ?_ | refine Ext.drewN ?_ _)))) g7⟩)
          refine step_any rfl (op_alloc rfl hz81 hz82 ?_)
          rintro B9 W7 e7 b7 g7
          refine hK.out _ _ ?_ (fun hHeld => ?_)
          · exact HH.out.trans e7
          clear hK K HH
          have HH : Hid (Ext W0 _) := hHeld
          clear hHeld
          change wpAnyH _ _ _ _ _ _ _ (Act.put _ (some 9) _) _
          simp only [Act.put, List.setIfInBounds_toArray, List.set_cons_zero, List.set_cons_succ]
          refine wpAnyH_ready (rs := [5]) (by kernel_rfl) (by simp) ?_
          refine AllReadyH.cons rfl (fun K hK => ?_) AllReadyH.nil
          go_simp
          go_at_call 53; refine (xAccountG (h5.wd (by (repeat (first | with_reducible exact Ext.refl _ | with_reducible assumption | refine Ext.trans ?_ (by with_reducible assumption) | refine Ext.alloc ?_ _ _ | refine Ext.drew ?_ | refine Ext.drewN ?_ _))) b7.lt (Nat.le_trans (Ext.size (by (repeat (first | with_reducible exact Ext.refl _ | with_reducible assumption | refine Ext.trans ?_ (by with_reducible assumption) | refine Ext.alloc ?_ _ _ | refine Ext.drew ?_ | refine Ext.drewN ?_ _)))) g7)).top x.f.self hok.self).mono ?_; rintro e w6 ⟨u1, u2, u3, u4, rfl, hp, ⟨f1, f2, f3, f4, f5, f6⟩, he⟩
          refine hK.out _ _ ?_ (fun hHeld => ?_)
          · first | exact HH.out.trans hmY | exact HH.out.trans he | exact HH.out
          clear hK K HH
          have HH : Hid (Ext W0 _) := hHeld
          clear hHeld
          refine wpAnyH_ready (rs := [7]) (by kernel_rfl) (by simp) ?_
          refine AllReadyH.cons rfl (fun K hK => ?_) AllReadyH.nil
          refine step_any rfl (op_storeRow rfl rt108 rfl rfl (acR_size hok.self _ _ _ _) (acR_one (nv_onez hp.nonce) (nv_onez hp.bal) (nl_onez hp.code) (grow_onez hp.slots)) (b7.ext (by (repeat (first | with_reducible exact Ext.refl _ | with_reducible assumption | refine Ext.trans ?_ (by with_reducible assumption) | refine Ext.alloc ?_ _ _ | refine Ext.drew ?_ | refine Ext.drewN ?_ _)))) (by decide) ?_)
          rintro W8 b8 m8
          refine hK.out _ _ ?_ (fun hHeld => ?_)
          · exact Ext.trans_mod HH.out m8 (fun q hq => by have hq2 : q = B9 := hq; rw [hq2]; exact Nat.le_trans (Ext.size (by (repeat (first | with_reducible exact Ext.refl _ | with_reducible assumption | refine Ext.trans ?_ (by with_reducible assumption) | refine Ext.alloc ?_ _ _ | refine Ext.drew ?_ | refine Ext.drewN ?_ _)))) g7)
          clear hK K HH
          have HH : Hid (Ext W0 _) := hHeld
          clear hHeld
          change wpAnyH _ _ _ _ _ _ _ (Act.put _ none _) _
          simp only [Act.put, List.setIfInBounds_toArray, List.set_cons_zero, List.set_cons_succ]
          refine wpAnyH_done (by kernel_rfl) ?_ _
          (have hpX : AcP (Wd O B9) W8 (W.acct x.f.self) u1 u2 u3 u4 := (by first | exact (AcP.ext (O := Wd O B9) hp (by (repeat (first | with_reducible exact Ext.refl _ | with_reducible assumption | refine Ext.trans ?_ (by with_reducible assumption) | refine Ext.alloc ?_ _ _ | refine Ext.drew ?_ | refine Ext.drewN ?_ _)))).keep m8 (fun b hb q => hb (Or.inr q)) | exact ((hp.widen (Nat.le_trans (Ext.size (by (repeat (first | with_reducible exact Ext.refl _ | with_reducible assumption | refine Ext.trans ?_ (by with_reducible assumption) | refine Ext.alloc ?_ _ _ | refine Ext.drew ?_ | refine Ext.drewN ?_ _)))) g7)).ext (by (repeat (first | with_reducible exact Ext.refl _ | with_reducible assumption | refine Ext.trans ?_ (by with_reducible assumption) | refine Ext.alloc ?_ _ _ | refine Ext.drew ?_ | refine Ext.drewN ?_ _)))).keep m8 (fun b hb q => hb (Or.inr q))); exact key B9 W8 u1 u2 u3 u4 ⟨HH.out, b8, hpX, Nat.le_trans (Ext.size (by (repeat (first | with_reducible exact Ext.refl _ | with_reducible assumption | refine Ext.trans ?_ (by with_reducible assumption) | refine Ext.alloc ?_ _ _ | refine Ext.drew ?_ | refine Ext.drewN ?_ _)))) g7⟩)
          rintro B9 W8 u1 u2 u3 u4 ⟨hE8, b8, hp8, g9⟩
          have E8 := hW0.trans hE8
          have hvo8 := hvo5.ext E8
          have h8 := h5.ext E8
          have b58 := b5.ext E8
          have hB9Y : ¬ B9 = Y := by have := Ext.size E2; have := Ext.size he5; omega
          have hB9B : ¬ B9 = B := by have := b5.lt; omega
          go_upto_region 9 with ((with_reducible (refine Veil.out ?_; apply wl_storeC onet32l)); (case hx => rfl); (case hy => rfl); (case h1 => rfl); (case hB => exact b8); (case hi => decide); rintro W9 b9 m9)
          have E9 : Ext w5 W9 := Ext.trans_mod E8 m9 (fun q hq => by have hq2 : q = B9 := hq; rw [hq2]; exact g9)
          have hp9 := hp8.keep m9 (fun b hb q => hb (Or.inr q))
          have hvo9 := hvo5.ext E9
          have h9 := h5.ext E9
          have b59 := b5.ext E9
          have HV : ∀ W', Ext W9 W' → AcV O W' (.agg (rowOf (updv (layv (cf z8) 0 (acR x.f.self u1 u2 u3 u4)) 22 (Value.slice oo out.length co)) 0 24)) { W.acct x.f.self with code := out } := fun W' hW' => by
            rw [acR_code hok.self]
            have q := hp9.narrow.ext hW'
            refine ⟨u1, u2, _, u4, ?_, ⟨q.aLt, q.nonce, q.bal, hvo9.ext hW', q.slots⟩⟩
            rw [YW.acct_addr]
          obtain ⟨c9, hc9⟩ : ∃ f, Hid (f = updv (layv (cf z8) 0 (acR x.f.self u1 u2 u3 u4)) 22 (Value.slice oo out.length co)) := ⟨_, rfl⟩
          have b9' : Blk W9 B9 24 121 c9 := by rw [hc9.out]; exact b9
          rw [← hc9.out] at HV
          clear b9 hc9 hp9 hp8 b8 m9 h8 hvo8 b58
          refine w_ext ?_
          rintro W0 hW0
          refine wp_region_held_drew (S := fun w' => Mod (fun x => x = Y) W0 w') (by kernel_rfl) (Mod.refl _ _).drew (fun hHeld => ?_)
          have HH : Hid (Mod (fun x => x = Y) W0 _) := hHeld
          clear hHeld
          refine wpAnyH_take (i := 0) (v := ?_) rfl (by kernel_rfl) (by kernel_rfl) (by kernel_rfl) (fun _ _ _ h => h) (Or.inl ⟨by rfl, ?_⟩) HH.out ?_
          rotate_left
          · intro w hSw; go_simp; try with_reducible rfl
          change wpAnyH _ _ _ _ _ _ _ (Act.put _ (some 53) _) _
          simp only [Act.put, List.setIfInBounds_toArray, List.set_cons_zero, List.set_cons_succ]
          refine wpAnyH_take (i := 1) (v := ?_) rfl (by kernel_rfl) (by kernel_rfl) (by kernel_rfl) (fun _ _ _ h => h) (Or.inl ⟨by rfl, ?_⟩) HH.out ?_
          rotate_left
          · intro w hSw; go_simp; try with_reducible rfl
          change wpAnyH _ _ _ _ _ _ _ (Act.put _ (some 54) _) _
          simp only [Act.put, List.setIfInBounds_toArray, List.set_cons_zero, List.set_cons_succ]
          refine wpAnyH_take (i := 2) (v := ?_) rfl (by kernel_rfl) (by kernel_rfl) (by kernel_rfl) (fun _ _ _ h => h) (Or.inl ⟨by rfl, ?_⟩) HH.out ?_
          rotate_left
          · intro w hSw; go_simp; try with_reducible rfl
          change wpAnyH _ _ _ _ _ _ _ (Act.put _ (some 55) _) _
          simp only [Act.put, List.setIfInBounds_toArray, List.set_cons_zero, List.set_cons_succ]
          refine wpAnyH_take (i := 3) rfl (by kernel_rfl) (by kernel_rfl) (by kernel_rfl) (fun _ _ _ h => h) (yieldsRowL rt108 (by rfl) rfl rfl (fun w hSw => (b9'.ext hW0).mod hSw hB9Y) (by decide)) HH.out ?_
          change wpAnyH _ _ _ _ _ _ _ (Act.put _ (some 56) _) _
          simp only [Act.put, List.setIfInBounds_toArray, List.set_cons_zero, List.set_cons_succ]
          refine wpAnyH_ready (rs := [4]) (by kernel_rfl) (by simp) ?_
          refine AllReadyH.cons rfl (fun K hK => ?_) AllReadyH.nil
          go_simp
          go_at_call 136; refine (zPut (h9.ext (by (repeat (first | with_reducible exact Ext.refl _ | with_reducible assumption | refine Ext.trans ?_ (by with_reducible assumption) | refine Ext.alloc ?_ _ _ | refine Ext.drew ?_ | refine Ext.drewN ?_ _)))) _ _ (HV _ (by (repeat (first | with_reducible exact Ext.refl _ | with_reducible assumption | refine Ext.trans ?_ (by with_reducible assumption) | refine Ext.alloc ?_ _ _ | refine Ext.drew ?_ | refine Ext.drewN ?_ _)))) hl9 (YW.setCode_wf h9.wf x.f.self out hok.self) rfl).mono ?_; rintro e w10 ⟨c10, rfl, h10, hmY⟩
          refine hK.out _ _ ?_ (fun hHeld => ?_)
          · first | exact HH.out.trans hmY | exact HH.out.trans_ext he | exact HH.out
          clear hK K HH
          have HH : Hid (Mod (fun x => x = Y) W0 _) := hHeld
          clear hHeld
          refine wpAnyH_done (by kernel_rfl) ?_ _
          have mY := HH.out
          have M10 : Mod (· = Y) W9 w10 := ((Mod.refl (· = Y) W9).trans_ext hW0).trans mY
          have b10 := b59.mod M10 hBY
          go_wp2
          go_meet
          case rel =>
            refine ⟨0, [], dg, c10, W.setCode x.f.self out, rfl, NL.nil, (hrv.ext E9).keep M10 h5.hsY, h10, b10, ((he5.trans E9).mod _).trans M10, by decide, hds0.symm, fun q => ?_, fun q => ?_, fun q => ?_⟩
            · unfold lvO; rw [hds0, hlvd.out]; rfl
            · unfold lvG; rw [hds0, hlvd.out, if_neg (by decide), if_pos rfl]; exact hdg.out.symm
            · unfold lvW; rw [hds0, hlvd.out]; simp [hoe]
      · have hd0i : ¬ (ds : Int) = 0 := by omega
        go_wp2
        go_meet
        case rel =>
          refine ⟨ds, out, dg, c, W, rfl, hvo5, hrv, h5, b5, he5.mod _, hds8, hS1.out.symm, fun q => ?_, fun q => ?_, fun q => absurd q hd0⟩
          · unfold lvO; rw [hS1.out, if_neg (by omega), if_neg (fun k => hd0 k.2)]
          · unfold lvG; rw [hS1.out, hlvd.out, if_neg (by omega), if_pos rfl]; exact hdg.out.symm
  case rest =>
  obtain ⟨s1, o1, g1, c1, W1, rfl, hvo1, hg1, h6, b6, m6, hM⟩ := hcut
  obtain ⟨W6, eW6⟩ : ∃ X, X = wc := ⟨_, rfl⟩
  subst eW6
  have hs1 : s1 < 256 := hM.out.1
  have M6 : Mod (· = Y) w W6 := (E2.mod _).trans m6
  clear h2 b2 hgas m6 gas4 kind0 hdep hvg hvo E2 hcode hol
  obtain ⟨WN, hWN⟩ : ∃ X, Hid (X = if s1 = 0 then W1 else x.sv) := ⟨_, rfl⟩
  go_upto_if 59 with (fail)
  go_cut [] (fun wx => ∃ c2, YZ O TL wx Y F n c2 d WN start { st with now := WN.abs } tot (x :: r) ∧ Mod (· = Y) W6 wx)
  case first =>
    by_cases h0 : s1 = 0
    · have e : WN = W1 := by rw [hWN.out, if_pos h0]
      have h0i : (s1 : Int) = 0 := by omega
      subst h0
      go_wp2
      go_meet
      case rel => rw [e]; exact ⟨c1, h6, Mod.refl _ _⟩
    · have e : WN = x.sv := by rw [hWN.out, if_neg h0]
      have h0i : ¬ (s1 : Int) = 0 := by omega
      go_wp2_with (first | ((with_reducible (refine Veil.out ?_; apply wl_loadRow rt99l)); (case hx => rfl); (case hB => exact b6); (case hi => decide)) | ((with_reducible (refine Veil.out ?_; apply wl_storeRow rt99l)); (case hx => rfl); (case hy => rfl); (case hr => exact rowOf_size _ _ _); (case h1 => exact hones8); (case hB => exact h6.bY); (case hi => decide); rintro W7 b7 m7))
      go_meet
      case rel =>
        have q := h6.restore m7 b7 (fun i hi => layv_out _ _ _ (Or.inr (by rw [rowOf_size]; omega))) (fun j hj => by
          have := layv_in c1 0 (rowOf dB 52 8) (j := j) (by rw [rowOf_size]; exact hj)
          rw [Nat.zero_add] at this
          rw [this, cf_rowOf _ _ _ hj, hcB.out _ (by omega), hkr.out, Nat.add_assoc])
        rw [h6.fl.1.sav] at q
        rw [e]
        exact ⟨_, q, m7⟩
  case rest =>
  obtain ⟨c2, h7, m7⟩ := hcut
  obtain ⟨W7, eW7⟩ : ∃ X, X = wc := ⟨_, rfl⟩
  subst eW7
  have M7 := M6.trans m7
  have b7 := b6.mod m7 hBY
  replace hvo1 := hvo1.keep m7 h7.hsY
  replace hg1 := hg1.keep m7 h7.hsY
  clear h6 b6 m7 M6
  obtain ⟨o2, ho2⟩ : ∃ X, Hid (X = if 1 < s1 then [] else o1) := ⟨_, rfl⟩
  obtain ⟨g2, hg2⟩ : ∃ X, Hid (X = if 1 < s1 then 0 else g1) := ⟨_, rfl⟩
  go_upto_if 66 with (fail)
  go_cut [2, 7] (fun vo' vg' wx => NL O wx vo' o2 ∧ NV O wx vg' g2 ∧ Ext W7 wx)
  case first =>
    by_cases h1 : 1 < s1
    · have h1i : (1 : Int) < (s1 : Int) := by omega
      have e1 := ho2.out
      have e2 := hg2.out
      rw [if_pos h1] at e1 e2
      subst e1
      subst e2
      go_wp2
      go_meet
      case rel => exact ⟨NL.nil, NV.nil, Ext.refl _⟩
    · have h1i : ¬ (1 : Int) < (s1 : Int) := by omega
      have e1 := ho2.out
      have e2 := hg2.out
      rw [if_neg h1] at e1 e2
      subst e1
      subst e2
      go_wp2
      go_meet
      case rel => exact ⟨hvo1, hg1, Ext.refl _⟩
  case rest =>
  obtain ⟨hvo2, hg8, e8⟩ := hcut
  obtain ⟨W8, eW8⟩ : ∃ X, X = wc := ⟨_, rfl⟩
  subst eW8
  have h8 := h7.ext e8
  have b8 := b7.ext e8
  have M8 := M7.trans_ext e8
  have eS : Hid (s1 = lvS x.f s out) := hM.out.2.1
  have eO : Hid (o2 = lvO x.f s out) := by
    rw [ho2.out]
    by_cases h1 : 1 < s1
    · rw [if_pos h1]; unfold lvO; rw [← hM.out.2.1, if_pos h1]; exact rfl
    · rw [if_neg h1]; exact hM.out.2.2.1 (by omega)
  have eG : Hid (g2 = lvG x.f s out) := by
    rw [hg2.out]
    by_cases h1 : 1 < s1
    · rw [if_pos h1]; unfold lvG; rw [← hM.out.2.1, if_pos h1]; exact rfl
    · rw [if_neg h1]; exact hM.out.2.2.2.1 (by omega)
  have eW : Hid (WN = lvW W x s out) := by
    rw [hWN.out]
    by_cases h0 : s1 = 0
    · rw [if_pos h0]; exact hM.out.2.2.2.2 h0
    · rw [if_neg h0]; unfold lvW; rw [← hM.out.2.1, if_neg h0]; exact rfl
  clear hM ho2 hg2 hWN h7 b7 M7 e8 hvo1 hg1
  go_upto_region 16 with (fail)
  refine lvTail _ _ _ _ _ _ _ _ _ _ _ _ _ _ _ _ _ _ _ _ _ _ _ _ _ _ _ _ _ _ _ _ _ _ _ _ _ _ _ _ _ _ _ _ _ _ _ _ _ _ _ _ _ _ _ _ _ _ _ _ _ _ _ _ _ _ _ _ _ _ _ _ _ _ _ _ _ _ _ _ _ _ _ _ _ _ _ _ _ _ _ _ _ _ _ _ _ _ _ _ _ _ _ _ _ _ _ _ _ _ _ _ _ _ _ _ _ _ _ _ _ _ _ _ _ _ _ _ _ _ _ _ _ _ _ _ _ _ _ _ _ _ _ _ _ _ _ _ _ _ _ _ _ _ _ _ _ hok hmk hLW eS eO eG eW hkr hk7 hpar h8 hBY hBF b8 hselfB hvo2 hg8 M8 ?_ (by assumption)
  intro w' hfin
  exact ⟨rfl, hfin⟩
end
end Go.Proofs.YgvahwGreat
