import Derived.Test.YgvahwGreatYm2
namespace Go.Proofs.YgvahwGreat
open Go.RowKit
set_option linter.unusedSimpArgs false
section
variable {kk : Nat → Value} {O TM TL : Nat → Prop} {w : World} {Y F q n : Nat} {tF : TypeId} {c d : Nat → Value} {W : YW} {start : List (Nat × Nat × Nat)} {st : ASt} {f : AFrame}
set_option maxRecDepth 100000 in
set_option maxHeartbeats 6400000 in
theorem xEnterCall241 (hX : YX kk O TM TL w Y F q n 156 c d W start st f) (k : Nat) (hk6 : k ≤ 6) {cap9 : Nat} (hc9 : c 9 = .slice (some ⟨F, 0, none⟩) (k + 1) cap9) (hT : 7 ≤ f.stack.length) (hl : YLim (W.warm (addrA (f.arg 1)))) (hrd : f.arg 4 ≤ 717280) (hokP : FOK (({ f with gas := f.gas - sentA f.gas (f.arg 0) + callG f 241 }).settle 7 [0] 1)) (hokG : FOK (callP f 241)) {R : Ending → World → Prop} (HP : ∀ B W1 c1 d1, w.heap.size ≤ B → YX kk (Wd O B) TM TL W1 Y F q n 156 c1 d1 (W.warm (addrA (f.arg 1))) start { st with now := st.now.warm (addrA (f.arg 1)) } (({ f with gas := f.gas - sentA f.gas (f.arg 0) + callG f 241 }).settle 7 [0] 1) → Mod (fun b => b = Y ∨ b = F) w W1 → (∀ i, i < q ∨ q + 52 ≤ i → d1 i = d i) → (6 ≤ k ∨ (W.acct f.self).bal < callV f 241) → R (.returned (.tuple #[])) W1) (HE : ∀ B W1 c1 d1 (fr : Array Value), w.heap.size ≤ B → YX kk (Wd O B) TM TL W1 Y F q n 156 c1 d1 (W.warm (addrA (f.arg 1))) start { st with now := st.now.warm (addrA (f.arg 1)) } (callP f 241) → Mod (fun b => b = Y ∨ b = F) w W1 → (∀ i, i < q ∨ q + 52 ≤ i → d1 i = d i) → ¬ (6 ≤ k ∨ (W.acct f.self).bal < callV f 241) → fr.size = 60 → Ones fr → YFC (Wd O B) (fun _ => False) W1 (cf fr) 0 (callC (st.now.warm (addrA (f.arg 1))) f 241 (W.acct (addrA (f.arg 1))).code) → Calls Hvah.prog 65 #[.pointer (some ⟨Y, 0, none⟩), .agg fr] W1 (fun e w' => e = .returned (.tuple #[]) ∧ R e w')) : Calls Hvah.prog 159 #[.pointer (some ⟨Y, 0, none⟩), .pointer (some ⟨F, q, none⟩), .int .u8 241] w (fun e w' => e = .returned (.tuple #[]) ∧ R e w') := by
  have hq := hX.hq
  have hself := hX.ok.self
  have hgas := hX.ok.gas
  have hYl := hX.bY.lt
  have hFl := hX.bF.lt
  have ht : addrA (f.arg 1) < 2 ^ 160 := Nat.mod_lt _ (by decide)
  have hdg : dl f.gas ≤ 500 := Nat.le_trans (dl_u64 _ (by omega)) (by decide)
  have HAr := yArity 241 (by decide)
  rw [show takesA 241 = 7 from rfl, show givesA 241 = 1 from rfl] at HAr
  go_enter Hvah.func159, Hvah.ntmps159
  go_upto_region 1 with (go_at_call 146; refine (HAr _).mono ?_; rintro e w1 ⟨rfl, hww⟩; replace hww := hww.symm; subst hww)
  go_upto_region 2 with (go_at_call_of 73 (Value.int IntKind.i64 0); refine (xArg (hX.ext (by (repeat (first | with_reducible exact Ext.refl _ | with_reducible assumption | refine Ext.trans ?_ (by with_reducible assumption) | refine Ext.alloc ?_ _ _ | refine Ext.drew ?_ | refine Ext.drewN ?_ _)))) 0 (by decide)).mono ?_; rintro e wra ⟨ra, rfl, hra, hera⟩)
  have hra2 : NV O wra ra (f.arg 0) := hra
  go_upto_region 3 with (first | (go_at_call_of 73 (Value.int IntKind.i64 1); refine (xArg (hX.ext (by (repeat (first | with_reducible exact Ext.refl _ | with_reducible assumption | refine Ext.trans ?_ (by with_reducible assumption) | refine Ext.alloc ?_ _ _ | refine Ext.drew ?_ | refine Ext.drewN ?_ _)))) 1 (by decide)).mono ?_; rintro e wrb ⟨rb, rfl, hrb, herb⟩) | (go_at_call 156; refine (yAddrOf (hrb.ext (by (repeat (first | with_reducible exact Ext.refl _ | with_reducible assumption | refine Ext.trans ?_ (by with_reducible assumption) | refine Ext.alloc ?_ _ _ | refine Ext.drew ?_ | refine Ext.drewN ?_ _))))).mono ?_; rintro e w2 ⟨rfl, he2⟩) | ((with_reducible (refine Veil.out ?_; apply wl_allocB (n := 20) z25m)); (case hn => exact av_size (by decide)); rintro BT W5 e5 b5 g5) | ((with_reducible (refine Veil.out ?_; apply wl_storeRow rt25)); (case hx => rfl); (case hy => rfl); (case hr => exact av_size ht); (case h1 => exact av_one _); (case hB => exact b5.ext (by (repeat (first | with_reducible exact Ext.refl _ | with_reducible assumption | refine Ext.trans ?_ (by with_reducible assumption) | refine Ext.alloc ?_ _ _ | refine Ext.drew ?_ | refine Ext.drewN ?_ _)))); (case hi => decide); rintro W6 b6 m6))
  have gT : w.heap.size ≤ BT := Nat.le_trans (Ext.size (by (repeat (first | with_reducible exact Ext.refl _ | with_reducible assumption | refine Ext.trans ?_ (by with_reducible assumption) | refine Ext.alloc ?_ _ _ | refine Ext.drew ?_ | refine Ext.drewN ?_ _)))) g5
  have eT : Ext w W6 := Ext.trans_mod (by (repeat (first | with_reducible exact Ext.refl _ | with_reducible assumption | refine Ext.trans ?_ (by with_reducible assumption) | refine Ext.alloc ?_ _ _ | refine Ext.drew ?_ | refine Ext.drewN ?_ _))) m6 (fun y hy => by have hy2 : y = BT := hy; rw [hy2]; exact gT)
  have aT : AAt (layv (cf (av 0)) 0 (av (addrA (f.arg 1)))) 0 (addrA (f.arg 1)) := fun j v hv => by
    have hj := (Array.getElem?_eq_some_iff.1 hv).1
    rw [layv_in _ _ _ hj]; exact cf_get hv
  have hra3 : NV O W6 ra (f.arg 0) := hra2.ext (Ext.trans_mod (show Ext wra _ by (repeat (first | with_reducible exact Ext.refl _ | with_reducible assumption | refine Ext.trans ?_ (by with_reducible assumption) | refine Ext.alloc ?_ _ _ | refine Ext.drew ?_ | refine Ext.drewN ?_ _))) m6 (fun y hy => by have hy2 : y = BT := hy; rw [hy2]; exact Nat.le_trans (Ext.size (show Ext wra _ by (repeat (first | with_reducible exact Ext.refl _ | with_reducible assumption | refine Ext.trans ?_ (by with_reducible assumption) | refine Ext.alloc ?_ _ _ | refine Ext.drew ?_ | refine Ext.drewN ?_ _)))) g5))
  have b6' : Blk W6 BT 20 31 (layv (cf (av 0)) 0 (av (addrA (f.arg 1)))) := b6
  obtain ⟨cT, hcT⟩ : ∃ x, Hid (layv (cf (av 0)) 0 (av (addrA (f.arg 1))) = x) := ⟨_, rfl⟩
  rw [hcT.out] at aT b6'
  have hX6 := hX.ext eT
  have nTY : BT ≠ Y := by omega
  have nTF : BT ≠ F := by omega
  clear b6 m6 b5 g5 hcT HAr hrb hra hra2
  obtain ⟨t, htt⟩ : ∃ x, Hid (addrA (f.arg 1) = x) := ⟨_, rfl⟩
  rw [htt.out] at aT ht hl HP
  refine w_ext ?_
  rintro W0 hW0
  refine wp_region_held_drew (S := fun w' => Mod (fun x => x = Y) W0 w') (by kernel_rfl) (Mod.refl _ _).drew (fun hHeld => ?_)
  have HH : Hid (Mod (fun x => x = Y) W0 _) := hHeld
  clear hHeld
  refine wpAnyH_take (i := 0) (v := ?_) rfl (by kernel_rfl) (by kernel_rfl) (by kernel_rfl) (fun _ _ _ h => h) (Or.inl ⟨by rfl, ?_⟩) HH.out ?_
  rotate_left
  · intro w hSw; go_simp; try with_reducible rfl
  change wpAnyH _ _ _ _ _ _ _ (Act.put _ (some 26) _) _
  simp only [Act.put, List.setIfInBounds_toArray, List.set_cons_zero, List.set_cons_succ]
  refine wpAnyH_take (i := 1) (v := ?_) rfl (by kernel_rfl) (by kernel_rfl) (by kernel_rfl) (fun _ _ _ h => h) (Or.inl ⟨by rfl, ?_⟩) HH.out ?_
  rotate_left
  · intro w hSw; go_simp; try with_reducible rfl
  change wpAnyH _ _ _ _ _ _ _ (Act.put _ (some 27) _) _
  simp only [Act.put, List.setIfInBounds_toArray, List.set_cons_zero, List.set_cons_succ]
  refine wpAnyH_take (i := 2) (v := ?_) rfl (by kernel_rfl) (by kernel_rfl) (by kernel_rfl) (fun _ _ _ h => h) (Or.inl ⟨by rfl, ?_⟩) HH.out ?_
  rotate_left
  · intro w hSw; go_simp; try with_reducible rfl
  change wpAnyH _ _ _ _ _ _ _ (Act.put _ (some 28) _) _
  simp only [Act.put, List.setIfInBounds_toArray, List.set_cons_zero, List.set_cons_succ]
  refine wpAnyH_take (i := 3) rfl (by kernel_rfl) (by kernel_rfl) (by kernel_rfl) (fun _ _ _ h => h) (yields_A (by rfl) rfl rfl (fun w hSw => (b6'.ext hW0).mod hSw nTY) aT ht (by decide)) HH.out ?_
  change wpAnyH _ _ _ _ _ _ _ (Act.put _ (some 29) _) _
  simp only [Act.put, List.setIfInBounds_toArray, List.set_cons_zero, List.set_cons_succ]
  refine wpAnyH_ready (rs := [4]) (by kernel_rfl) (by simp) ?_
  refine AllReadyH.cons rfl (fun K hK => ?_) AllReadyH.nil
  go_simp
  go_at_call 61; refine (xWarm (hX6.ext (by (repeat (first | with_reducible exact Ext.refl _ | with_reducible assumption | refine Ext.trans ?_ (by with_reducible assumption) | refine Ext.alloc ?_ _ _ | refine Ext.drew ?_ | refine Ext.drewN ?_ _)))) t ht hl).mono ?_; rintro e w3 ⟨c3, rfl, hX3, hmY⟩
  refine hK.out _ _ ?_ (fun hHeld => ?_)
  · first | exact HH.out.trans hmY | exact HH.out.trans_ext he | exact HH.out
  clear hK K HH
  have HH : Hid (Mod (fun x => x = Y) W0 _) := hHeld
  clear hHeld
  refine wpAnyH_done (by kernel_rfl) ?_ _
  have M3 : Mod (· = Y) W6 w3 := (hW0.mod _).trans HH.out
  have bT3 : Blk w3 BT 20 31 cT := b6'.mod M3 nTY
  have hra4 : NV O w3 ra (f.arg 0) := hra3.keep M3 (fun b hb e => hb (e ▸ hX.oY))
  have Mw3 : Mod (fun b => b = Y ∨ b = F) w w3 := (eT.mod _).trans (M3.sub (fun b hb => Or.inl hb))
  have gT3 : BT < w3.heap.size := bT3.lt
  clear HH hW0 hmY M3 b6' hX6 eT hra3
  go_upto_region 7 with (go_at_call 73; refine (xArg (hX3.ext (by (repeat (first | with_reducible exact Ext.refl _ | with_reducible assumption | refine Ext.trans ?_ (by with_reducible assumption) | refine Ext.alloc ?_ _ _ | refine Ext.drew ?_ | refine Ext.drewN ?_ _)))) 2 (by decide)).mono ?_; rintro e w4 ⟨rv, rfl, hrv, he4⟩)
  have X4 := hX3.ext he4
  have bT4 := bT3.ext he4
  have hra5 := hra4.ext he4
  have M4 := Mw3.trans_ext he4
  have gT4 := bT4.lt
  clear he4 hX3 bT3 hra4 Mw3 gT3
  go_upto_region 8 with (fail)
  refine w_ext ?_
  rintro W0 hW0
  refine' joinMb (P := _) (Fc := fun B W8 u => Ext W0 W8 ∧ W0.heap.size ≤ B ∧ ∃ dB, Blk W8 B 60 156 dB ∧ YFC (Wd O B) (fun _ => False) W8 dB 0 { fr0 with kind := 2, static := f.static, value := f.arg 2, self := t, caller := f.self, saved := st.now.warm t } ∧ (∀ j, j < 60 → (dB j).oneCell' = true)) (fun key => _) _
  rotate_left
  refine wp_region_held_drew (S := fun w' => Ext W0 w') (by kernel_rfl) (Ext.refl _).drew (fun hHeld => ?_)
  have HH : Hid (Ext W0 _) := hHeld
  clear hHeld
  refine wpAnyH_take (i := 0) (v := ?_) rfl (by kernel_rfl) (by kernel_rfl) (by kernel_rfl) (fun _ _ _ h => h) (Or.inl ⟨by rfl, ?_⟩) HH.out ?_
  rotate_left
  · intro w hSw; go_simp; try with_reducible rfl
  change wpAnyH _ _ _ _ _ _ _ (Act.put _ (some 41) _) _
  simp only [Act.put, List.setIfInBounds_toArray, List.set_cons_zero, List.set_cons_succ]
  refine wpAnyH_take (i := 1) (v := ?_) rfl (by kernel_rfl) (by kernel_rfl) (by kernel_rfl) (fun _ _ _ h => h) (Or.inl ⟨by rfl, ?_⟩) HH.out ?_
  rotate_left
  · intro w hSw; go_simp; try with_reducible rfl
  change wpAnyH _ _ _ _ _ _ _ (Act.put _ (some 42) _) _
  simp only [Act.put, List.setIfInBounds_toArray, List.set_cons_zero, List.set_cons_succ]
  refine wpAnyH_take (i := 2) (v := ?_) rfl (by kernel_rfl) (by kernel_rfl) (by kernel_rfl) (fun _ _ _ h => h) (Or.inl ⟨by rfl, ?_⟩) HH.out ?_
  rotate_left
  · intro w hSw; go_simp; try with_reducible rfl
  change wpAnyH _ _ _ _ _ _ _ (Act.put _ (some 43) _) _
  simp only [Act.put, List.setIfInBounds_toArray, List.set_cons_zero, List.set_cons_succ]
  refine wpAnyH_take (i := 3) rfl (by kernel_rfl) (by kernel_rfl) (by kernel_rfl) (fun _ _ _ h => h) (yieldsIf_load1 (by rfl) _ _ rfl _ _ rfl onet4m _ (fun w hSw => (by rw [(X4.bF.ext (hW0.trans hSw)).cell (by omega), X4.fc.static]))) HH.out ?_
  change wpAnyH _ _ _ _ _ _ _ (Act.put _ (some 44) _) _
  simp only [Act.put, List.setIfInBounds_toArray, List.set_cons_zero, List.set_cons_succ]
  refine wpAnyH_take (i := 4) (v := ?_) rfl (by kernel_rfl) (by kernel_rfl) (by kernel_rfl) (fun _ _ _ h => h) (Or.inl ⟨by rfl, ?_⟩) HH.out ?_
  rotate_left
  · intro w hSw; go_simp; try with_reducible rfl
  change wpAnyH _ _ _ _ _ _ _ (Act.put _ (some 45) _) _
  simp only [Act.put, List.setIfInBounds_toArray, List.set_cons_zero, List.set_cons_succ]
  refine wpAnyH_take (i := 6) rfl (by kernel_rfl) (by kernel_rfl) (by kernel_rfl) (fun _ _ _ h => h) (yields_A (by rfl) rfl rfl (fun w hSw => bT4.ext (hW0.trans hSw)) aT ht (by decide)) HH.out ?_
  change wpAnyH _ _ _ _ _ _ _ (Act.put _ (some 47) _) _
  simp only [Act.put, List.setIfInBounds_toArray, List.set_cons_zero, List.set_cons_succ]
  refine wpAnyH_take (i := 7) (v := ?_) rfl (by kernel_rfl) (by kernel_rfl) (by kernel_rfl) (fun _ _ _ h => h) (Or.inl ⟨by rfl, ?_⟩) HH.out ?_
  rotate_left
  · intro w hSw; go_simp; try with_reducible rfl
  change wpAnyH _ _ _ _ _ _ _ (Act.put _ (some 48) _) _
  simp only [Act.put, List.setIfInBounds_toArray, List.set_cons_zero, List.set_cons_succ]
  refine wpAnyH_take (i := 8) (v := ?_) rfl (by kernel_rfl) (by kernel_rfl) (by kernel_rfl) (fun _ _ _ h => h) (Or.inl ⟨by rfl, ?_⟩) HH.out ?_
  rotate_left
  · intro w hSw; go_simp; try with_reducible rfl
  change wpAnyH _ _ _ _ _ _ _ (Act.put _ (some 49) _) _
  simp only [Act.put, List.setIfInBounds_toArray, List.set_cons_zero, List.set_cons_succ]
  refine wpAnyH_take (i := 9) (v := ?_) rfl (by kernel_rfl) (by kernel_rfl) (by kernel_rfl) (fun _ _ _ h => h) (Or.inl ⟨by rfl, ?_⟩) HH.out ?_
  rotate_left
  · intro w hSw; go_simp; try with_reducible rfl
  change wpAnyH _ _ _ _ _ _ _ (Act.put _ (some 50) _) _
  simp only [Act.put, List.setIfInBounds_toArray, List.set_cons_zero, List.set_cons_succ]
  refine wpAnyH_take (i := 10) rfl (by kernel_rfl) (by kernel_rfl) (by kernel_rfl) (fun _ _ _ h => h) (yields_A (by rfl) rfl rfl (fun w hSw => X4.bF.ext (hW0.trans hSw)) X4.fc.self hself (by omega)) HH.out ?_
  change wpAnyH _ _ _ _ _ _ _ (Act.put _ (some 51) _) _
  simp only [Act.put, List.setIfInBounds_toArray, List.set_cons_zero, List.set_cons_succ]
  refine wpAnyH_ready (rs := [5, 12]) (by kernel_rfl) (by simp) ?_
  refine (AllReadyH.cons rfl (fun K hK => ?_) (AllReadyH.cons rfl (fun K hK => ?_) AllReadyH.nil))
  go_simp
  go_at_call 132; refine (nNorm (O) _ _ _ (X4.small.ext (by (repeat (first | with_reducible exact Ext.refl _ | with_reducible assumption | refine Ext.trans ?_ (by with_reducible assumption) | refine Ext.alloc ?_ _ _ | refine Ext.drew ?_ | refine Ext.drewN ?_ _)))) (hrv.ext (by (repeat (first | with_reducible exact Ext.refl _ | with_reducible assumption | refine Ext.trans ?_ (by with_reducible assumption) | refine Ext.alloc ?_ _ _ | refine Ext.drew ?_ | refine Ext.drewN ?_ _))))).mono ?_; rintro e w5 ⟨u5, rfl, hu0, he⟩; have hu5 := hu0.nv
  refine hK.out _ _ ?_ (fun hHeld => ?_)
  · first | exact HH.out.trans hmY | exact HH.out.trans he | exact HH.out
  clear hK K HH
  have HH : Hid (Ext W0 _) := hHeld
  clear hHeld
  refine wpAnyH_take (i := 11) rfl (by kernel_rfl) (by kernel_rfl) (by kernel_rfl) (fun _ _ _ h => h) (yields_build (ps := [(0, .int .u8 2), (2, .bool f.static), (5, u5), (12, .agg (av t)), (13, .agg (av f.self))]) (by rfl) rfl (b147R ht hself hu5.one).1 (by simp [Act.eval])) HH.out ?_
  change wpAnyH _ _ _ _ _ _ _ (Act.put _ (some 52) _) _
  simp only [Act.put, List.setIfInBounds_toArray, List.set_cons_zero, List.set_cons_succ]
  refine wpAnyH_ready (rs := [12]) (by kernel_rfl) (by simp) ?_
  refine AllReadyH.cons rfl (fun K hK => ?_) AllReadyH.nil
  refine step_any rfl (op_alloc (n := 60) rfl z147q z147n ?_)
  rintro B W7 e7 b7 g7
  refine hK.out _ _ ?_ (fun hHeld => ?_)
  · exact HH.out.trans e7
  clear hK K HH
  have HH : Hid (Ext W0 _) := hHeld
  clear hHeld
  change wpAnyH _ _ _ _ _ _ _ (Act.put _ (some 13) _) _
  simp only [Act.put, List.setIfInBounds_toArray, List.set_cons_zero, List.set_cons_succ]
  refine wpAnyH_ready (rs := [13]) (by kernel_rfl) (by simp) ?_
  refine AllReadyH.cons rfl (fun K hK => ?_) AllReadyH.nil
  refine step_any rfl (op_storeRow rfl rt147m rfl rfl (b147R ht hself hu5.one).2.1 (b147R ht hself hu5.one).2.2.1 (b7.ext (by (repeat (first | with_reducible exact Ext.refl _ | with_reducible assumption | refine Ext.trans ?_ (by with_reducible assumption) | refine Ext.alloc ?_ _ _ | refine Ext.drew ?_ | refine Ext.drewN ?_ _)))) (by decide) ?_)
  rintro W8 b8 m8
  refine hK.out _ _ ?_ (fun hHeld => ?_)
  · exact Ext.trans_mod HH.out m8 (fun q hq => by have hq2 : q = B := hq; rw [hq2]; exact Nat.le_trans (Ext.size (by (repeat (first | with_reducible exact Ext.refl _ | with_reducible assumption | refine Ext.trans ?_ (by with_reducible assumption) | refine Ext.alloc ?_ _ _ | refine Ext.drew ?_ | refine Ext.drewN ?_ _)))) g7)
  clear hK K HH
  have HH : Hid (Ext W0 _) := hHeld
  clear hHeld
  change wpAnyH _ _ _ _ _ _ _ (Act.put _ none _) _
  simp only [Act.put, List.setIfInBounds_toArray, List.set_cons_zero, List.set_cons_succ]
  refine wpAnyH_done (by kernel_rfl) ?_ _
  (have hu8 : NV (Wd O B) W8 u5 (f.arg 2) := (by first | exact NV.keep (hu5.ext (by (repeat (first | with_reducible exact Ext.refl _ | with_reducible assumption | refine Ext.trans ?_ (by with_reducible assumption) | refine Ext.alloc ?_ _ _ | refine Ext.drew ?_ | refine Ext.drewN ?_ _)))) m8 (fun x hx q => hx (Or.inr q)) | exact NV.keep ((hu5.widen (Nat.le_trans (Ext.size (by (repeat (first | with_reducible exact Ext.refl _ | with_reducible assumption | refine Ext.trans ?_ (by with_reducible assumption) | refine Ext.alloc ?_ _ _ | refine Ext.drew ?_ | refine Ext.drewN ?_ _)))) g7)).ext (by (repeat (first | with_reducible exact Ext.refl _ | with_reducible assumption | refine Ext.trans ?_ (by with_reducible assumption) | refine Ext.alloc ?_ _ _ | refine Ext.drew ?_ | refine Ext.drewN ?_ _)))) m8 (fun x hx q => hx (Or.inr q))); exact key B W8 u5 ⟨HH.out, Nat.le_trans (Ext.size (by (repeat (first | with_reducible exact Ext.refl _ | with_reducible assumption | refine Ext.trans ?_ (by with_reducible assumption) | refine Ext.alloc ?_ _ _ | refine Ext.drew ?_ | refine Ext.drewN ?_ _)))) g7, joinMd (b147R ht hself hu5.one).2.1 (b147R ht hself hu5.one).2.2.1 b8 ((b147R ht hself hu5.one).2.2.2 _ _ _ _ _ hu8)⟩)
  refine step_any rfl (op_alloc (n := 60) rfl z147q z147n ?_)
  rintro B W7 e7 b7 g7
  refine hK.out _ _ ?_ (fun hHeld => ?_)
  · exact HH.out.trans e7
  clear hK K HH
  have HH : Hid (Ext W0 _) := hHeld
  clear hHeld
  change wpAnyH _ _ _ _ _ _ _ (Act.put _ (some 13) _) _
  simp only [Act.put, List.setIfInBounds_toArray, List.set_cons_zero, List.set_cons_succ]
  refine wpAnyH_ready (rs := [5]) (by kernel_rfl) (by simp) ?_
  refine AllReadyH.cons rfl (fun K hK => ?_) AllReadyH.nil
  go_simp
  go_at_call 132; refine (nNorm (Wd O B) _ _ _ (Small.wdm X4.small (by (repeat (first | with_reducible exact Ext.refl _ | with_reducible assumption | refine Ext.trans ?_ (by with_reducible assumption) | refine Ext.alloc ?_ _ _ | refine Ext.drew ?_ | refine Ext.drewN ?_ _))) (b7.ext (by (repeat (first | with_reducible exact Ext.refl _ | with_reducible assumption | refine Ext.trans ?_ (by with_reducible assumption) | refine Ext.alloc ?_ _ _ | refine Ext.drew ?_ | refine Ext.drewN ?_ _))))) ((hrv.widen (Nat.le_trans (Ext.size (by (repeat (first | with_reducible exact Ext.refl _ | with_reducible assumption | refine Ext.trans ?_ (by with_reducible assumption) | refine Ext.alloc ?_ _ _ | refine Ext.drew ?_ | refine Ext.drewN ?_ _)))) g7)).ext (by (repeat (first | with_reducible exact Ext.refl _ | with_reducible assumption | refine Ext.trans ?_ (by with_reducible assumption) | refine Ext.alloc ?_ _ _ | refine Ext.drew ?_ | refine Ext.drewN ?_ _))))).mono ?_; rintro e w5 ⟨u5, rfl, hu0, he⟩; have hu5 := hu0.nv
  refine hK.out _ _ ?_ (fun hHeld => ?_)
  · first | exact HH.out.trans hmY | exact HH.out.trans he | exact HH.out
  clear hK K HH
  have HH : Hid (Ext W0 _) := hHeld
  clear hHeld
  refine wpAnyH_take (i := 11) rfl (by kernel_rfl) (by kernel_rfl) (by kernel_rfl) (fun _ _ _ h => h) (yields_build (ps := [(0, .int .u8 2), (2, .bool f.static), (5, u5), (12, .agg (av t)), (13, .agg (av f.self))]) (by rfl) rfl (b147R ht hself hu5.one).1 (by simp [Act.eval])) HH.out ?_
  change wpAnyH _ _ _ _ _ _ _ (Act.put _ (some 52) _) _
  simp only [Act.put, List.setIfInBounds_toArray, List.set_cons_zero, List.set_cons_succ]
  refine wpAnyH_ready (rs := [13]) (by kernel_rfl) (by simp) ?_
  refine AllReadyH.cons rfl (fun K hK => ?_) AllReadyH.nil
  refine step_any rfl (op_storeRow rfl rt147m rfl rfl (b147R ht hself hu5.one).2.1 (b147R ht hself hu5.one).2.2.1 (b7.ext (by (repeat (first | with_reducible exact Ext.refl _ | with_reducible assumption | refine Ext.trans ?_ (by with_reducible assumption) | refine Ext.alloc ?_ _ _ | refine Ext.drew ?_ | refine Ext.drewN ?_ _)))) (by decide) ?_)
  rintro W8 b8 m8
  refine hK.out _ _ ?_ (fun hHeld => ?_)
  · exact Ext.trans_mod HH.out m8 (fun q hq => by have hq2 : q = B := hq; rw [hq2]; exact Nat.le_trans (Ext.size (by (repeat (first | with_reducible exact Ext.refl _ | with_reducible assumption | refine Ext.trans ?_ (by with_reducible assumption) | refine Ext.alloc ?_ _ _ | refine Ext.drew ?_ | refine Ext.drewN ?_ _)))) g7)
  clear hK K HH
  have HH : Hid (Ext W0 _) := hHeld
  clear hHeld
  change wpAnyH _ _ _ _ _ _ _ (Act.put _ none _) _
  simp only [Act.put, List.setIfInBounds_toArray, List.set_cons_zero, List.set_cons_succ]
  refine wpAnyH_done (by kernel_rfl) ?_ _
  (have hu8 : NV (Wd O B) W8 u5 (f.arg 2) := (by first | exact NV.keep (hu5.ext (by (repeat (first | with_reducible exact Ext.refl _ | with_reducible assumption | refine Ext.trans ?_ (by with_reducible assumption) | refine Ext.alloc ?_ _ _ | refine Ext.drew ?_ | refine Ext.drewN ?_ _)))) m8 (fun x hx q => hx (Or.inr q)) | exact NV.keep ((hu5.widen (Nat.le_trans (Ext.size (by (repeat (first | with_reducible exact Ext.refl _ | with_reducible assumption | refine Ext.trans ?_ (by with_reducible assumption) | refine Ext.alloc ?_ _ _ | refine Ext.drew ?_ | refine Ext.drewN ?_ _)))) g7)).ext (by (repeat (first | with_reducible exact Ext.refl _ | with_reducible assumption | refine Ext.trans ?_ (by with_reducible assumption) | refine Ext.alloc ?_ _ _ | refine Ext.drew ?_ | refine Ext.drewN ?_ _)))) m8 (fun x hx q => hx (Or.inr q))); exact key B W8 u5 ⟨HH.out, Nat.le_trans (Ext.size (by (repeat (first | with_reducible exact Ext.refl _ | with_reducible assumption | refine Ext.trans ?_ (by with_reducible assumption) | refine Ext.alloc ?_ _ _ | refine Ext.drew ?_ | refine Ext.drewN ?_ _)))) g7, joinMd (b147R ht hself hu5.one).2.1 (b147R ht hself hu5.one).2.2.1 b8 ((b147R ht hself hu5.one).2.2.2 _ _ _ _ _ hu8)⟩)
  rintro B W8 u8 ⟨hE8, g8, dB, b8, f8, o8⟩
  have g8w : w4.heap.size ≤ B := Nat.le_trans hW0.size g8
  have y8 := YB.new X4 (hW0.trans hE8) g8w b8 f8 ht hself o8
  have gBw : w.heap.size ≤ B := Nat.le_trans M4.size g8w
  have nTB : BT ≠ B := by omega
  have bT8 : Blk W8 BT 20 31 cT := bT4.ext (hW0.trans hE8)
  have ra8 : NV (Wd O B) W8 ra (f.arg 0) := (hra5.widen g8w).ext (hW0.trans hE8)
  have rv8 : NV (Wd O B) W8 rv (f.arg 2) := (hrv.widen g8w).ext (hW0.trans hE8)
  have M8 := M4.trans_ext (hW0.trans hE8)
  clear hE8 g8 b8 f8 o8 X4 bT4 hra5 hrv M4 hW0 g8w gT4
  go_upto_region 21 with (fail)
  go_upto_region 22 with (first | ((with_reducible (refine Veil.out ?_; apply wl_load1 onet96m)); (case hx => rfl); (case hB => exact y8.x.bF.ext (by (repeat (first | with_reducible exact Ext.refl _ | with_reducible assumption | refine Ext.trans ?_ (by with_reducible assumption) | refine Ext.alloc ?_ _ _ | refine Ext.drew ?_ | refine Ext.drewN ?_ _)))); (case ho => omega)) | (go_at_call 235; refine (ySentGas (Wd O B) _ _ _ _ _ (y8.x.small.ext (by (repeat (first | with_reducible exact Ext.refl _ | with_reducible assumption | refine Ext.trans ?_ (by with_reducible assumption) | refine Ext.alloc ?_ _ _ | refine Ext.drew ?_ | refine Ext.drewN ?_ _)))) (y8.x.fc.gas.ext (by (repeat (first | with_reducible exact Ext.refl _ | with_reducible assumption | refine Ext.trans ?_ (by with_reducible assumption) | refine Ext.alloc ?_ _ _ | refine Ext.drew ?_ | refine Ext.drewN ?_ _)))) (ra8.ext (by (repeat (first | with_reducible exact Ext.refl _ | with_reducible assumption | refine Ext.trans ?_ (by with_reducible assumption) | refine Ext.alloc ?_ _ _ | refine Ext.drew ?_ | refine Ext.drewN ?_ _)))) hdg).mono ?_; rintro e w10 ⟨rs, rfl, hrs, he10⟩))
  have hrs2 : NV (Wd O B) w10 rs (sentA f.gas (f.arg 0)) := hrs
  have hsent : sentA f.gas (f.arg 0) ≤ f.gas := by unfold sentA; omega
  obtain ⟨sent, hst⟩ : ∃ x, Hid (sentA f.gas (f.arg 0) = x) := ⟨_, rfl⟩
  have eA : Ext W8 w10 := by (repeat (first | with_reducible exact Ext.refl _ | with_reducible assumption | refine Ext.trans ?_ (by with_reducible assumption) | refine Ext.alloc ?_ _ _ | refine Ext.drew ?_ | refine Ext.drewN ?_ _))
  have yA := y8.ext eA
  have bTA := bT8.ext eA
  have rvA := rv8.ext eA
  have MA := M8.trans_ext eA
  rw [hst.out] at hrs2 hsent HP
  clear hrs ra8 bT8 rv8 M8 y8 he10
  go_upto_region 23 with (first | ((with_reducible (refine Veil.out ?_; apply wl_load1 onet96m)); (case hx => rfl); (case hB => exact yA.x.bF.ext (by (repeat (first | with_reducible exact Ext.refl _ | with_reducible assumption | refine Ext.trans ?_ (by with_reducible assumption) | refine Ext.alloc ?_ _ _ | refine Ext.drew ?_ | refine Ext.drewN ?_ _)))); (case ho => omega)) | (go_at_call 55; refine (nLess (Wd O B) _ _ _ _ _ (yA.x.small.ext (by (repeat (first | with_reducible exact Ext.refl _ | with_reducible assumption | refine Ext.trans ?_ (by with_reducible assumption) | refine Ext.alloc ?_ _ _ | refine Ext.drew ?_ | refine Ext.drewN ?_ _)))) (yA.x.fc.gas.ext (by (repeat (first | with_reducible exact Ext.refl _ | with_reducible assumption | refine Ext.trans ?_ (by with_reducible assumption) | refine Ext.alloc ?_ _ _ | refine Ext.drew ?_ | refine Ext.drewN ?_ _)))) (hrs2.ext (by (repeat (first | with_reducible exact Ext.refl _ | with_reducible assumption | refine Ext.trans ?_ (by with_reducible assumption) | refine Ext.alloc ?_ _ _ | refine Ext.drew ?_ | refine Ext.drewN ?_ _))))).mono ?_; rintro e w11 ⟨rl, rfl, hrl, he11⟩) | ((with_reducible (refine Veil.out ?_; apply wl_store1 onet96m)); (case hx => rfl); (case hy => rfl); (case h1 => exact hrl.one); (case hB => exact yA.x.bF.ext (by (repeat (first | with_reducible exact Ext.refl _ | with_reducible assumption | refine Ext.trans ?_ (by with_reducible assumption) | refine Ext.alloc ?_ _ _ | refine Ext.drew ?_ | refine Ext.drewN ?_ _)))); (case ho => omega); rintro W12 b12 m12))
  have eB : Ext w10 w11 := by (repeat (first | with_reducible exact Ext.refl _ | with_reducible assumption | refine Ext.trans ?_ (by with_reducible assumption) | refine Ext.alloc ?_ _ _ | refine Ext.drew ?_ | refine Ext.drewN ?_ _))
  have kp := yA.x.ok
  have hokl : FOK { f with gas := f.gas - sent } := ⟨kp.kind, kp.pre, kp.pc, kp.sLen, kp.sLt, Nat.le_trans (Nat.sub_le _ _) kp.gas, kp.self, kp.caller, kp.value, kp.code, kp.mLen, kp.m32, kp.oLt, kp.lLt, kp.out⟩
  have yC := (yA.ext eB).frame (((yA.ext eB).x).putGas hrl m12 b12 hokl) m12
  have hsF : ∀ b, ¬ Wd O B b → ¬ b = F := fun b hb e => hb (e ▸ yA.x.oF)
  have bTC := (bTA.ext eB).mod m12 nTF
  have rvC := (rvA.ext eB).keep m12 hsF
  have rsC := (hrs2.ext eB).keep m12 hsF
  have MC := (MA.trans_ext eB).trans (m12.sub (fun b hb => Or.inr hb))
  clear m12 b12 eB eA yA bTA rvA hrs2 MA hrl he11
  go_upto_region 24 with ((with_reducible (refine Veil.out ?_; apply wl_store1 onet96m)); (case hx => rfl); (case hy => rfl); (case h1 => exact rsC.one); (case hB => exact yC.b.ext (by (repeat (first | with_reducible exact Ext.refl _ | with_reducible assumption | refine Ext.trans ?_ (by with_reducible assumption) | refine Ext.alloc ?_ _ _ | refine Ext.drew ?_ | refine Ext.drewN ?_ _)))); (case ho => decide); rintro W13 b13 m13)
  have m13' : Mod (· = B) W12 W13 := ((show Ext W12 _ by (repeat (first | with_reducible exact Ext.refl _ | with_reducible assumption | refine Ext.trans ?_ (by with_reducible assumption) | refine Ext.alloc ?_ _ _ | refine Ext.drew ?_ | refine Ext.drewN ?_ _))).mod _).trans m13
  have yD := (yC.ext (show Ext W12 _ by (repeat (first | with_reducible exact Ext.refl _ | with_reducible assumption | refine Ext.trans ?_ (by with_reducible assumption) | refine Ext.alloc ?_ _ _ | refine Ext.drew ?_ | refine Ext.drewN ?_ _)))).put rsC.one m13 b13 (((yC.ext (show Ext W12 _ by (repeat (first | with_reducible exact Ext.refl _ | with_reducible assumption | refine Ext.trans ?_ (by with_reducible assumption) | refine Ext.alloc ?_ _ _ | refine Ext.drew ?_ | refine Ext.drewN ?_ _)))).fc).setGas yC.hs yC.hc (rsC.ext (show Ext W12 _ by (repeat (first | with_reducible exact Ext.refl _ | with_reducible assumption | refine Ext.trans ?_ (by with_reducible assumption) | refine Ext.alloc ?_ _ _ | refine Ext.drew ?_ | refine Ext.drewN ?_ _))))) yC.hs yC.hc
  have bTD := bTC.mod m13' (fun e => nTB e)
  have rvD := rvC.keep m13' (fun b hb e => hb (Or.inr e))
  have rsD := rsC.keep m13' (fun b hb e => hb (Or.inr e))
  have MD : Mod (fun b => b = Y ∨ b = F) w W13 := MC.anew m13' gBw
  clear m13 m13' b13 bTC rvC rsC MC yC
  obtain ⟨zb, hzb⟩ : ∃ b, Hid (decide (f.arg 2 = 0) = b) := ⟨_, rfl⟩
  have HZ := fun W' (hW : Ext W13 W') => nIsZero (Wd O B) _ _ W' (rvD.ext hW)
  rw [hzb.out] at HZ
  go_upto_if 103 with (go_at_call 88; refine (HZ _ (by (repeat (first | with_reducible exact Ext.refl _ | with_reducible assumption | refine Ext.trans ?_ (by with_reducible assumption) | refine Ext.alloc ?_ _ _ | refine Ext.drew ?_ | refine Ext.drewN ?_ _)))).mono ?_; rintro e w14 ⟨rfl, hdr⟩; have he14 := drew_ext hdr; clear hdr)
  have yE := yD.ext (show Ext W13 w14 by (repeat (first | with_reducible exact Ext.refl _ | with_reducible assumption | refine Ext.trans ?_ (by with_reducible assumption) | refine Ext.alloc ?_ _ _ | refine Ext.drew ?_ | refine Ext.drewN ?_ _)))
  have bTE := bTD.ext (show Ext W13 w14 by (repeat (first | with_reducible exact Ext.refl _ | with_reducible assumption | refine Ext.trans ?_ (by with_reducible assumption) | refine Ext.alloc ?_ _ _ | refine Ext.drew ?_ | refine Ext.drewN ?_ _)))
  have rvE := rvD.ext (show Ext W13 w14 by (repeat (first | with_reducible exact Ext.refl _ | with_reducible assumption | refine Ext.trans ?_ (by with_reducible assumption) | refine Ext.alloc ?_ _ _ | refine Ext.drew ?_ | refine Ext.drewN ?_ _)))
  have rsE := rsD.ext (show Ext W13 w14 by (repeat (first | with_reducible exact Ext.refl _ | with_reducible assumption | refine Ext.trans ?_ (by with_reducible assumption) | refine Ext.alloc ?_ _ _ | refine Ext.drew ?_ | refine Ext.drewN ?_ _)))
  have ME := MD.trans_ext (show Ext W13 w14 by (repeat (first | with_reducible exact Ext.refl _ | with_reducible assumption | refine Ext.trans ?_ (by with_reducible assumption) | refine Ext.alloc ?_ _ _ | refine Ext.drew ?_ | refine Ext.drewN ?_ _)))
  clear HZ yD bTD rvD rsD MD he14
  try simp only [Act.put]
  obtain ⟨g, hg⟩ : ∃ g : AFrame, Hid (g = { fr0 with kind := 2, static := f.static, value := f.arg 2, self := t, caller := f.self, saved := st.now.warm t, gas := sent }) := ⟨{ fr0 with kind := 2, static := f.static, value := f.arg 2, self := t, caller := f.self, saved := st.now.warm t, gas := sent }, rfl⟩
  obtain ⟨d12, hd12⟩ : ∃ x, Hid (updv d (q + 4) rl = x) := ⟨_, rfl⟩
  have hdd : Hid (∀ i, i ≠ q + 4 → d12 i = d i) := fun i hi => by rw [← hd12.out, updv_ne _ _ hi]
  obtain ⟨dE, yE2⟩ : ∃ dE, YB kk O TM TL w14 Y F q n c3 d12 (W.warm t) start { st with now := st.now.warm t } { f with gas := f.gas - sent } B dE g := ⟨_, by rw [hg.out]; rw [hd12.out] at yE; exact yE⟩
  obtain ⟨cg, hcg⟩ : ∃ x, Hid (x = sent + (if f.arg 2 ≠ 0 then 2300 else 0)) := ⟨_, rfl⟩
  have hgg : g.gas = sent := by rw [hg.out]
  have hds : dl sent ≤ 2000 := Nat.le_trans (dl_u64 _ (by omega)) (by decide)
  clear yE hd12
  go_cut [] (fun wx => ∃ dF, YB kk O TM TL wx Y F q n c3 d12 (W.warm t) start { st with now := st.now.warm t } { f with gas := f.gas - sent } B dF { g with gas := cg } ∧ Mod (· = B) w14 wx)
  case first =>
    cases zb with
    | true =>
      have e0 : f.arg 2 = 0 := of_decide_eq_true hzb.out
      have eg : ({ g with gas := cg } : AFrame) = g := by
        have : cg = sent := by rw [hcg.out, if_neg (fun q => q e0)]; rfl
        rw [this, ← hgg]
      go_wp2
      go_meet
      case rel => exact ⟨dE, by rw [eg]; exact yE2, Mod.refl _ _⟩
    | false =>
      have e0 : f.arg 2 ≠ 0 := of_decide_eq_false hzb.out
      have e2 : cg = sent + 2300 := by rw [hcg.out, if_pos e0]
      go_wp2_with (first | (go_at_call 42; refine (nNum (Wd O B) 2300 _ (yE2.x.small.ext (by (repeat (first | with_reducible exact Ext.refl _ | with_reducible assumption | refine Ext.trans ?_ (by with_reducible assumption) | refine Ext.alloc ?_ _ _ | refine Ext.drew ?_ | refine Ext.drewN ?_ _)))) (by decide)).mono ?_; rintro e w15 ⟨r1, rfl, hr1, he15⟩) | (go_at_call 44; refine (nAdd (Wd O B) _ _ _ _ _ (yE2.x.small.ext (by (repeat (first | with_reducible exact Ext.refl _ | with_reducible assumption | refine Ext.trans ?_ (by with_reducible assumption) | refine Ext.alloc ?_ _ _ | refine Ext.drew ?_ | refine Ext.drewN ?_ _)))) (rsE.ext (by (repeat (first | with_reducible exact Ext.refl _ | with_reducible assumption | refine Ext.trans ?_ (by with_reducible assumption) | refine Ext.alloc ?_ _ _ | refine Ext.drew ?_ | refine Ext.drewN ?_ _)))) (hr1.ext (by (repeat (first | with_reducible exact Ext.refl _ | with_reducible assumption | refine Ext.trans ?_ (by with_reducible assumption) | refine Ext.alloc ?_ _ _ | refine Ext.drew ?_ | refine Ext.drewN ?_ _)))) hds (Nat.le_trans (dl_u64 _ (by decide)) (by decide))).mono ?_; rintro e w16 ⟨r2, rfl, hr2, he16⟩) | ((with_reducible (refine Veil.out ?_; apply wl_store1 onet96m)); (case hx => rfl); (case hy => rfl); (case h1 => exact hr2.one); (case hB => exact yE2.b.ext (by (repeat (first | with_reducible exact Ext.refl _ | with_reducible assumption | refine Ext.trans ?_ (by with_reducible assumption) | refine Ext.alloc ?_ _ _ | refine Ext.drew ?_ | refine Ext.drewN ?_ _)))); (case ho => decide); rintro W17 b17 m17))
      go_meet
      case rel =>
        have e17 : Ext w14 w16 := by (repeat (first | with_reducible exact Ext.refl _ | with_reducible assumption | refine Ext.trans ?_ (by with_reducible assumption) | refine Ext.alloc ?_ _ _ | refine Ext.drew ?_ | refine Ext.drewN ?_ _))
        rw [← e2] at hr2
        exact ⟨_, (yE2.ext e17).put hr2.one m17 b17 (((yE2.ext e17).fc).setGas yE2.hs yE2.hc hr2) yE2.hs yE2.hc, (e17.mod _).trans m17⟩
  case rest =>
  obtain ⟨dF, yF, mF⟩ := hcut
  obtain ⟨W18, eW18⟩ : ∃ X, X = wc := ⟨_, rfl⟩
  subst eW18
  have bTF := bTE.mod mF (fun e => nTB e)
  have rvF := rvE.keep mF (fun b hb e => hb (Or.inr e))
  have MF := ME.anew mF gBw
  have hgs : g.self < 2 ^ 160 := yE2.hs
  clear mF yE2 bTE rvE rsE ME hzb hgg hds
  have h9 : c3 9 = .slice (some ⟨F, 0, none⟩) (k + 1) cap9 := by rw [yF.x.hi 9 (by decide), ← hX.hi 9 (by decide)]; exact hc9
  have ik : IntKind.i64.wrap (((k + 1 : Nat) : Int) - 1) = (k : Int) := by rw [IntKind.wrap_i64]; omega
  have hbal : (W.warm t).acct f.self = W.acct f.self := rfl
  go_upto_region 26 with (fail)
  try simp only [Act.put]
  go_cut [128] (fun bv wx => ∃ pb, bv = .bool pb ∧ Hid (pb = decide (6 ≤ k ∨ (W.acct f.self).bal < f.arg 2)) ∧ Ext W18 wx)
  case first =>
    rcases Nat.lt_or_ge k 6 with h6 | h6
    · have h6i : ¬ (6 : Int) ≤ (k : Int) := by omega
      refine w_ext ?_
      rintro W0 hW0
      refine wp_region_held_drew (S := fun w' => Ext W0 w') (by kernel_rfl) (Ext.refl _).drew (fun hHeld => ?_)
      have HH : Hid (Ext W0 _) := hHeld
      clear hHeld
      refine wpAnyH_take (i := 0) (v := ?_) rfl (by kernel_rfl) (by kernel_rfl) (by kernel_rfl) (fun _ _ _ h => h) (Or.inl ⟨by rfl, ?_⟩) HH.out ?_
      rotate_left
      · intro w hSw; go_simp; try with_reducible rfl
      change wpAnyH _ _ _ _ _ _ _ (Act.put _ (some 108) _) _
      simp only [Act.put, List.setIfInBounds_toArray, List.set_cons_zero, List.set_cons_succ]
      refine wpAnyH_take (i := 1) (v := ?_) rfl (by kernel_rfl) (by kernel_rfl) (by kernel_rfl) (fun _ _ _ h => h) (Or.inl ⟨by rfl, ?_⟩) HH.out ?_
      rotate_left
      · intro w hSw; go_simp; try with_reducible rfl
      change wpAnyH _ _ _ _ _ _ _ (Act.put _ (some 109) _) _
      simp only [Act.put, List.setIfInBounds_toArray, List.set_cons_zero, List.set_cons_succ]
      refine wpAnyH_take (i := 2) (v := ?_) rfl (by kernel_rfl) (by kernel_rfl) (by kernel_rfl) (fun _ _ _ h => h) (Or.inl ⟨by rfl, ?_⟩) HH.out ?_
      rotate_left
      · intro w hSw; go_simp; try with_reducible rfl
      change wpAnyH _ _ _ _ _ _ _ (Act.put _ (some 110) _) _
      simp only [Act.put, List.setIfInBounds_toArray, List.set_cons_zero, List.set_cons_succ]
      refine wpAnyH_take (i := 3) rfl (by kernel_rfl) (by kernel_rfl) (by kernel_rfl) (fun _ _ _ h => h) (yieldsIf_load1 (by rfl) _ _ rfl _ _ rfl onet101m _ (fun w hSw => (by rw [(yF.x.bY.ext (hW0.trans hSw)).cell (by decide), h9]))) HH.out ?_
      change wpAnyH _ _ _ _ _ _ _ (Act.put _ (some 111) _) _
      simp only [Act.put, List.setIfInBounds_toArray, List.set_cons_zero, List.set_cons_succ]
      refine wpAnyH_take (i := 4) (v := ?_) rfl (by kernel_rfl) (by kernel_rfl) (by kernel_rfl) (fun _ _ _ h => h) (Or.inl ⟨by rfl, ?_⟩) HH.out ?_
      rotate_left
      · intro w hSw; go_simp; try with_reducible rfl
      change wpAnyH _ _ _ _ _ _ _ (Act.put _ (some 112) _) _
      simp only [Act.put, List.setIfInBounds_toArray, List.set_cons_zero, List.set_cons_succ]
      refine wpAnyH_take (i := 5) (v := .int .i64 (k : Nat)) rfl (by kernel_rfl) (by kernel_rfl) (by kernel_rfl) (fun _ _ _ h => h) (Or.inl ⟨by rfl, ?_⟩) HH.out ?_
      · intro w hSw; go_simp; first | rfl | (rw [IntKind.wrap_i64]; omega) | done
      change wpAnyH _ _ _ _ _ _ _ (Act.put _ (some 113) _) _
      simp only [Act.put, List.setIfInBounds_toArray, List.set_cons_zero, List.set_cons_succ]
      refine wpAnyH_take (i := 6) (v := .bool false) rfl (by kernel_rfl) (by kernel_rfl) (by kernel_rfl) (fun _ _ _ h => h) (Or.inl ⟨by rfl, ?_⟩) HH.out ?_
      · intro w hSw; go_simp; first | rfl | done
      change wpAnyH _ _ _ _ _ _ _ (Act.put _ (some 114) _) _
      simp only [Act.put, List.setIfInBounds_toArray, List.set_cons_zero, List.set_cons_succ]
      refine wpAnyH_take (i := 7) (v := ?_) rfl (by kernel_rfl) (by kernel_rfl) (by kernel_rfl) (fun _ _ _ h => h) (Or.inl ⟨by rfl, ?_⟩) HH.out ?_
      rotate_left
      · intro w hSw; go_simp; try with_reducible rfl
      change wpAnyH _ _ _ _ _ _ _ (Act.put _ (some 115) _) _
      simp only [Act.put, List.setIfInBounds_toArray, List.set_cons_zero, List.set_cons_succ]
      refine wpAnyH_take (i := 8) (v := ?_) rfl (by kernel_rfl) (by kernel_rfl) (by kernel_rfl) (fun _ _ _ h => h) (Or.inl ⟨by rfl, ?_⟩) HH.out ?_
      rotate_left
      · intro w hSw; go_simp; try with_reducible rfl
      change wpAnyH _ _ _ _ _ _ _ (Act.put _ (some 116) _) _
      simp only [Act.put, List.setIfInBounds_toArray, List.set_cons_zero, List.set_cons_succ]
      refine wpAnyH_take (i := 9) (v := ?_) rfl (by kernel_rfl) (by kernel_rfl) (by kernel_rfl) (fun _ _ _ h => h) (Or.inl ⟨by rfl, ?_⟩) HH.out ?_
      rotate_left
      · intro w hSw; go_simp; try with_reducible rfl
      change wpAnyH _ _ _ _ _ _ _ (Act.put _ (some 117) _) _
      simp only [Act.put, List.setIfInBounds_toArray, List.set_cons_zero, List.set_cons_succ]
      refine wpAnyH_take (i := 10) (v := ?_) rfl (by kernel_rfl) (by kernel_rfl) (by kernel_rfl) (fun _ _ _ h => h) (Or.inl ⟨by rfl, ?_⟩) HH.out ?_
      rotate_left
      · intro w hSw; go_simp; try with_reducible rfl
      change wpAnyH _ _ _ _ _ _ _ (Act.put _ (some 118) _) _
      simp only [Act.put, List.setIfInBounds_toArray, List.set_cons_zero, List.set_cons_succ]
      refine wpAnyH_take (i := 11) (v := ?_) rfl (by kernel_rfl) (by kernel_rfl) (by kernel_rfl) (fun _ _ _ h => h) (Or.inl ⟨by rfl, ?_⟩) HH.out ?_
      rotate_left
      · intro w hSw; go_simp; try with_reducible rfl
      change wpAnyH _ _ _ _ _ _ _ (Act.put _ (some 119) _) _
      simp only [Act.put, List.setIfInBounds_toArray, List.set_cons_zero, List.set_cons_succ]
      refine wpAnyH_take (i := 12) (v := ?_) rfl (by kernel_rfl) (by kernel_rfl) (by kernel_rfl) (fun _ _ _ h => h) (Or.inl ⟨by rfl, ?_⟩) HH.out ?_
      rotate_left
      · intro w hSw; go_simp; try with_reducible rfl
      change wpAnyH _ _ _ _ _ _ _ (Act.put _ (some 120) _) _
      simp only [Act.put, List.setIfInBounds_toArray, List.set_cons_zero, List.set_cons_succ]
      refine wpAnyH_take (i := 13) (v := ?_) rfl (by kernel_rfl) (by kernel_rfl) (by kernel_rfl) (fun _ _ _ h => h) (Or.inl ⟨by rfl, ?_⟩) HH.out ?_
      rotate_left
      · intro w hSw; go_simp; try with_reducible rfl
      change wpAnyH _ _ _ _ _ _ _ (Act.put _ (some 121) _) _
      simp only [Act.put, List.setIfInBounds_toArray, List.set_cons_zero, List.set_cons_succ]
      refine wpAnyH_take (i := 14) rfl (by kernel_rfl) (by kernel_rfl) (by kernel_rfl) (fun _ _ _ h => h) (yields_A (by rfl) rfl rfl (fun w hSw => yF.x.bF.ext (hW0.trans hSw)) yF.x.fc.self hself (by omega)) HH.out ?_
      change wpAnyH _ _ _ _ _ _ _ (Act.put _ (some 122) _) _
      simp only [Act.put, List.setIfInBounds_toArray, List.set_cons_zero, List.set_cons_succ]
      refine wpAnyH_take (i := 17) (v := ?_) rfl (by kernel_rfl) (by kernel_rfl) (by kernel_rfl) (fun _ _ _ h => h) (Or.inl ⟨by rfl, ?_⟩) HH.out ?_
      rotate_left
      · intro w hSw; go_simp; try with_reducible rfl
      change wpAnyH _ _ _ _ _ _ _ (Act.put _ (some 125) _) _
      simp only [Act.put, List.setIfInBounds_toArray, List.set_cons_zero, List.set_cons_succ]
      refine wpAnyH_ready (rs := [15]) (by kernel_rfl) (by simp) ?_
      refine AllReadyH.cons rfl (fun K hK => ?_) AllReadyH.nil
      go_simp
      go_at_call 53; refine (xAccountG (yF.x.ext (by (repeat (first | with_reducible exact Ext.refl _ | with_reducible assumption | refine Ext.trans ?_ (by with_reducible assumption) | refine Ext.alloc ?_ _ _ | refine Ext.drew ?_ | refine Ext.drewN ?_ _)))) f.self hself).mono ?_; rintro e w19 ⟨u1, u2, u3, u4, rfl, hp, hag, he⟩; obtain ⟨f1, f2, f3, f4, gs, go⟩ := hag
      refine hK.out _ _ ?_ (fun hHeld => ?_)
      · first | exact HH.out.trans hmY | exact HH.out.trans he | exact HH.out
      clear hK K HH
      have HH : Hid (Ext W0 _) := hHeld
      clear hHeld
      refine wpAnyH_take (i := 16) (v := ?_) rfl (by kernel_rfl) (by kernel_rfl) (by kernel_rfl) (fun _ _ _ h => h) (Or.inl ⟨by rfl, ?_⟩) HH.out ?_
      rotate_left
      · intro w hSw; go_simp; try with_reducible rfl
      change wpAnyH _ _ _ _ _ _ _ (Act.put _ (some 124) _) _
      simp only [Act.put, List.setIfInBounds_toArray, List.set_cons_zero, List.set_cons_succ]
      refine wpAnyH_ready (rs := [18]) (by kernel_rfl) (by simp) ?_
      refine AllReadyH.cons rfl (fun K hK => ?_) AllReadyH.nil
      go_simp
      go_at_call 130; refine (nCmp (Wd O B) _ _ (W.acct f.self).bal (f.arg 2) _ (NV.ext hp.bal (by (repeat (first | with_reducible exact Ext.refl _ | with_reducible assumption | refine Ext.trans ?_ (by with_reducible assumption) | refine Ext.alloc ?_ _ _ | refine Ext.drew ?_ | refine Ext.drewN ?_ _)))) (rvF.ext (by (repeat (first | with_reducible exact Ext.refl _ | with_reducible assumption | refine Ext.trans ?_ (by with_reducible assumption) | refine Ext.alloc ?_ _ _ | refine Ext.drew ?_ | refine Ext.drewN ?_ _))))).mono ?_; rintro e w20 ⟨rfl, hdr⟩; have he := drew_ext hdr; clear hdr
      refine hK.out _ _ ?_ (fun hHeld => ?_)
      · first | exact HH.out.trans hmY | exact HH.out.trans he | exact HH.out
      clear hK K HH
      have HH : Hid (Ext W0 _) := hHeld
      clear hHeld
      refine wpAnyH_take (i := 19) (v := ?_) rfl (by kernel_rfl) (by kernel_rfl) (by kernel_rfl) (fun _ _ _ h => h) (Or.inl ⟨by rfl, ?_⟩) HH.out ?_
      rotate_left
      · intro w hSw; go_simp; try with_reducible rfl
      change wpAnyH _ _ _ _ _ _ _ (Act.put _ (some 127) _) _
      simp only [Act.put, List.setIfInBounds_toArray, List.set_cons_zero, List.set_cons_succ]
      refine wpAnyH_take (i := 20) (v := ?_) rfl (by kernel_rfl) (by kernel_rfl) (by kernel_rfl) (fun _ _ _ h => h) (Or.inl ⟨by rfl, ?_⟩) HH.out ?_
      rotate_left
      · intro w hSw; go_simp; try with_reducible rfl
      change wpAnyH _ _ _ _ _ _ _ (Act.put _ (some 128) _) _
      simp only [Act.put, List.setIfInBounds_toArray, List.set_cons_zero, List.set_cons_succ]
      refine wpAnyH_done (by kernel_rfl) ?_ _
      · go_wp2
        go_meet
        case rel =>
          refine ⟨_, rfl, ?_, hW0.trans HH.out⟩
          show Hid (_ = _)
          have e1 := cmpI_n (W.acct f.self).bal (f.arg 2)
          have n6 : ¬ 6 ≤ k := by omega
          simp only [Hid, n6, false_or]
          exact decide_eq_decide.2 e1
    · have h6i : (6 : Int) ≤ (k : Int) := by omega
      refine w_ext ?_
      rintro W0 hW0
      refine wp_region_held_drew (S := fun w' => Ext W0 w') (by kernel_rfl) (Ext.refl _).drew (fun hHeld => ?_)
      have HH : Hid (Ext W0 _) := hHeld
      clear hHeld
      refine wpAnyH_take (i := 0) (v := ?_) rfl (by kernel_rfl) (by kernel_rfl) (by kernel_rfl) (fun _ _ _ h => h) (Or.inl ⟨by rfl, ?_⟩) HH.out ?_
      rotate_left
      · intro w hSw; go_simp; try with_reducible rfl
      change wpAnyH _ _ _ _ _ _ _ (Act.put _ (some 108) _) _
      simp only [Act.put, List.setIfInBounds_toArray, List.set_cons_zero, List.set_cons_succ]
      refine wpAnyH_take (i := 1) (v := ?_) rfl (by kernel_rfl) (by kernel_rfl) (by kernel_rfl) (fun _ _ _ h => h) (Or.inl ⟨by rfl, ?_⟩) HH.out ?_
      rotate_left
      · intro w hSw; go_simp; try with_reducible rfl
      change wpAnyH _ _ _ _ _ _ _ (Act.put _ (some 109) _) _
      simp only [Act.put, List.setIfInBounds_toArray, List.set_cons_zero, List.set_cons_succ]
      refine wpAnyH_take (i := 2) (v := ?_) rfl (by kernel_rfl) (by kernel_rfl) (by kernel_rfl) (fun _ _ _ h => h) (Or.inl ⟨by rfl, ?_⟩) HH.out ?_
      rotate_left
      · intro w hSw; go_simp; try with_reducible rfl
      change wpAnyH _ _ _ _ _ _ _ (Act.put _ (some 110) _) _
      simp only [Act.put, List.setIfInBounds_toArray, List.set_cons_zero, List.set_cons_succ]
      refine wpAnyH_take (i := 3) rfl (by kernel_rfl) (by kernel_rfl) (by kernel_rfl) (fun _ _ _ h => h) (yieldsIf_load1 (by rfl) _ _ rfl _ _ rfl onet101m _ (fun w hSw => (by rw [(yF.x.bY.ext (hW0.trans hSw)).cell (by decide), h9]))) HH.out ?_
      change wpAnyH _ _ _ _ _ _ _ (Act.put _ (some 111) _) _
      simp only [Act.put, List.setIfInBounds_toArray, List.set_cons_zero, List.set_cons_succ]
      refine wpAnyH_take (i := 4) (v := ?_) rfl (by kernel_rfl) (by kernel_rfl) (by kernel_rfl) (fun _ _ _ h => h) (Or.inl ⟨by rfl, ?_⟩) HH.out ?_
      rotate_left
      · intro w hSw; go_simp; try with_reducible rfl
      change wpAnyH _ _ _ _ _ _ _ (Act.put _ (some 112) _) _
      simp only [Act.put, List.setIfInBounds_toArray, List.set_cons_zero, List.set_cons_succ]
      refine wpAnyH_take (i := 5) (v := .int .i64 (k : Nat)) rfl (by kernel_rfl) (by kernel_rfl) (by kernel_rfl) (fun _ _ _ h => h) (Or.inl ⟨by rfl, ?_⟩) HH.out ?_
      · intro w hSw; go_simp; first | rfl | (rw [IntKind.wrap_i64]; omega) | done
      change wpAnyH _ _ _ _ _ _ _ (Act.put _ (some 113) _) _
      simp only [Act.put, List.setIfInBounds_toArray, List.set_cons_zero, List.set_cons_succ]
      refine wpAnyH_take (i := 6) (v := .bool true) rfl (by kernel_rfl) (by kernel_rfl) (by kernel_rfl) (fun _ _ _ h => h) (Or.inl ⟨by rfl, ?_⟩) HH.out ?_
      · intro w hSw; go_simp; first | rfl | done
      change wpAnyH _ _ _ _ _ _ _ (Act.put _ (some 114) _) _
      simp only [Act.put, List.setIfInBounds_toArray, List.set_cons_zero, List.set_cons_succ]
      refine wpAnyH_take (i := 7) (v := ?_) rfl (by kernel_rfl) (by kernel_rfl) (by kernel_rfl) (fun _ _ _ h => h) (Or.inl ⟨by rfl, ?_⟩) HH.out ?_
      rotate_left
      · intro w hSw; go_simp; try with_reducible rfl
      change wpAnyH _ _ _ _ _ _ _ (Act.put _ (some 115) _) _
      simp only [Act.put, List.setIfInBounds_toArray, List.set_cons_zero, List.set_cons_succ]
      refine wpAnyH_take (i := 8) (v := undef) rfl (by kernel_rfl) (by kernel_rfl) (by kernel_rfl) (fun _ _ _ h => h) (Or.inr ⟨by rfl, rfl⟩) HH.out ?_
      change wpAnyH _ _ _ _ _ _ _ (Act.put _ (some 116) _) _
      simp only [Act.put, List.setIfInBounds_toArray, List.set_cons_zero, List.set_cons_succ]
      refine wpAnyH_take (i := 9) (v := undef) rfl (by kernel_rfl) (by kernel_rfl) (by kernel_rfl) (fun _ _ _ h => h) (Or.inr ⟨by rfl, rfl⟩) HH.out ?_
      change wpAnyH _ _ _ _ _ _ _ (Act.put _ (some 117) _) _
      simp only [Act.put, List.setIfInBounds_toArray, List.set_cons_zero, List.set_cons_succ]
      refine wpAnyH_take (i := 10) (v := undef) rfl (by kernel_rfl) (by kernel_rfl) (by kernel_rfl) (fun _ _ _ h => h) (Or.inr ⟨by rfl, rfl⟩) HH.out ?_
      change wpAnyH _ _ _ _ _ _ _ (Act.put _ (some 118) _) _
      simp only [Act.put, List.setIfInBounds_toArray, List.set_cons_zero, List.set_cons_succ]
      refine wpAnyH_take (i := 11) (v := undef) rfl (by kernel_rfl) (by kernel_rfl) (by kernel_rfl) (fun _ _ _ h => h) (Or.inr ⟨by rfl, rfl⟩) HH.out ?_
      change wpAnyH _ _ _ _ _ _ _ (Act.put _ (some 119) _) _
      simp only [Act.put, List.setIfInBounds_toArray, List.set_cons_zero, List.set_cons_succ]
      refine wpAnyH_take (i := 12) (v := undef) rfl (by kernel_rfl) (by kernel_rfl) (by kernel_rfl) (fun _ _ _ h => h) (Or.inr ⟨by rfl, rfl⟩) HH.out ?_
      change wpAnyH _ _ _ _ _ _ _ (Act.put _ (some 120) _) _
      simp only [Act.put, List.setIfInBounds_toArray, List.set_cons_zero, List.set_cons_succ]
      refine wpAnyH_take (i := 13) (v := undef) rfl (by kernel_rfl) (by kernel_rfl) (by kernel_rfl) (fun _ _ _ h => h) (Or.inr ⟨by rfl, rfl⟩) HH.out ?_
      change wpAnyH _ _ _ _ _ _ _ (Act.put _ (some 121) _) _
      simp only [Act.put, List.setIfInBounds_toArray, List.set_cons_zero, List.set_cons_succ]
      refine wpAnyH_take (i := 14) (v := undef) rfl (by kernel_rfl) (by kernel_rfl) (by kernel_rfl) (fun _ _ _ h => h) (Or.inr ⟨by rfl, rfl⟩) HH.out ?_
      change wpAnyH _ _ _ _ _ _ _ (Act.put _ (some 122) _) _
      simp only [Act.put, List.setIfInBounds_toArray, List.set_cons_zero, List.set_cons_succ]
      refine wpAnyH_take (i := 15) (v := undef) rfl (by kernel_rfl) (by kernel_rfl) (by kernel_rfl) (fun _ _ _ h => h) (Or.inr ⟨by rfl, rfl⟩) HH.out ?_
      change wpAnyH _ _ _ _ _ _ _ (Act.put _ (some 123) _) _
      simp only [Act.put, List.setIfInBounds_toArray, List.set_cons_zero, List.set_cons_succ]
      refine wpAnyH_take (i := 16) (v := undef) rfl (by kernel_rfl) (by kernel_rfl) (by kernel_rfl) (fun _ _ _ h => h) (Or.inr ⟨by rfl, rfl⟩) HH.out ?_
      change wpAnyH _ _ _ _ _ _ _ (Act.put _ (some 124) _) _
      simp only [Act.put, List.setIfInBounds_toArray, List.set_cons_zero, List.set_cons_succ]
      refine wpAnyH_take (i := 17) (v := undef) rfl (by kernel_rfl) (by kernel_rfl) (by kernel_rfl) (fun _ _ _ h => h) (Or.inr ⟨by rfl, rfl⟩) HH.out ?_
      change wpAnyH _ _ _ _ _ _ _ (Act.put _ (some 125) _) _
      simp only [Act.put, List.setIfInBounds_toArray, List.set_cons_zero, List.set_cons_succ]
      refine wpAnyH_take (i := 18) (v := undef) rfl (by kernel_rfl) (by kernel_rfl) (by kernel_rfl) (fun _ _ _ h => h) (Or.inr ⟨by rfl, rfl⟩) HH.out ?_
      change wpAnyH _ _ _ _ _ _ _ (Act.put _ (some 126) _) _
      simp only [Act.put, List.setIfInBounds_toArray, List.set_cons_zero, List.set_cons_succ]
      refine wpAnyH_take (i := 19) (v := undef) rfl (by kernel_rfl) (by kernel_rfl) (by kernel_rfl) (fun _ _ _ h => h) (Or.inr ⟨by rfl, rfl⟩) HH.out ?_
      change wpAnyH _ _ _ _ _ _ _ (Act.put _ (some 127) _) _
      simp only [Act.put, List.setIfInBounds_toArray, List.set_cons_zero, List.set_cons_succ]
      refine wpAnyH_take (i := 20) (v := ?_) rfl (by kernel_rfl) (by kernel_rfl) (by kernel_rfl) (fun _ _ _ h => h) (Or.inl ⟨by rfl, ?_⟩) HH.out ?_
      rotate_left
      · intro w hSw; go_simp; try with_reducible rfl
      change wpAnyH _ _ _ _ _ _ _ (Act.put _ (some 128) _) _
      simp only [Act.put, List.setIfInBounds_toArray, List.set_cons_zero, List.set_cons_succ]
      refine wpAnyH_done (by kernel_rfl) ?_ _
      · go_wp2
        go_meet
        case rel =>
          refine ⟨_, rfl, ?_, hW0.trans HH.out⟩
          show Hid (_ = _)
          simp only [Hid, h6, true_or]
          rfl
  case rest =>
  obtain ⟨pb, rfl, hpb, e21⟩ := hcut
  obtain ⟨W21, eW21⟩ : ∃ X, X = wc := ⟨_, rfl⟩
  subst eW21
  have yG := yF.ext e21
  have bTG := bTF.ext e21
  have MG := MF.trans_ext e21
  have hV0 : callV f 241 = f.arg 2 := rfl
  have hcG : callG f 241 = cg := by unfold callG; rw [hcg.out, hst.out]; rfl
  clear yF bTF MF rvF e21 h9 hk6
  cases pb with
  | true =>
    have hpc : 6 ≤ k ∨ (W.acct f.self).bal < callV f 241 := of_decide_eq_true hpb.out.symm
    clear hpb HE
    rw [hcG] at HP hokP
    have kp := yG.x.ok
    have hokm : FOK { f with gas := f.gas - sent + cg } := ⟨kp.kind, kp.pre, kp.pc, kp.sLen, kp.sLt, by have := hokP.gas; rw [hst.out] at this; exact this, kp.self, kp.caller, kp.value, kp.code, kp.mLen, kp.m32, kp.oLt, kp.lLt, kp.out⟩
    have hdg1 : dl (f.gas - sent) ≤ 2000 := Nat.le_trans (dl_u64 _ (by omega)) (by decide)
    have hdg2 : dl cg ≤ 2000 := Nat.le_trans (dl_u64 _ (by have := hokm.gas; simp only at this; omega)) (by decide)
    have K4 : ∀ W', Ext W21 W' → W'.cell? ⟨F, q + 4, none⟩ = some (d12 (q + 4)) := fun W' hW => (yG.x.bF.ext hW).cell (by omega)
    have K5 : ∀ W', Ext W21 W' → W'.cell? ⟨B, 4, none⟩ = some (dF 4) := fun W' hW => (yG.b.ext hW).cell (by decide)
    have nA : NV (Wd O B) W21 (d12 (q + 4)) (f.gas - sent) := yG.x.fc.gas
    have nB : NV (Wd O B) W21 (dF 4) cg := yG.fc.gas
    go_upto_region 27 with (fail)
    refine w_ext ?_
    rintro W0 hW0
    refine wp_region_held_drew (S := fun w' => (0 ≤ (w' : World).heap.size)) (by kernel_rfl) (Nat.zero_le _) (fun hHeld => ?_)
    have HH : Hid ((0 ≤ (_ : World).heap.size)) := hHeld
    clear hHeld
    refine wpAnyH_take (i := 0) (v := ?_) rfl (by kernel_rfl) (by kernel_rfl) (by kernel_rfl) (fun _ _ _ h => h) (Or.inl ⟨by rfl, ?_⟩) HH.out ?_
    rotate_left
    · intro w hSw; go_simp; try with_reducible rfl
    change wpAnyH _ _ _ _ _ _ _ (Act.put _ (some 129) _) _
    simp only [Act.put, List.setIfInBounds_toArray, List.set_cons_zero, List.set_cons_succ]
    refine wpAnyH_take (i := 1) (v := ?_) rfl (by kernel_rfl) (by kernel_rfl) (by kernel_rfl) (fun _ _ _ h => h) (Or.inl ⟨by rfl, ?_⟩) HH.out ?_
    rotate_left
    · intro w hSw; go_simp; try with_reducible rfl
    change wpAnyH _ _ _ _ _ _ _ (Act.put _ (some 130) _) _
    simp only [Act.put, List.setIfInBounds_toArray, List.set_cons_zero, List.set_cons_succ]
    refine wpAnyH_take (i := 2) (v := ?_) rfl (by kernel_rfl) (by kernel_rfl) (by kernel_rfl) (fun _ _ _ h => h) (Or.inl ⟨by rfl, ?_⟩) HH.out ?_
    rotate_left
    · intro w hSw; go_simp; try with_reducible rfl
    change wpAnyH _ _ _ _ _ _ _ (Act.put _ (some 131) _) _
    simp only [Act.put, List.setIfInBounds_toArray, List.set_cons_zero, List.set_cons_succ]
    refine wpAnyH_take (i := 3) (v := ?_) rfl (by kernel_rfl) (by kernel_rfl) (by kernel_rfl) (fun _ _ _ h => h) (Or.inl ⟨by rfl, ?_⟩) HH.out ?_
    rotate_left
    · intro w hSw; go_simp; try with_reducible rfl
    change wpAnyH _ _ _ _ _ _ _ (Act.put _ (some 132) _) _
    simp only [Act.put, List.setIfInBounds_toArray, List.set_cons_zero, List.set_cons_succ]
    refine wpAnyH_take (i := 5) (v := ?_) rfl (by kernel_rfl) (by kernel_rfl) (by kernel_rfl) (fun _ _ _ h => h) (Or.inl ⟨by rfl, ?_⟩) HH.out ?_
    rotate_left
    · intro w hSw; go_simp; try with_reducible rfl
    change wpAnyH _ _ _ _ _ _ _ (Act.put _ (some 134) _) _
    simp only [Act.put, List.setIfInBounds_toArray, List.set_cons_zero, List.set_cons_succ]
    refine wpAnyH_ready (rs := [4, 6]) (by kernel_rfl) (by simp) ?_
    refine (AllReadyH.cons rfl (fun K hK => ?_) (AllReadyH.cons rfl (fun K hK => ?_) AllReadyH.nil))
    refine step_any rfl (op_loadK rfl onet96m rfl (K4 _ (by (repeat (first | with_reducible exact Ext.refl _ | with_reducible assumption | refine Ext.trans ?_ (by with_reducible assumption) | refine Ext.alloc ?_ _ _ | refine Ext.drew ?_ | refine Ext.drewN ?_ _)))) ?_)
    refine hK.out _ _ HH.out (fun hHeld => ?_)
    clear hK K HH
    have HH : Hid ((0 ≤ (_ : World).heap.size)) := hHeld
    clear hHeld
    change wpAnyH _ _ _ _ _ _ _ (Act.put _ (some 133) _) _
    simp only [Act.put, List.setIfInBounds_toArray, List.set_cons_zero, List.set_cons_succ]
    refine wpAnyH_ready (rs := [6]) (by kernel_rfl) (by simp) ?_
    refine AllReadyH.cons rfl (fun K hK => ?_) AllReadyH.nil
    refine step_any rfl (op_loadK rfl onet96m rfl (K5 _ (by (repeat (first | with_reducible exact Ext.refl _ | with_reducible assumption | refine Ext.trans ?_ (by with_reducible assumption) | refine Ext.alloc ?_ _ _ | refine Ext.drew ?_ | refine Ext.drewN ?_ _)))) ?_)
    refine hK.out _ _ HH.out (fun hHeld => ?_)
    clear hK K HH
    have HH : Hid ((0 ≤ (_ : World).heap.size)) := hHeld
    clear hHeld
    change wpAnyH _ _ _ _ _ _ _ (Act.put _ (some 135) _) _
    simp only [Act.put, List.setIfInBounds_toArray, List.set_cons_zero, List.set_cons_succ]
    refine wpAnyH_ready (rs := [7]) (by kernel_rfl) (by simp) ?_
    refine AllReadyH.cons rfl (fun K hK => ?_) AllReadyH.nil
    go_simp
    go_at_call 44; refine (nAdd (Wd O B) _ _ _ _ _ (yG.x.small.ext (by (repeat (first | with_reducible exact Ext.refl _ | with_reducible assumption | refine Ext.trans ?_ (by with_reducible assumption) | refine Ext.alloc ?_ _ _ | refine Ext.drew ?_ | refine Ext.drewN ?_ _)))) (nA.ext (by (repeat (first | with_reducible exact Ext.refl _ | with_reducible assumption | refine Ext.trans ?_ (by with_reducible assumption) | refine Ext.alloc ?_ _ _ | refine Ext.drew ?_ | refine Ext.drewN ?_ _)))) (nB.ext (by (repeat (first | with_reducible exact Ext.refl _ | with_reducible assumption | refine Ext.trans ?_ (by with_reducible assumption) | refine Ext.alloc ?_ _ _ | refine Ext.drew ?_ | refine Ext.drewN ?_ _)))) hdg1 hdg2).mono ?_; rintro e w22 ⟨r22, rfl, hr22, he⟩
    refine hK.out _ _ ?_ (fun hHeld => ?_)
    · exact Nat.zero_le _
    clear hK K HH
    have HH : Hid ((0 ≤ (_ : World).heap.size)) := hHeld
    clear hHeld
    refine wpAnyH_take (i := 8) (v := ?_) rfl (by kernel_rfl) (by kernel_rfl) (by kernel_rfl) (fun _ _ _ h => h) (Or.inl ⟨by rfl, ?_⟩) HH.out ?_
    rotate_left
    · intro w hSw; go_simp; try with_reducible rfl
    change wpAnyH _ _ _ _ _ _ _ (Act.put _ (some 137) _) _
    simp only [Act.put, List.setIfInBounds_toArray, List.set_cons_zero, List.set_cons_succ]
    refine wpAnyH_take (i := 9) (v := ?_) rfl (by kernel_rfl) (by kernel_rfl) (by kernel_rfl) (fun _ _ _ h => h) (Or.inl ⟨by rfl, ?_⟩) HH.out ?_
    rotate_left
    · intro w hSw; go_simp; try with_reducible rfl
    change wpAnyH _ _ _ _ _ _ _ (Act.put _ (some 138) _) _
    simp only [Act.put, List.setIfInBounds_toArray, List.set_cons_zero, List.set_cons_succ]
    refine wpAnyH_ready (rs := [10]) (by kernel_rfl) (by simp) ?_
    refine AllReadyH.cons rfl (fun K hK => ?_) AllReadyH.nil
    refine step_any rfl (op_store1 rfl onet96m rfl rfl hr22.one (yG.x.bF.ext (by (repeat (first | with_reducible exact Ext.refl _ | with_reducible assumption | refine Ext.trans ?_ (by with_reducible assumption) | refine Ext.alloc ?_ _ _ | refine Ext.drew ?_ | refine Ext.drewN ?_ _)))) (by omega) ?_)
    rintro W23 b23 m23
    refine hK.out _ _ (Nat.zero_le _) (fun hHeld => ?_)
    clear hK K HH
    have HH : Hid ((0 ≤ (_ : World).heap.size)) := hHeld
    clear hHeld
    change wpAnyH _ _ _ _ _ _ _ (Act.put _ none _) _
    simp only [Act.put, List.setIfInBounds_toArray, List.set_cons_zero, List.set_cons_succ]
    refine wpAnyH_done (by kernel_rfl) ?_ _
    · have e22 : Ext W21 w22 := by (repeat (first | with_reducible exact Ext.refl _ | with_reducible assumption | refine Ext.trans ?_ (by with_reducible assumption) | refine Ext.alloc ?_ _ _ | refine Ext.drew ?_ | refine Ext.drewN ?_ _))
      have hs2 : sentA f.gas (f.arg 0) = sent := hst.out
      have X23 := ((yG.ext e22).x).putGas hr22 m23 b23 hokm
      have M23 := (MG.trans_ext e22).trans (m23.sub (fun b hb => Or.inr hb))
      rw [hs2] at hokP
      go_wp2_with (go_at_call 152; refine (xAnswer X23 7 0 (by exact hT) nv_nil0 hokP).mono ?_; rintro e w24 ⟨d24, rfl, X24, m24, hd24⟩)
      refine post_voidm rfl rfl ⟨rfl, HP B _ c3 d24 gBw ?_ (M23.trans (m24.sub (fun b hb => Or.inr hb))) (fun i hi => ?_) hpc⟩
      · exact X24
      · rw [hd24 i (by omega) (by omega), updv_ne _ _ (by omega), hdd.out i (by omega)]
    refine step_any rfl (op_loadK rfl onet96m rfl (K5 _ (by (repeat (first | with_reducible exact Ext.refl _ | with_reducible assumption | refine Ext.trans ?_ (by with_reducible assumption) | refine Ext.alloc ?_ _ _ | refine Ext.drew ?_ | refine Ext.drewN ?_ _)))) ?_)
    refine hK.out _ _ HH.out (fun hHeld => ?_)
    clear hK K HH
    have HH : Hid ((0 ≤ (_ : World).heap.size)) := hHeld
    clear hHeld
    change wpAnyH _ _ _ _ _ _ _ (Act.put _ (some 135) _) _
    simp only [Act.put, List.setIfInBounds_toArray, List.set_cons_zero, List.set_cons_succ]
    refine wpAnyH_ready (rs := [4]) (by kernel_rfl) (by simp) ?_
    refine AllReadyH.cons rfl (fun K hK => ?_) AllReadyH.nil
    refine step_any rfl (op_loadK rfl onet96m rfl (K4 _ (by (repeat (first | with_reducible exact Ext.refl _ | with_reducible assumption | refine Ext.trans ?_ (by with_reducible assumption) | refine Ext.alloc ?_ _ _ | refine Ext.drew ?_ | refine Ext.drewN ?_ _)))) ?_)
    refine hK.out _ _ HH.out (fun hHeld => ?_)
    clear hK K HH
    have HH : Hid ((0 ≤ (_ : World).heap.size)) := hHeld
    clear hHeld
    change wpAnyH _ _ _ _ _ _ _ (Act.put _ (some 133) _) _
    simp only [Act.put, List.setIfInBounds_toArray, List.set_cons_zero, List.set_cons_succ]
    refine wpAnyH_ready (rs := [7]) (by kernel_rfl) (by simp) ?_
    refine AllReadyH.cons rfl (fun K hK => ?_) AllReadyH.nil
    go_simp
    go_at_call 44; refine (nAdd (Wd O B) _ _ _ _ _ (yG.x.small.ext (by (repeat (first | with_reducible exact Ext.refl _ | with_reducible assumption | refine Ext.trans ?_ (by with_reducible assumption) | refine Ext.alloc ?_ _ _ | refine Ext.drew ?_ | refine Ext.drewN ?_ _)))) (nA.ext (by (repeat (first | with_reducible exact Ext.refl _ | with_reducible assumption | refine Ext.trans ?_ (by with_reducible assumption) | refine Ext.alloc ?_ _ _ | refine Ext.drew ?_ | refine Ext.drewN ?_ _)))) (nB.ext (by (repeat (first | with_reducible exact Ext.refl _ | with_reducible assumption | refine Ext.trans ?_ (by with_reducible assumption) | refine Ext.alloc ?_ _ _ | refine Ext.drew ?_ | refine Ext.drewN ?_ _)))) hdg1 hdg2).mono ?_; rintro e w22 ⟨r22, rfl, hr22, he⟩
    refine hK.out _ _ ?_ (fun hHeld => ?_)
    · exact Nat.zero_le _
    clear hK K HH
    have HH : Hid ((0 ≤ (_ : World).heap.size)) := hHeld
    clear hHeld
    refine wpAnyH_take (i := 8) (v := ?_) rfl (by kernel_rfl) (by kernel_rfl) (by kernel_rfl) (fun _ _ _ h => h) (Or.inl ⟨by rfl, ?_⟩) HH.out ?_
    rotate_left
    · intro w hSw; go_simp; try with_reducible rfl
    change wpAnyH _ _ _ _ _ _ _ (Act.put _ (some 137) _) _
    simp only [Act.put, List.setIfInBounds_toArray, List.set_cons_zero, List.set_cons_succ]
    refine wpAnyH_take (i := 9) (v := ?_) rfl (by kernel_rfl) (by kernel_rfl) (by kernel_rfl) (fun _ _ _ h => h) (Or.inl ⟨by rfl, ?_⟩) HH.out ?_
    rotate_left
    · intro w hSw; go_simp; try with_reducible rfl
    change wpAnyH _ _ _ _ _ _ _ (Act.put _ (some 138) _) _
    simp only [Act.put, List.setIfInBounds_toArray, List.set_cons_zero, List.set_cons_succ]
    refine wpAnyH_ready (rs := [10]) (by kernel_rfl) (by simp) ?_
    refine AllReadyH.cons rfl (fun K hK => ?_) AllReadyH.nil
    refine step_any rfl (op_store1 rfl onet96m rfl rfl hr22.one (yG.x.bF.ext (by (repeat (first | with_reducible exact Ext.refl _ | with_reducible assumption | refine Ext.trans ?_ (by with_reducible assumption) | refine Ext.alloc ?_ _ _ | refine Ext.drew ?_ | refine Ext.drewN ?_ _)))) (by omega) ?_)
    rintro W23 b23 m23
    refine hK.out _ _ (Nat.zero_le _) (fun hHeld => ?_)
    clear hK K HH
    have HH : Hid ((0 ≤ (_ : World).heap.size)) := hHeld
    clear hHeld
    change wpAnyH _ _ _ _ _ _ _ (Act.put _ none _) _
    simp only [Act.put, List.setIfInBounds_toArray, List.set_cons_zero, List.set_cons_succ]
    refine wpAnyH_done (by kernel_rfl) ?_ _
    · have e22 : Ext W21 w22 := by (repeat (first | with_reducible exact Ext.refl _ | with_reducible assumption | refine Ext.trans ?_ (by with_reducible assumption) | refine Ext.alloc ?_ _ _ | refine Ext.drew ?_ | refine Ext.drewN ?_ _))
      have hs2 : sentA f.gas (f.arg 0) = sent := hst.out
      have X23 := ((yG.ext e22).x).putGas hr22 m23 b23 hokm
      have M23 := (MG.trans_ext e22).trans (m23.sub (fun b hb => Or.inr hb))
      rw [hs2] at hokP
      go_wp2_with (go_at_call 152; refine (xAnswer X23 7 0 (by exact hT) nv_nil0 hokP).mono ?_; rintro e w24 ⟨d24, rfl, X24, m24, hd24⟩)
      refine post_voidm rfl rfl ⟨rfl, HP B _ c3 d24 gBw ?_ (M23.trans (m24.sub (fun b hb => Or.inr hb))) (fun i hi => ?_) hpc⟩
      · exact X24
      · rw [hd24 i (by omega) (by omega), updv_ne _ _ (by omega), hdd.out i (by omega)]
  | false =>
    have hpc : ¬ (6 ≤ k ∨ (W.acct f.self).bal < callV f 241) := of_decide_eq_false hpb.out.symm
    clear hpb HP
    obtain ⟨pp, hpp⟩ : ∃ x, Hid (preA t = x) := ⟨_, rfl⟩
    have HN := fun W' => yNativeAt t W' ht
    rw [hpp.out] at HN
    have hokW : FOK { f with gas := f.gas - sent, stack := f.stack.drop 7, outOff := if f.arg 6 = 0 then 0 else f.arg 5, outLen := f.arg 6 } := by have := hokG; unfold callP at this; rw [hst.out] at this; exact this
    go_upto_region 29 with (fail)
    go_upto_region 30 with (first | (go_at_call_of 73 (Value.int IntKind.i64 3); refine (xArg (yG.x.ext (by (repeat (first | with_reducible exact Ext.refl _ | with_reducible assumption | refine Ext.trans ?_ (by with_reducible assumption) | refine Ext.alloc ?_ _ _ | refine Ext.drew ?_ | refine Ext.drewN ?_ _)))) 3 (by decide)).mono ?_; rintro e wro ⟨ro, rfl, hro, hero⟩) | (go_at_call_of 73 (Value.int IntKind.i64 4); refine (xArg (yG.x.ext (by (repeat (first | with_reducible exact Ext.refl _ | with_reducible assumption | refine Ext.trans ?_ (by with_reducible assumption) | refine Ext.alloc ?_ _ _ | refine Ext.drew ?_ | refine Ext.drewN ?_ _)))) 4 (by decide)).mono ?_; rintro e wrn ⟨rn, rfl, hrn, hern⟩) | (go_at_call 72; refine (yRead (O := Wd O B) (yG.x.bF.ext (by (repeat (first | with_reducible exact Ext.refl _ | with_reducible assumption | refine Ext.trans ?_ (by with_reducible assumption) | refine Ext.alloc ?_ _ _ | refine Ext.drew ?_ | refine Ext.drewN ?_ _)))) hq (yG.x.small.ext (by (repeat (first | with_reducible exact Ext.refl _ | with_reducible assumption | refine Ext.trans ?_ (by with_reducible assumption) | refine Ext.alloc ?_ _ _ | refine Ext.drew ?_ | refine Ext.drewN ?_ _)))) (yG.x.fc.memNL.ext (by (repeat (first | with_reducible exact Ext.refl _ | with_reducible assumption | refine Ext.trans ?_ (by with_reducible assumption) | refine Ext.alloc ?_ _ _ | refine Ext.drew ?_ | refine Ext.drewN ?_ _)))) (hro.ext (by (repeat (first | with_reducible exact Ext.refl _ | with_reducible assumption | refine Ext.trans ?_ (by with_reducible assumption) | refine Ext.alloc ?_ _ _ | refine Ext.drew ?_ | refine Ext.drewN ?_ _)))) (hrn.ext (by (repeat (first | with_reducible exact Ext.refl _ | with_reducible assumption | refine Ext.trans ?_ (by with_reducible assumption) | refine Ext.alloc ?_ _ _ | refine Ext.drew ?_ | refine Ext.drewN ?_ _)))) hrd).mono ?_; rintro e w24 ⟨ri, rfl, hri, he24⟩) | ((with_reducible (refine Veil.out ?_; apply wl_store1 onet32m)); (case hx => rfl); (case hy => rfl); (case h1 => exact hri.one); (case hB => exact yG.b.ext (by (repeat (first | with_reducible exact Ext.refl _ | with_reducible assumption | refine Ext.trans ?_ (by with_reducible assumption) | refine Ext.alloc ?_ _ _ | refine Ext.drew ?_ | refine Ext.drewN ?_ _)))); (case ho => decide); rintro W25 b25 m25))
    have e25 : Ext W21 w24 := by (repeat (first | with_reducible exact Ext.refl _ | with_reducible assumption | refine Ext.trans ?_ (by with_reducible assumption) | refine Ext.alloc ?_ _ _ | refine Ext.drew ?_ | refine Ext.drewN ?_ _))
    obtain ⟨dH, yH⟩ : ∃ dH, YB kk O TM TL W25 Y F q n c3 d12 (W.warm t) start { st with now := st.now.warm t } { f with gas := f.gas - sent } B dH { g with gas := cg, input := readA f.mem (f.arg 3) (f.arg 4) } := ⟨_, (yG.ext e25).put hri.one m25 b25 (((yG.ext e25).fc).boxInput yG.hs yG.hc hri) yG.hs yG.hc⟩
    have m25' : Mod (· = B) W21 W25 := (e25.mod _).trans m25
    have bTH := bTG.mod m25' (fun e => nTB e)
    have MH := MG.anew m25' gBw
    clear m25' m25 b25 e25 yG bTG MG hro hrn hri
    go_upto_region 31 with (first | ((with_reducible (refine Veil.out ?_; apply wl_loadA)); (case hx => rfl); (case hB => exact bTH.ext (by (repeat (first | with_reducible exact Ext.refl _ | with_reducible assumption | refine Ext.trans ?_ (by with_reducible assumption) | refine Ext.alloc ?_ _ _ | refine Ext.drew ?_ | refine Ext.drewN ?_ _)))); (case hA => exact aT); (case hs => exact ht); (case ho => decide)) | (go_at_call 63; refine (HN _).mono ?_; rintro e w26 ⟨rfl, he26⟩) | ((with_reducible (refine Veil.out ?_; apply wl_store1 onet5m)); (case hx => rfl); (case hy => rfl); (case h1 => rfl); (case hB => exact yH.b.ext (by (repeat (first | with_reducible exact Ext.refl _ | with_reducible assumption | refine Ext.trans ?_ (by with_reducible assumption) | refine Ext.alloc ?_ _ _ | refine Ext.drew ?_ | refine Ext.drewN ?_ _)))); (case ho => decide); rintro W27 b27 m27))
    have e27 : Ext W25 w26 := by (repeat (first | with_reducible exact Ext.refl _ | with_reducible assumption | refine Ext.trans ?_ (by with_reducible assumption) | refine Ext.alloc ?_ _ _ | refine Ext.drew ?_ | refine Ext.drewN ?_ _))
    obtain ⟨dI, yI⟩ : ∃ dI, YB kk O TM TL W27 Y F q n c3 d12 (W.warm t) start { st with now := st.now.warm t } { f with gas := f.gas - sent } B dI { g with gas := cg, input := readA f.mem (f.arg 3) (f.arg 4) , pre := pp } := ⟨_, (yH.ext e27).put rfl m27 b27 (((yH.ext e27).fc).boxPre yH.hs yH.hc (x := pp) rfl) yH.hs yH.hc⟩
    have m27' : Mod (· = B) W25 W27 := (e27.mod _).trans m27
    have bTI := bTH.mod m27' (fun e => nTB e)
    have MI := MH.anew m27' gBw
    clear m27' m27 b27 e27 yH bTH MH HN
    have hpi : dI 1 = .int .u8 (pp : Nat) := yI.fc.pre
    go_upto_if 157 with ((with_reducible (refine Veil.out ?_; apply wl_loadC onet5m)); (case hw => rfl); (case hx => rfl); (case hc => exact ((yI.b.ext (by (repeat (first | with_reducible exact Ext.refl _ | with_reducible assumption | refine Ext.trans ?_ (by with_reducible assumption) | refine Ext.alloc ?_ _ _ | refine Ext.drew ?_ | refine Ext.drewN ?_ _)))).cell (i := 1) (by decide)).trans (congrArg some hpi)))
    try simp only [Act.put]
    go_cut [] (fun wx => ∃ dJ, YB kk O TM TL wx Y F q n c3 d12 (W.warm t) start { st with now := st.now.warm t } { f with gas := f.gas - sent } B dJ { g with gas := cg, input := readA f.mem (f.arg 3) (f.arg 4) , pre := pp, code := if pp = 0 then (W.acct t).code else [] } ∧ Mod (· = B) W27 wx)
    case first =>
      by_cases h0 : pp = 0
      · subst h0
        go_upto_region 32 with (fail)
        refine w_ext ?_
        rintro W0 hW0
        refine wp_region_held_drew (S := fun w' => Mod (fun x => x = B) W0 w') (by kernel_rfl) (Mod.refl _ _).drew (fun hHeld => ?_)
        have HH : Hid (Mod (fun x => x = B) W0 _) := hHeld
        clear hHeld
        refine wpAnyH_take (i := 0) (v := ?_) rfl (by kernel_rfl) (by kernel_rfl) (by kernel_rfl) (fun _ _ _ h => h) (Or.inl ⟨by rfl, ?_⟩) HH.out ?_
        rotate_left
        · intro w hSw; go_simp; try with_reducible rfl
        change wpAnyH _ _ _ _ _ _ _ (Act.put _ (some 158) _) _
        simp only [Act.put, List.setIfInBounds_toArray, List.set_cons_zero, List.set_cons_succ]
        refine wpAnyH_take (i := 1) (v := ?_) rfl (by kernel_rfl) (by kernel_rfl) (by kernel_rfl) (fun _ _ _ h => h) (Or.inl ⟨by rfl, ?_⟩) HH.out ?_
        rotate_left
        · intro w hSw; go_simp; try with_reducible rfl
        change wpAnyH _ _ _ _ _ _ _ (Act.put _ (some 159) _) _
        simp only [Act.put, List.setIfInBounds_toArray, List.set_cons_zero, List.set_cons_succ]
        refine wpAnyH_take (i := 2) (v := ?_) rfl (by kernel_rfl) (by kernel_rfl) (by kernel_rfl) (fun _ _ _ h => h) (Or.inl ⟨by rfl, ?_⟩) HH.out ?_
        rotate_left
        · intro w hSw; go_simp; try with_reducible rfl
        change wpAnyH _ _ _ _ _ _ _ (Act.put _ (some 160) _) _
        simp only [Act.put, List.setIfInBounds_toArray, List.set_cons_zero, List.set_cons_succ]
        refine wpAnyH_take (i := 3) rfl (by kernel_rfl) (by kernel_rfl) (by kernel_rfl) (fun _ _ _ h => h) (yields_A (by rfl) rfl rfl (fun w hSw => (bTI.ext hW0).mod hSw (fun e => nTB e)) aT ht (by decide)) HH.out ?_
        change wpAnyH _ _ _ _ _ _ _ (Act.put _ (some 161) _) _
        simp only [Act.put, List.setIfInBounds_toArray, List.set_cons_zero, List.set_cons_succ]
        refine wpAnyH_ready (rs := [4]) (by kernel_rfl) (by simp) ?_
        refine AllReadyH.cons rfl (fun K hK => ?_) AllReadyH.nil
        go_simp
        go_at_call 53; refine (xAccountG (yI.x.ext (by (repeat (first | with_reducible exact Ext.refl _ | with_reducible assumption | refine Ext.trans ?_ (by with_reducible assumption) | refine Ext.alloc ?_ _ _ | refine Ext.drew ?_ | refine Ext.drewN ?_ _)))) t ht).mono ?_; rintro e w33 ⟨u1, u2, u3, u4, rfl, hp, hag, he⟩; obtain ⟨f1, f2, f3, f4, gs, go⟩ := hag
        refine hK.out _ _ ?_ (fun hHeld => ?_)
        · first | exact HH.out.trans hmY | exact HH.out.trans_ext he | exact HH.out
        clear hK K HH
        have HH : Hid (Mod (fun x => x = B) W0 _) := hHeld
        clear hHeld
        refine wpAnyH_take (i := 5) (v := ?_) rfl (by kernel_rfl) (by kernel_rfl) (by kernel_rfl) (fun _ _ _ h => h) (Or.inl ⟨by rfl, ?_⟩) HH.out ?_
        rotate_left
        · intro w hSw; go_simp; try with_reducible rfl
        change wpAnyH _ _ _ _ _ _ _ (Act.put _ (some 163) _) _
        simp only [Act.put, List.setIfInBounds_toArray, List.set_cons_zero, List.set_cons_succ]
        refine wpAnyH_ready (rs := [6]) (by kernel_rfl) (by simp) ?_
        refine AllReadyH.cons rfl (fun K hK => ?_) AllReadyH.nil
        go_simp
        go_at_call 36; refine (yBytesOf (O := Wd O B) (yI.x.small.ext (by (repeat (first | with_reducible exact Ext.refl _ | with_reducible assumption | refine Ext.trans ?_ (by with_reducible assumption) | refine Ext.alloc ?_ _ _ | refine Ext.drew ?_ | refine Ext.drewN ?_ _)))) (NL.ext hp.code (by (repeat (first | with_reducible exact Ext.refl _ | with_reducible assumption | refine Ext.trans ?_ (by with_reducible assumption) | refine Ext.alloc ?_ _ _ | refine Ext.drew ?_ | refine Ext.drewN ?_ _))))).mono ?_; rintro e w34 ⟨rc, rfl, hrc, he⟩
        refine hK.out _ _ ?_ (fun hHeld => ?_)
        · first | exact HH.out.trans hmY | exact HH.out.trans_ext he | exact HH.out
        clear hK K HH
        have HH : Hid (Mod (fun x => x = B) W0 _) := hHeld
        clear hHeld
        refine wpAnyH_take (i := 7) (v := ?_) rfl (by kernel_rfl) (by kernel_rfl) (by kernel_rfl) (fun _ _ _ h => h) (Or.inl ⟨by rfl, ?_⟩) HH.out ?_
        rotate_left
        · intro w hSw; go_simp; try with_reducible rfl
        change wpAnyH _ _ _ _ _ _ _ (Act.put _ (some 165) _) _
        simp only [Act.put, List.setIfInBounds_toArray, List.set_cons_zero, List.set_cons_succ]
        refine wpAnyH_ready (rs := [8]) (by kernel_rfl) (by simp) ?_
        refine AllReadyH.cons rfl (fun K hK => ?_) AllReadyH.nil
        refine step_any rfl (op_store1 rfl onet32m rfl rfl hrc.one (yI.b.ext (by (repeat (first | with_reducible exact Ext.refl _ | with_reducible assumption | refine Ext.trans ?_ (by with_reducible assumption) | refine Ext.alloc ?_ _ _ | refine Ext.drew ?_ | refine Ext.drewN ?_ _)))) (by decide) ?_)
        rintro W35 b35 m35
        have e35 : Ext W27 w34 := by (repeat (first | with_reducible exact Ext.refl _ | with_reducible assumption | refine Ext.trans ?_ (by with_reducible assumption) | refine Ext.alloc ?_ _ _ | refine Ext.drew ?_ | refine Ext.drewN ?_ _))
        have yJ2 := (yI.ext e35).put hrc.one m35 b35 (((yI.ext e35).fc).boxCode yI.hs yI.hc hrc) yI.hs yI.hc
        refine hK.out _ _ (HH.out.trans m35) (fun hHeld => ?_)
        clear hK K HH
        have HH : Hid (Mod (fun x => x = B) W0 _) := hHeld
        clear hHeld
        change wpAnyH _ _ _ _ _ _ _ (Act.put _ none _) _
        simp only [Act.put, List.setIfInBounds_toArray, List.set_cons_zero, List.set_cons_succ]
        refine wpAnyH_done (by kernel_rfl) ?_ _
        · go_wp2
          go_meet
          case rel => exact ⟨_, yJ2, (hW0.mod _).trans HH.out⟩
      · have h0i : ¬ (pp : Int) = 0 := by omega
        go_wp2
        go_meet
        case rel =>
          have eg : ({ g with gas := cg, input := readA f.mem (f.arg 3) (f.arg 4) , pre := pp, code := if pp = 0 then (W.acct t).code else [] } : AFrame) = { g with gas := cg, input := readA f.mem (f.arg 3) (f.arg 4) , pre := pp } := by
            rw [if_neg h0]
            have := hg.out
            subst this
            rfl
          exact ⟨dI, by rw [eg]; exact yI, Mod.refl _ _⟩
    case rest =>
    obtain ⟨dJ, yJ, mJ⟩ := hcut
    obtain ⟨W28, eW28⟩ : ∃ X, X = wc := ⟨_, rfl⟩
    subst eW28
    have MJ := MI.anew mJ gBw
    clear mJ yI bTI MI hpi
    go_upto_region 34 with (first | (go_at_call_of 73 (Value.int IntKind.i64 5); refine (xArg (yJ.x.ext (by (repeat (first | with_reducible exact Ext.refl _ | with_reducible assumption | refine Ext.trans ?_ (by with_reducible assumption) | refine Ext.alloc ?_ _ _ | refine Ext.drew ?_ | refine Ext.drewN ?_ _)))) 5 (by decide)).mono ?_; rintro e wrp ⟨rp, rfl, hrp, herp⟩) | (go_at_call_of 73 (Value.int IntKind.i64 6); refine (xArg (yJ.x.ext (by (repeat (first | with_reducible exact Ext.refl _ | with_reducible assumption | refine Ext.trans ?_ (by with_reducible assumption) | refine Ext.alloc ?_ _ _ | refine Ext.drew ?_ | refine Ext.drewN ?_ _)))) 6 (by decide)).mono ?_; rintro e wrq ⟨rq, rfl, hrq, herq⟩) | (go_at_call 236; refine (xWait (yJ.x.ext (by (repeat (first | with_reducible exact Ext.refl _ | with_reducible assumption | refine Ext.trans ?_ (by with_reducible assumption) | refine Ext.alloc ?_ _ _ | refine Ext.drew ?_ | refine Ext.drewN ?_ _)))) 7 _ _ hT (hrp.ext (by (repeat (first | with_reducible exact Ext.refl _ | with_reducible assumption | refine Ext.trans ?_ (by with_reducible assumption) | refine Ext.alloc ?_ _ _ | refine Ext.drew ?_ | refine Ext.drewN ?_ _)))) (hrq.ext (by (repeat (first | with_reducible exact Ext.refl _ | with_reducible assumption | refine Ext.trans ?_ (by with_reducible assumption) | refine Ext.alloc ?_ _ _ | refine Ext.drew ?_ | refine Ext.drewN ?_ _)))) hokW).mono ?_; rintro e w29 ⟨d29, rfl, X29, m29, hd29⟩))
    have e29 : Ext W28 wrq := by (repeat (first | with_reducible exact Ext.refl _ | with_reducible assumption | refine Ext.trans ?_ (by with_reducible assumption) | refine Ext.alloc ?_ _ _ | refine Ext.drew ?_ | refine Ext.drewN ?_ _))
    have yK := (yJ.ext e29).frame X29 m29
    have MK := (MJ.trans_ext e29).trans (m29.sub (fun b hb => Or.inr hb))
    have hC : ({ g with gas := cg, input := readA f.mem (f.arg 3) (f.arg 4) , pre := pp, code := if pp = 0 then (W.acct t).code else [] } : AFrame) = callC (st.now.warm (addrA (f.arg 1))) f 241 (W.acct (addrA (f.arg 1))).code := by
      have hgo := hg.out
      subst hgo
      unfold callC
      simp only [hcG, htt.out, hpp.out]
      simp [callV, fr0, show takesA 241 = 7 from rfl]
    have hP : ({ f with gas := f.gas - sent, stack := f.stack.drop 7, outOff := if f.arg 6 = 0 then 0 else f.arg 5, outLen := f.arg 6 } : AFrame) = callP f 241 := by
      unfold callP
      rw [hst.out]
      rfl
    have yR := yK.row
    have yX : YX kk (Wd O B) TM TL w29 Y F q n 156 c3 d29 (W.warm t) start { st with now := st.now.warm t } { f with gas := f.gas - sent, stack := f.stack.drop 7, outOff := if f.arg 6 = 0 then 0 else f.arg 5, outLen := f.arg 6 } := yK.x
    rw [hC] at yR
    rw [hP] at yX
    rw [← htt.out] at yX
    have hdf : Hid (∀ i, i < q ∨ q + 52 ≤ i → d29 i = d i) := fun i hi => by rw [hd29 i (by omega) (by omega) (by omega), hdd.out i (by omega)]
    have HE2 := HE B w29 c3 d29 (rowOf dJ 0 60) gBw yX MK hdf.out hpc (rowOf_size _ _ _) yK.ones yR
    clear HE
    go_wp2_with (first | ((with_reducible (refine Veil.out ?_; apply wl_loadRow rt147m)); (case hx => rfl); (case hB => exact yK.b.ext (by (repeat (first | with_reducible exact Ext.refl _ | with_reducible assumption | refine Ext.trans ?_ (by with_reducible assumption) | refine Ext.alloc ?_ _ _ | refine Ext.drew ?_ | refine Ext.drewN ?_ _)))); (case hi => decide)) | (go_at_call 65; refine HE2.mono ?_; rintro e w30 ⟨rfl, hR⟩))
    go_end0
    exact ⟨rfl, hR⟩
end
end Go.Proofs.YgvahwGreat
