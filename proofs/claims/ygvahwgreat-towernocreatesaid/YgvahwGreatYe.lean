import Derived.Test.YgvahwGreatYc
import Derived.Test.YgvahwGreatYZe
import Derived.Test.YgvahwGreatYpL
import Derived.Test.YgvahwGreatKc
import Derived.Test.YgvahwGreatVaTb0
import Derived.Test.YgvahwGreatRowsS
namespace Go.Proofs.YgvahwGreat
open Go.RowKit
set_option linter.unusedSimpArgs false


theorem onet101e : OneT 114 := oneT_of (by kernel_rfl) (by kernel_rfl)
theorem onet5e : OneT 5 := oneT_of (by kernel_rfl) (by kernel_rfl)
theorem onet94e : OneT 107 := oneT_of (by kernel_rfl) (by kernel_rfl)
theorem onet96e : OneT 109 := oneT_of (by kernel_rfl) (by kernel_rfl)
theorem onet32e : OneT 23 := oneT_of (by kernel_rfl) (by kernel_rfl)
theorem rt99e : RowT 112 8 := rowT_of (by kernel_rfl) (by kernel_rfl)
theorem rt147e : RowT 156 60 := rowT_of (by kernel_rfl) (by kernel_rfl)
theorem under101e : Hvah.prog.underlying 114 = some (.slice 156) := by kernel_rfl
theorem info147e : Hvah.prog.info? 156 = some Hvah.t156 := by kernel_rfl
theorem size147e : Hvah.t156.size = 60 := by kernel_rfl
theorem bytes147e : Hvah.t156.bytes ≤ 4096 := by decide +kernel
theorem z147m : Hvah.t156.zero.map (fun z => z.cells.size) = some 60 := by kernel_rfl
theorem z147e : ∃ z, Hvah.t156.zero = some z ∧ z.cells.size = 60 := by
  have h := z147m
  cases e : Hvah.t156.zero with
  | none => rw [e] at h; cases h
  | some z => rw [e] at h; exact ⟨z, rfl, by simpa using h⟩
theorem grown_blk {w w' : World} {e t : TypeId} {sz k F Y n b' : Nat} {v v' : Value} {c cc c' : Nat → Value} {news : List Value} (hG : Grown w e sz v k F cc news v' w' b' c') (hB : Blk w Y n t c) (hne : Y ≠ F) : Blk w' Y n t c := by
  rcases hG.how with ⟨_, _, m⟩ | ⟨_, x⟩
  · exact hB.mod m hne
  · exact hB.ext x
theorem addr_onec {O : Nat → Prop} {w : World} {v : Value} {l : List Nat} (h : AddrL O w v l) : v.oneCell' = true := by
  rcases h with ⟨_, rfl⟩ | ⟨_, _, _, rfl, _⟩ <;> rfl
theorem fv_onec {w : World} {e : TypeId} {sz k F n : Nat} {v : Value} {c : Nat → Value} (h : FV w e sz v k F n c) : v.oneCell' = true := by
  rcases h with ⟨_, rfl⟩ | ⟨_, rfl, _⟩ <;> rfl
/-- What entering leaves. -/
def YEnt (O TL : Nat → Prop) (w w' : World) (Y F : Nat) (W : YW) (start : List (Nat × Nat × Nat)) (st : ASt) (tot : Nat) (L : List YFrm) : Prop :=
  ∃ O' F' n' c' d', YZ O' TL w' Y F' n' c' d' W start st tot L ∧ (∀ b, b < w.heap.size → (O' b ↔ O b)) ∧ Mod (fun b => b = Y ∨ b = F) w w'
/-- The new frame in its box. -/
theorem ye_frame {O TL : Nat → Prop} {w w1 w2 w3 : World} {Y F n B : Nat} {c d : Nat → Value} {W : YW} {start : List (Nat × Nat × Nat)} {st : ASt} {tot : Nat} {L : List YFrm} {fr r : Array Value} {f : AFrame} (h : YZ O TL w Y F n c d W start st tot L) (hf : YFC O (fun _ => False) w (cf fr) 0 f) (hok : FOK f)
    (hg : w.heap.size ≤ B) (e1 : Ext w w1) (e2 : Ext w1 w2) (m3 : Mod (· = B) w2 w3) (hr8 : r.size = 8) (hrw : YWC (Wd O B) w2 (cf r) 0 W) (hrl : LogL (fun b => ¬ Wd O B b) (Wd O B) w2 (cf r 4) W.logs) (hrf : Full (cf r 4)) :
    YFr (Wd O B) w3 (layv (cf fr) 52 r) 0 ⟨{ f with saved := st.now }, W, fun _ => False⟩ := by
  have hr : ∀ b, b < w.heap.size → Wd O B b → O b := fun b hb q => by
    rcases q with q | q
    · exact q
    · omega
  have hs : ∀ b, ¬ Wd O B b → ¬ b = B := fun b hb q => hb (Or.inr q)
  have k1 := ((hf.reo hr).ext (e1.trans e2)).keep m3 hs (fun b hb => absurd hb id)
  have k2 := k1.same (d' := layv (cf fr) 52 r) (q' := 0) hok.self hok.caller (fun j hj => by rw [layv_out _ _ _ (Or.inl (by omega))])
  have l1 : ∀ j, j < 8 → layv (cf fr) 52 r (52 + j) = cf r j := fun j hj => layv_in _ _ _ (by omega)
  refine ⟨⟨k2.kind, k2.pre, k2.static, k2.pc, k2.gas, k2.value, k2.outOff, k2.outLen, k2.stack, k2.mem, k2.code, k2.input, k2.self, k2.caller, k2.mcap⟩, ⟨hok.kind, hok.pre, hok.pc, hok.sLen, hok.sLt, hok.gas, hok.self, hok.caller, hok.value, hok.code, hok.mLen, hok.m32, hok.oLt, hok.lLt, hok.out⟩, ?_, ?_, ?_, h.lim, h.wf, h.now⟩
  · exact (hrw.keep m3 hs).cells (fun j hj => by rw [Nat.zero_add, Nat.zero_add]; exact l1 j hj)
  · rw [Nat.zero_add, l1 4 (by decide)]; exact LogL.keep hrl m3 hs hs
  · rw [Nat.zero_add, l1 4 (by decide)]; exact hrf
section
variable {O TL : Nat → Prop} {w : World} {Y F n : Nat} {c d : Nat → Value} {W : YW} {start : List (Nat × Nat × Nat)} {st : ASt} {tot : Nat} {L : List YFrm}
set_option maxRecDepth 100000 in
set_option maxHeartbeats 6400000 in
theorem zEnter0 (HLG : ∀ {O T : Nat → Prop} {w : World} {v : Value} {l : List ALog}, Small O w → LogL T O w v l → l.length ≤ 100000 → Calls Hvah.prog 80 #[v] w fun e w' => ∃ r, e = .returned r ∧ GRow 141 22 (LgC O w') (fun b => ¬ O b) w' r l ∧ Full r ∧ Ext w w') (h : YZ O TL w Y F n c d W start st tot L) (fr : Array Value) (hsz : fr.size = 60) (hones : Ones fr) (f : AFrame) (hk : f.kind = 0) (hf : YFC O (fun _ => False) w (cf fr) 0 f) (hok : FOK f) (hsl : ∀ x ∈ W.accts, x.slots.length ≤ 90000) (hfew : L.length < 7) (hl3 : YLim (W.setBal f.caller ((W.acct f.caller).bal - f.value))) (hl4 : YLim (W.move f.caller f.self f.value)) :
    Calls Hvah.prog 65 #[.pointer (some ⟨Y, 0, none⟩), .agg fr] w fun e w' => e = .returned (.tuple #[]) ∧ YEnt O TL w w' Y F (W.move f.caller f.self f.value) start (st.enter f) tot (⟨{ f with saved := st.now }, W, fun _ => False⟩ :: L) := by
  have hYl : Y < w.heap.size := h.bY.lt
  have hFl : F < w.heap.size := h.small F h.oF
  go_enter Hvah.func65, Hvah.ntmps65
  go_upto_region 1 with ((with_reducible (refine Veil.out ?_; apply wl_boxB)); (case hx => rfl); (case hn => exact hsz); rintro B W1 e1 b1 g1)
  have hBY : ¬ B = Y := by omega
  have hBF : ¬ B = F := by omega
  have h1 := h.wd e1 b1.lt g1
  obtain ⟨T, hT⟩ : ∃ T, LogL T (Wd O B) W1 (c 4) W.logs := h1.lg.elim (fun k => ⟨_, k⟩) (fun k => ⟨_, k.1⟩)
  have HC := fun W2 (q : Ext W1 W2) => yClone (w := W2) HLG (h1.ext q).small (h1.ext q).bY (h1.ext q).wc (GRow.ext hT q (fun _ _ _ k => k.ext q)) h1.lim hsl
  go_upto_region 2 with (first | (go_at_call 140; refine (HC _ (by (repeat (first | with_reducible exact Ext.refl _ | with_reducible assumption | refine Ext.trans ?_ (by with_reducible assumption) | refine Ext.alloc ?_ _ _ | refine Ext.drew ?_ | refine Ext.drewN ?_ _)))).mono ?_; rintro e w2 ⟨r, rfl, hr8, hro, hrw, hrl, hrf, e2⟩) | ((with_reducible (refine Veil.out ?_; apply wl_storeRow rt99e)); (case hx => rfl); (case hy => rfl); (case hr => exact hr8); (case h1 => exact hro); (case hB => exact b1.ext e2); (case hi => decide); rintro W3 b3 m3))
  have hfr := ye_frame h hf hok g1 e1 e2 m3 hr8 hrw hrl hrf
  have h3 : YZ (Wd O B) TL W3 Y F n c d W start st tot L := (h1.ext e2).keepS m3 (fun b hb q => hb (Or.inr q)) (fun q => hBY q.symm) (fun q => hBF q.symm) (fun x hx b hb q => by have := h.small b (h.tm x hx b hb).1; omega) (fun b hb q => by have := h.small b (h.tl b hb).1; omega)
  have M3 : Mod (· = B) w W3 := ((e1.trans e2).mod _).trans m3
  obtain ⟨dB, hdB⟩ : ∃ dB, dB = layv (cf fr) 52 r := ⟨_, rfl⟩
  rw [← hdB] at hfr b3
  have hone60 : Ones (rowOf dB 0 60) := ones_of (fun q hq => by
    rw [rowOf_size] at hq
    rw [cf_rowOf _ _ _ hq, Nat.zero_add, hdB]
    rcases Nat.lt_or_ge q 52 with k | k
    · rw [layv_out _ _ _ (Or.inl k)]; exact Ones.get hones (by omega)
    · have k2 := layv_in (cf fr) 52 r (j := q - 52) (by omega)
      rw [show 52 + (q - 52) = q by omega] at k2
      rw [k2]; exact Ones.get hro (by omega))
  have E3 : Ext w W3 := Ext.trans_mod (e1.trans e2) m3 (fun q hq => by have hq2 : q = B := hq; rw [hq2]; exact g1)
  have hk0 : dB 0 = .int .u8 0 := by have := hfr.fc.kind; simp only [hk] at this; exact this
  have hself : AAt dB 12 f.self := by have := hfr.fc.self; rwa [Nat.zero_add] at this
  have hcall : AAt dB 32 f.caller := by have := hfr.fc.caller; rwa [Nat.zero_add] at this
  have hsY : ∀ b, ¬ Wd O B b → ¬ b = Y := fun b hb q => hb (q ▸ h3.oY)
  clear HC hT hrw hrl hrf hf h1 hdB hones hro m3 b1
  go_upto_if 11 with (first | ((with_reducible (refine Veil.out ?_; apply wl_loadC onet5e)); (case hw => rfl); (case hx => rfl); (case hc => exact (b3.cell (i := 0) (by decide)).trans (congrArg some hk0))) | (go_at_call 141; refine (yCreates 0 (by decide)).mono ?_; rintro e w4 ⟨rfl, e4⟩; have e5 := e4.symm; subst e5))
  have hval : NV (Wd O B) W3 (dB 5) f.value := hfr.fc.value
  have M0 : Mod (· = Y) W3 W3 := Mod.refl _ _
  go_upto_if 38 with (first | ((with_reducible (refine Veil.out ?_; apply wl_loadC onet5e)); (case hw => rfl); (case hx => rfl); (case hc => exact (b3.cell (i := 0) (by decide)).trans (congrArg some hk0))))
  go_upto_region 6 with (fail)
  refine w_ext ?_
  rintro W0 hW0
  refine wp_region_held_drew (S := fun w' => Mod (fun x => x = Y) W0 w') (by kernel_rfl) (Mod.refl _ _).drew (fun hHeld => ?_)
  have HH : Hid (Mod (fun x => x = Y) W0 _) := hHeld
  clear hHeld
  refine wpAnyH_take (i := 0) (v := ?_) rfl (by kernel_rfl) (by kernel_rfl) (by kernel_rfl) (fun _ _ _ h => h) (Or.inl ⟨by rfl, ?_⟩) HH.out ?_
  rotate_left
  · intro w hSw; go_simp; try with_reducible rfl
  change wpAnyH _ _ _ _ _ _ _ (Act.put _ (some 39) _) _
  simp only [Act.put, List.setIfInBounds_toArray, List.set_cons_zero, List.set_cons_succ]
  refine wpAnyH_take (i := 1) (v := ?_) rfl (by kernel_rfl) (by kernel_rfl) (by kernel_rfl) (fun _ _ _ h => h) (Or.inl ⟨by rfl, ?_⟩) HH.out ?_
  rotate_left
  · intro w hSw; go_simp; try with_reducible rfl
  change wpAnyH _ _ _ _ _ _ _ (Act.put _ (some 40) _) _
  simp only [Act.put, List.setIfInBounds_toArray, List.set_cons_zero, List.set_cons_succ]
  refine wpAnyH_take (i := 2) (v := ?_) rfl (by kernel_rfl) (by kernel_rfl) (by kernel_rfl) (fun _ _ _ h => h) (Or.inl ⟨by rfl, ?_⟩) HH.out ?_
  rotate_left
  · intro w hSw; go_simp; try with_reducible rfl
  change wpAnyH _ _ _ _ _ _ _ (Act.put _ (some 41) _) _
  simp only [Act.put, List.setIfInBounds_toArray, List.set_cons_zero, List.set_cons_succ]
  refine wpAnyH_take (i := 3) (v := ?_) rfl (by kernel_rfl) (by kernel_rfl) (by kernel_rfl) (fun _ _ _ h => h) (Or.inl ⟨by rfl, ?_⟩) HH.out ?_
  rotate_left
  · intro w hSw; go_simp; try with_reducible rfl
  change wpAnyH _ _ _ _ _ _ _ (Act.put _ (some 42) _) _
  simp only [Act.put, List.setIfInBounds_toArray, List.set_cons_zero, List.set_cons_succ]
  refine wpAnyH_take (i := 4) rfl (by kernel_rfl) (by kernel_rfl) (by kernel_rfl) (fun _ _ _ h => h) (yields_A (by rfl) rfl rfl (fun w hSw => (b3.ext hW0).mod hSw hBY) hcall hok.caller (by decide)) HH.out ?_
  change wpAnyH _ _ _ _ _ _ _ (Act.put _ (some 43) _) _
  simp only [Act.put, List.setIfInBounds_toArray, List.set_cons_zero, List.set_cons_succ]
  refine wpAnyH_take (i := 5) (v := ?_) rfl (by kernel_rfl) (by kernel_rfl) (by kernel_rfl) (fun _ _ _ h => h) (Or.inl ⟨by rfl, ?_⟩) HH.out ?_
  rotate_left
  · intro w hSw; go_simp; try with_reducible rfl
  change wpAnyH _ _ _ _ _ _ _ (Act.put _ (some 44) _) _
  simp only [Act.put, List.setIfInBounds_toArray, List.set_cons_zero, List.set_cons_succ]
  refine wpAnyH_take (i := 6) rfl (by kernel_rfl) (by kernel_rfl) (by kernel_rfl) (fun _ _ _ h => h) (yields_A (by rfl) rfl rfl (fun w hSw => (b3.ext hW0).mod hSw hBY) hself hok.self (by decide)) HH.out ?_
  change wpAnyH _ _ _ _ _ _ _ (Act.put _ (some 45) _) _
  simp only [Act.put, List.setIfInBounds_toArray, List.set_cons_zero, List.set_cons_succ]
  refine wpAnyH_take (i := 7) (v := ?_) rfl (by kernel_rfl) (by kernel_rfl) (by kernel_rfl) (fun _ _ _ h => h) (Or.inl ⟨by rfl, ?_⟩) HH.out ?_
  rotate_left
  · intro w hSw; go_simp; try with_reducible rfl
  change wpAnyH _ _ _ _ _ _ _ (Act.put _ (some 46) _) _
  simp only [Act.put, List.setIfInBounds_toArray, List.set_cons_zero, List.set_cons_succ]
  refine wpAnyH_take (i := 8) rfl (by kernel_rfl) (by kernel_rfl) (by kernel_rfl) (fun _ _ _ h => h) (yieldsIf_load1 (by rfl) _ _ rfl _ _ rfl onet96e _ (fun w hSw => ((b3.ext hW0).mod hSw hBY).cell (i := 5) (by decide))) HH.out ?_
  change wpAnyH _ _ _ _ _ _ _ (Act.put _ (some 47) _) _
  simp only [Act.put, List.setIfInBounds_toArray, List.set_cons_zero, List.set_cons_succ]
  refine wpAnyH_ready (rs := [9]) (by kernel_rfl) (by simp) ?_
  refine AllReadyH.cons rfl (fun K hK => ?_) AllReadyH.nil
  go_simp
  go_at_call 142; refine (zMove (h3.ext (by (repeat (first | with_reducible exact Ext.refl _ | with_reducible assumption | refine Ext.trans ?_ (by with_reducible assumption) | refine Ext.alloc ?_ _ _ | refine Ext.drew ?_ | refine Ext.drewN ?_ _)))) f.caller f.self hok.caller hok.self (dB 5) f.value (((hval.keep M0 hsY)).ext (by (repeat (first | with_reducible exact Ext.refl _ | with_reducible assumption | refine Ext.trans ?_ (by with_reducible assumption) | refine Ext.alloc ?_ _ _ | refine Ext.drew ?_ | refine Ext.drewN ?_ _)))) hok.value hl3 hl4).mono ?_; rintro e w8 ⟨c8, rfl, h8, hmY⟩
  refine hK.out _ _ ?_ (fun hHeld => ?_)
  · first | exact HH.out.trans hmY | exact HH.out.trans_ext he | exact HH.out
  clear hK K HH
  have HH : Hid (Mod (fun x => x = Y) W0 _) := hHeld
  clear hHeld
  refine wpAnyH_done (by kernel_rfl) ?_ _
  have M8 : Mod (· = Y) W3 w8 := (M0.trans_ext hW0).trans HH.out
  clear HH hW0
  go_upto_region 8 with ((with_reducible (refine Veil.out ?_; apply wl_storeC onet32e)); (case hx => rfl); (case hy => rfl); (case h1 => rfl); (case hB => exact h8.bY); (case hi => decide); rintro W9 b9 m9)
  have h9 := h8.putRet m9 (l := []) NL.nil b9
  have M9 : Mod (· = Y) W3 W9 := M8.trans m9
  have bb9 := b3.mod M9 hBY
  have hfr9 := hfr.keep M9 hsY (fun b hb => absurd hb id)
  obtain ⟨z, hz1, hz2⟩ := z147e
  refine w_ext ?_
  rintro W0 hW0
  refine wp_region_held_drew (S := fun w' => Mod (fun x => x = Y ∨ x = F) W0 w') (by kernel_rfl) (Mod.refl _ _).drew (fun hHeld => ?_)
  have HH : Hid (Mod (fun x => x = Y ∨ x = F) W0 _) := hHeld
  clear hHeld
  refine wpAnyH_take (i := 0) (v := ?_) rfl (by kernel_rfl) (by kernel_rfl) (by kernel_rfl) (fun _ _ _ h => h) (Or.inl ⟨by rfl, ?_⟩) HH.out ?_
  rotate_left
  · intro w hSw; go_simp; try with_reducible rfl
  change wpAnyH _ _ _ _ _ _ _ (Act.put _ (some 52) _) _
  simp only [Act.put, List.setIfInBounds_toArray, List.set_cons_zero, List.set_cons_succ]
  refine wpAnyH_take (i := 1) (v := ?_) rfl (by kernel_rfl) (by kernel_rfl) (by kernel_rfl) (fun _ _ _ h => h) (Or.inl ⟨by rfl, ?_⟩) HH.out ?_
  rotate_left
  · intro w hSw; go_simp; try with_reducible rfl
  change wpAnyH _ _ _ _ _ _ _ (Act.put _ (some 53) _) _
  simp only [Act.put, List.setIfInBounds_toArray, List.set_cons_zero, List.set_cons_succ]
  refine wpAnyH_take (i := 2) (v := ?_) rfl (by kernel_rfl) (by kernel_rfl) (by kernel_rfl) (fun _ _ _ h => h) (Or.inl ⟨by rfl, ?_⟩) HH.out ?_
  rotate_left
  · intro w hSw; go_simp; try with_reducible rfl
  change wpAnyH _ _ _ _ _ _ _ (Act.put _ (some 54) _) _
  simp only [Act.put, List.setIfInBounds_toArray, List.set_cons_zero, List.set_cons_succ]
  refine wpAnyH_take (i := 3) (v := ?_) rfl (by kernel_rfl) (by kernel_rfl) (by kernel_rfl) (fun _ _ _ h => h) (Or.inl ⟨by rfl, ?_⟩) HH.out ?_
  rotate_left
  · intro w hSw; go_simp; try with_reducible rfl
  change wpAnyH _ _ _ _ _ _ _ (Act.put _ (some 55) _) _
  simp only [Act.put, List.setIfInBounds_toArray, List.set_cons_zero, List.set_cons_succ]
  refine wpAnyH_take (i := 5) rfl (by kernel_rfl) (by kernel_rfl) (by kernel_rfl) (fun _ _ _ h => h) (yieldsRow rt147e (by rfl) rfl rfl (fun w hSw => (bb9.ext hW0).mod hSw (fun q => q.elim hBY hBF)) (by decide)) HH.out ?_
  change wpAnyH _ _ _ _ _ _ _ (Act.put _ (some 57) _) _
  simp only [Act.put, List.setIfInBounds_toArray, List.set_cons_zero, List.set_cons_succ]
  refine wpAnyH_ready (rs := [4, 6]) (by kernel_rfl) (by simp) ?_
  refine (AllReadyH.cons rfl (fun K hK => ?_) (AllReadyH.cons rfl (fun K hK => ?_) AllReadyH.nil))
  refine step_any rfl (op_loadK rfl onet101e rfl ((h9.bY.ext (by (repeat (first | with_reducible exact Ext.refl _ | with_reducible assumption | refine Ext.trans ?_ (by with_reducible assumption) | refine Ext.alloc ?_ _ _ | refine Ext.drew ?_ | refine Ext.drewN ?_ _)))).cell (i := 9) (by decide)) ?_)
  refine hK.out _ _ HH.out (fun hHeld => ?_)
  clear hK K HH
  have HH : Hid (Mod (fun x => x = Y ∨ x = F) W0 _) := hHeld
  clear hHeld
  change wpAnyH _ _ _ _ _ _ _ (Act.put _ (some 56) _) _
  simp only [Act.put, List.setIfInBounds_toArray, List.set_cons_zero, List.set_cons_succ]
  refine wpAnyH_ready (rs := [6]) (by kernel_rfl) (by simp) ?_
  refine AllReadyH.cons rfl (fun K hK => ?_) AllReadyH.nil
  refine step_any rfl (op_build1 156 Hvah.t156 z 60 rfl under101e info147e hz1 size147e hz2 (by decide) (by decide) (rowOf dB 0 60) (rowOf_size _ _ _) rfl ?_)
  rintro B9 W10 e10 r10 g10
  refine hK.out _ _ ?_ (fun hHeld => ?_)
  · exact HH.out.trans_ext e10
  clear hK K HH
  have HH : Hid (Mod (fun x => x = Y ∨ x = F) W0 _) := hHeld
  clear hHeld
  change wpAnyH _ _ _ _ _ _ _ (Act.put _ (some 58) _) _
  simp only [Act.put, List.setIfInBounds_toArray, List.set_cons_zero, List.set_cons_succ]
  refine wpAnyH_ready (rs := [7]) (by kernel_rfl) (by simp) ?_
  refine AllReadyH.cons rfl (fun K hK => ?_) AllReadyH.nil
  have h10 := h9.ext (show Ext W9 W10 by (repeat (first | with_reducible exact Ext.refl _ | with_reducible assumption | refine Ext.trans ?_ (by with_reducible assumption) | refine Ext.alloc ?_ _ _ | refine Ext.drew ?_ | refine Ext.drewN ?_ _)))
  refine step_appendV rfl _ _ 114 rfl 156 Hvah.t156 z 60 under101e info147e hz1 size147e hz2 bytes147e _ L.length F n d h10.fv (by omega) ⟨B9, 0, none⟩ 1 (rowOf dB 0 60).toList (by simp [rowOf_size]) r10 (fun u hu => hone60 u (by simpa using hu)) rfl rfl ?_
  rintro v' W11 b' d' hG
  have bY11 := grown_blk hG h10.bY h.ne
  have m11 : Mod (fun b => b = Y ∨ b = F) W10 W11 := by
    rcases hG.how with ⟨_, _, m⟩ | ⟨_, e⟩
    · exact m.sub (fun _ q => Or.inr q)
    · exact e.mod _
  refine hK.out _ _ ?_ (fun hHeld => ?_)
  · exact HH.out.trans m11
  clear hK K HH
  have HH : Hid (Mod (fun x => x = Y ∨ x = F) W0 _) := hHeld
  clear hHeld
  change wpAnyH _ _ _ _ _ _ _ (Act.put _ (some 59) _) _
  simp only [Act.put, List.setIfInBounds_toArray, List.set_cons_zero, List.set_cons_succ]
  refine wpAnyH_take (i := 8) (v := ?_) rfl (by kernel_rfl) (by kernel_rfl) (by kernel_rfl) (fun _ _ _ h => h) (Or.inl ⟨by rfl, ?_⟩) HH.out ?_
  rotate_left
  · intro w hSw; go_simp; try with_reducible rfl
  change wpAnyH _ _ _ _ _ _ _ (Act.put _ (some 60) _) _
  simp only [Act.put, List.setIfInBounds_toArray, List.set_cons_zero, List.set_cons_succ]
  refine wpAnyH_take (i := 9) (v := ?_) rfl (by kernel_rfl) (by kernel_rfl) (by kernel_rfl) (fun _ _ _ h => h) (Or.inl ⟨by rfl, ?_⟩) HH.out ?_
  rotate_left
  · intro w hSw; go_simp; try with_reducible rfl
  change wpAnyH _ _ _ _ _ _ _ (Act.put _ (some 61) _) _
  simp only [Act.put, List.setIfInBounds_toArray, List.set_cons_zero, List.set_cons_succ]
  refine wpAnyH_ready (rs := [10]) (by kernel_rfl) (by simp) ?_
  refine AllReadyH.cons rfl (fun K hK => ?_) AllReadyH.nil
  refine step_any rfl (op_store1 rfl onet101e rfl rfl (by obtain ⟨_, q⟩ := hG.some; rw [q]; rfl) bY11 (by decide) ?_)
  rintro W12 b12 m12
  refine hK.out _ _ ?_ (fun hHeld => ?_)
  · exact HH.out.trans (m12.sub (fun _ q => Or.inl q))
  clear hK K HH
  have HH : Hid (Mod (fun x => x = Y ∨ x = F) W0 _) := hHeld
  clear hHeld
  change wpAnyH _ _ _ _ _ _ _ (Act.put _ none _) _
  simp only [Act.put, List.setIfInBounds_toArray, List.set_cons_zero, List.set_cons_succ]
  refine wpAnyH_done (by kernel_rfl) ?_ _
  · obtain ⟨O', n', hZ, hOO, hM⟩ := h10.push (x := ⟨{ f with saved := st.now }, W, fun _ => False⟩) hG m12 b12 hfew (fun q => (hfr9.ext (show Ext W9 W10 by (repeat (first | with_reducible exact Ext.refl _ | with_reducible assumption | refine Ext.trans ?_ (by with_reducible assumption) | refine Ext.alloc ?_ _ _ | refine Ext.drew ?_ | refine Ext.drewN ?_ _)))).same (fun j hj => by rw [Nat.zero_add]; exact q j (dB j) (by rw [Array.getElem?_toList, rowOf_get, if_pos hj, Nat.zero_add]))) (fun b hb => hb)
    have hEnd : YEnt O TL w W12 Y F (W.move f.caller f.self f.value) start (st.enter f) tot (⟨{ f with saved := st.now }, W, fun _ => False⟩ :: L) := by
      have he : st.enter f = { st with now := (st.now.move f.caller f.self f.value), ret := [], frames := { f with saved := st.now } :: st.frames } := by simp [ASt.enter, hk, createsA]
      have hsz10 : w.heap.size ≤ W10.heap.size := Nat.le_trans E3.size (Nat.le_trans M9.size (Ext.size (show Ext W9 W10 by (repeat (first | with_reducible exact Ext.refl _ | with_reducible assumption | refine Ext.trans ?_ (by with_reducible assumption) | refine Ext.alloc ?_ _ _ | refine Ext.drew ?_ | refine Ext.drewN ?_ _)))))
      have hMM : Mod (fun b => b = Y ∨ b = F) w W12 := ((((E3.mod _).trans (M9.sub (fun _ q => Or.inl q))).trans_ext (show Ext W9 W10 by (repeat (first | with_reducible exact Ext.refl _ | with_reducible assumption | refine Ext.trans ?_ (by with_reducible assumption) | refine Ext.alloc ?_ _ _ | refine Ext.drew ?_ | refine Ext.drewN ?_ _))))).trans hM
      have hOO2 : ∀ b, b < w.heap.size → (O' b ↔ O b) := fun b hb => (hOO b (Nat.lt_of_lt_of_le hb hsz10)).trans ⟨fun q => q.elim id (fun q => by omega), Or.inl⟩
      rw [he]
      exact ⟨O', b', n', _, d', hZ, hOO2, hMM⟩
    clear hk
    go_wp2
    go_end0
    exact ⟨rfl, hEnd⟩
  refine step_any rfl (op_build1 156 Hvah.t156 z 60 rfl under101e info147e hz1 size147e hz2 (by decide) (by decide) (rowOf dB 0 60) (rowOf_size _ _ _) rfl ?_)
  rintro B9 W10 e10 r10 g10
  refine hK.out _ _ ?_ (fun hHeld => ?_)
  · exact HH.out.trans_ext e10
  clear hK K HH
  have HH : Hid (Mod (fun x => x = Y ∨ x = F) W0 _) := hHeld
  clear hHeld
  change wpAnyH _ _ _ _ _ _ _ (Act.put _ (some 58) _) _
  simp only [Act.put, List.setIfInBounds_toArray, List.set_cons_zero, List.set_cons_succ]
  refine wpAnyH_ready (rs := [4]) (by kernel_rfl) (by simp) ?_
  refine AllReadyH.cons rfl (fun K hK => ?_) AllReadyH.nil
  refine step_any rfl (op_loadK rfl onet101e rfl ((h9.bY.ext (by (repeat (first | with_reducible exact Ext.refl _ | with_reducible assumption | refine Ext.trans ?_ (by with_reducible assumption) | refine Ext.alloc ?_ _ _ | refine Ext.drew ?_ | refine Ext.drewN ?_ _)))).cell (i := 9) (by decide)) ?_)
  refine hK.out _ _ HH.out (fun hHeld => ?_)
  clear hK K HH
  have HH : Hid (Mod (fun x => x = Y ∨ x = F) W0 _) := hHeld
  clear hHeld
  change wpAnyH _ _ _ _ _ _ _ (Act.put _ (some 56) _) _
  simp only [Act.put, List.setIfInBounds_toArray, List.set_cons_zero, List.set_cons_succ]
  refine wpAnyH_ready (rs := [7]) (by kernel_rfl) (by simp) ?_
  refine AllReadyH.cons rfl (fun K hK => ?_) AllReadyH.nil
  have h10 := h9.ext (show Ext W9 W10 by (repeat (first | with_reducible exact Ext.refl _ | with_reducible assumption | refine Ext.trans ?_ (by with_reducible assumption) | refine Ext.alloc ?_ _ _ | refine Ext.drew ?_ | refine Ext.drewN ?_ _)))
  refine step_appendV rfl _ _ 114 rfl 156 Hvah.t156 z 60 under101e info147e hz1 size147e hz2 bytes147e _ L.length F n d h10.fv (by omega) ⟨B9, 0, none⟩ 1 (rowOf dB 0 60).toList (by simp [rowOf_size]) r10 (fun u hu => hone60 u (by simpa using hu)) rfl rfl ?_
  rintro v' W11 b' d' hG
  have bY11 := grown_blk hG h10.bY h.ne
  have m11 : Mod (fun b => b = Y ∨ b = F) W10 W11 := by
    rcases hG.how with ⟨_, _, m⟩ | ⟨_, e⟩
    · exact m.sub (fun _ q => Or.inr q)
    · exact e.mod _
  refine hK.out _ _ ?_ (fun hHeld => ?_)
  · exact HH.out.trans m11
  clear hK K HH
  have HH : Hid (Mod (fun x => x = Y ∨ x = F) W0 _) := hHeld
  clear hHeld
  change wpAnyH _ _ _ _ _ _ _ (Act.put _ (some 59) _) _
  simp only [Act.put, List.setIfInBounds_toArray, List.set_cons_zero, List.set_cons_succ]
  refine wpAnyH_take (i := 8) (v := ?_) rfl (by kernel_rfl) (by kernel_rfl) (by kernel_rfl) (fun _ _ _ h => h) (Or.inl ⟨by rfl, ?_⟩) HH.out ?_
  rotate_left
  · intro w hSw; go_simp; try with_reducible rfl
  change wpAnyH _ _ _ _ _ _ _ (Act.put _ (some 60) _) _
  simp only [Act.put, List.setIfInBounds_toArray, List.set_cons_zero, List.set_cons_succ]
  refine wpAnyH_take (i := 9) (v := ?_) rfl (by kernel_rfl) (by kernel_rfl) (by kernel_rfl) (fun _ _ _ h => h) (Or.inl ⟨by rfl, ?_⟩) HH.out ?_
  rotate_left
  · intro w hSw; go_simp; try with_reducible rfl
  change wpAnyH _ _ _ _ _ _ _ (Act.put _ (some 61) _) _
  simp only [Act.put, List.setIfInBounds_toArray, List.set_cons_zero, List.set_cons_succ]
  refine wpAnyH_ready (rs := [10]) (by kernel_rfl) (by simp) ?_
  refine AllReadyH.cons rfl (fun K hK => ?_) AllReadyH.nil
  refine step_any rfl (op_store1 rfl onet101e rfl rfl (by obtain ⟨_, q⟩ := hG.some; rw [q]; rfl) bY11 (by decide) ?_)
  rintro W12 b12 m12
  refine hK.out _ _ ?_ (fun hHeld => ?_)
  · exact HH.out.trans (m12.sub (fun _ q => Or.inl q))
  clear hK K HH
  have HH : Hid (Mod (fun x => x = Y ∨ x = F) W0 _) := hHeld
  clear hHeld
  change wpAnyH _ _ _ _ _ _ _ (Act.put _ none _) _
  simp only [Act.put, List.setIfInBounds_toArray, List.set_cons_zero, List.set_cons_succ]
  refine wpAnyH_done (by kernel_rfl) ?_ _
  · obtain ⟨O', n', hZ, hOO, hM⟩ := h10.push (x := ⟨{ f with saved := st.now }, W, fun _ => False⟩) hG m12 b12 hfew (fun q => (hfr9.ext (show Ext W9 W10 by (repeat (first | with_reducible exact Ext.refl _ | with_reducible assumption | refine Ext.trans ?_ (by with_reducible assumption) | refine Ext.alloc ?_ _ _ | refine Ext.drew ?_ | refine Ext.drewN ?_ _)))).same (fun j hj => by rw [Nat.zero_add]; exact q j (dB j) (by rw [Array.getElem?_toList, rowOf_get, if_pos hj, Nat.zero_add]))) (fun b hb => hb)
    have hEnd : YEnt O TL w W12 Y F (W.move f.caller f.self f.value) start (st.enter f) tot (⟨{ f with saved := st.now }, W, fun _ => False⟩ :: L) := by
      have he : st.enter f = { st with now := (st.now.move f.caller f.self f.value), ret := [], frames := { f with saved := st.now } :: st.frames } := by simp [ASt.enter, hk, createsA]
      have hsz10 : w.heap.size ≤ W10.heap.size := Nat.le_trans E3.size (Nat.le_trans M9.size (Ext.size (show Ext W9 W10 by (repeat (first | with_reducible exact Ext.refl _ | with_reducible assumption | refine Ext.trans ?_ (by with_reducible assumption) | refine Ext.alloc ?_ _ _ | refine Ext.drew ?_ | refine Ext.drewN ?_ _)))))
      have hMM : Mod (fun b => b = Y ∨ b = F) w W12 := ((((E3.mod _).trans (M9.sub (fun _ q => Or.inl q))).trans_ext (show Ext W9 W10 by (repeat (first | with_reducible exact Ext.refl _ | with_reducible assumption | refine Ext.trans ?_ (by with_reducible assumption) | refine Ext.alloc ?_ _ _ | refine Ext.drew ?_ | refine Ext.drewN ?_ _))))).trans hM
      have hOO2 : ∀ b, b < w.heap.size → (O' b ↔ O b) := fun b hb => (hOO b (Nat.lt_of_lt_of_le hb hsz10)).trans ⟨fun q => q.elim id (fun q => by omega), Or.inl⟩
      rw [he]
      exact ⟨O', b', n', _, d', hZ, hOO2, hMM⟩
    clear hk
    go_wp2
    go_end0
    exact ⟨rfl, hEnd⟩
set_option maxRecDepth 100000 in
set_option maxHeartbeats 6400000 in
theorem zEnter1 (HLG : ∀ {O T : Nat → Prop} {w : World} {v : Value} {l : List ALog}, Small O w → LogL T O w v l → l.length ≤ 100000 → Calls Hvah.prog 80 #[v] w fun e w' => ∃ r, e = .returned r ∧ GRow 141 22 (LgC O w') (fun b => ¬ O b) w' r l ∧ Full r ∧ Ext w w') (h : YZ O TL w Y F n c d W start st tot L) (fr : Array Value) (hsz : fr.size = 60) (hones : Ones fr) (f : AFrame) (hk : f.kind = 1) (hf : YFC O (fun _ => False) w (cf fr) 0 f) (hok : FOK f) (hsl : ∀ x ∈ W.accts, x.slots.length ≤ 90000) (hfew : L.length < 7) (hl1 : YLim (W.setNonce f.self 1)) (hl2 : YLim ((W.setNonce f.self 1).markMade f.self)) (hl3 : YLim (((W.setNonce f.self 1).markMade f.self).setBal f.caller ((((W.setNonce f.self 1).markMade f.self).acct f.caller).bal - f.value))) (hl4 : YLim (((W.setNonce f.self 1).markMade f.self).move f.caller f.self f.value)) :
    Calls Hvah.prog 65 #[.pointer (some ⟨Y, 0, none⟩), .agg fr] w fun e w' => e = .returned (.tuple #[]) ∧ YEnt O TL w w' Y F (((W.setNonce f.self 1).markMade f.self).move f.caller f.self f.value) start (st.enter f) tot (⟨{ f with saved := st.now }, W, fun _ => False⟩ :: L) := by
  have hYl : Y < w.heap.size := h.bY.lt
  have hFl : F < w.heap.size := h.small F h.oF
  go_enter Hvah.func65, Hvah.ntmps65
  go_upto_region 1 with ((with_reducible (refine Veil.out ?_; apply wl_boxB)); (case hx => rfl); (case hn => exact hsz); rintro B W1 e1 b1 g1)
  have hBY : ¬ B = Y := by omega
  have hBF : ¬ B = F := by omega
  have h1 := h.wd e1 b1.lt g1
  obtain ⟨T, hT⟩ : ∃ T, LogL T (Wd O B) W1 (c 4) W.logs := h1.lg.elim (fun k => ⟨_, k⟩) (fun k => ⟨_, k.1⟩)
  have HC := fun W2 (q : Ext W1 W2) => yClone (w := W2) HLG (h1.ext q).small (h1.ext q).bY (h1.ext q).wc (GRow.ext hT q (fun _ _ _ k => k.ext q)) h1.lim hsl
  go_upto_region 2 with (first | (go_at_call 140; refine (HC _ (by (repeat (first | with_reducible exact Ext.refl _ | with_reducible assumption | refine Ext.trans ?_ (by with_reducible assumption) | refine Ext.alloc ?_ _ _ | refine Ext.drew ?_ | refine Ext.drewN ?_ _)))).mono ?_; rintro e w2 ⟨r, rfl, hr8, hro, hrw, hrl, hrf, e2⟩) | ((with_reducible (refine Veil.out ?_; apply wl_storeRow rt99e)); (case hx => rfl); (case hy => rfl); (case hr => exact hr8); (case h1 => exact hro); (case hB => exact b1.ext e2); (case hi => decide); rintro W3 b3 m3))
  have hfr := ye_frame h hf hok g1 e1 e2 m3 hr8 hrw hrl hrf
  have h3 : YZ (Wd O B) TL W3 Y F n c d W start st tot L := (h1.ext e2).keepS m3 (fun b hb q => hb (Or.inr q)) (fun q => hBY q.symm) (fun q => hBF q.symm) (fun x hx b hb q => by have := h.small b (h.tm x hx b hb).1; omega) (fun b hb q => by have := h.small b (h.tl b hb).1; omega)
  have M3 : Mod (· = B) w W3 := ((e1.trans e2).mod _).trans m3
  obtain ⟨dB, hdB⟩ : ∃ dB, dB = layv (cf fr) 52 r := ⟨_, rfl⟩
  rw [← hdB] at hfr b3
  have hone60 : Ones (rowOf dB 0 60) := ones_of (fun q hq => by
    rw [rowOf_size] at hq
    rw [cf_rowOf _ _ _ hq, Nat.zero_add, hdB]
    rcases Nat.lt_or_ge q 52 with k | k
    · rw [layv_out _ _ _ (Or.inl k)]; exact Ones.get hones (by omega)
    · have k2 := layv_in (cf fr) 52 r (j := q - 52) (by omega)
      rw [show 52 + (q - 52) = q by omega] at k2
      rw [k2]; exact Ones.get hro (by omega))
  have E3 : Ext w W3 := Ext.trans_mod (e1.trans e2) m3 (fun q hq => by have hq2 : q = B := hq; rw [hq2]; exact g1)
  have hk0 : dB 0 = .int .u8 1 := by have := hfr.fc.kind; simp only [hk] at this; exact this
  have hself : AAt dB 12 f.self := by have := hfr.fc.self; rwa [Nat.zero_add] at this
  have hcall : AAt dB 32 f.caller := by have := hfr.fc.caller; rwa [Nat.zero_add] at this
  have hsY : ∀ b, ¬ Wd O B b → ¬ b = Y := fun b hb q => hb (q ▸ h3.oY)
  clear HC hT hrw hrl hrf hf h1 hdB hones hro m3 b1
  go_upto_if 11 with (first | ((with_reducible (refine Veil.out ?_; apply wl_loadC onet5e)); (case hw => rfl); (case hx => rfl); (case hc => exact (b3.cell (i := 0) (by decide)).trans (congrArg some hk0))) | (go_at_call 141; refine (yCreates 1 (by decide)).mono ?_; rintro e w4 ⟨rfl, e4⟩; have e5 := e4.symm; subst e5))
  have hval : NV (Wd O B) W3 (dB 5) f.value := hfr.fc.value
  have M0 : Mod (· = Y) W3 W3 := Mod.refl _ _
  go_upto_region 3 with (fail)
  refine w_ext ?_
  rintro W0 hW0
  refine wp_region_held_drew (S := fun w' => Mod (fun x => x = Y) W0 w') (by kernel_rfl) (Mod.refl _ _).drew (fun hHeld => ?_)
  have HH : Hid (Mod (fun x => x = Y) W0 _) := hHeld
  clear hHeld
  refine wpAnyH_take (i := 0) (v := ?_) rfl (by kernel_rfl) (by kernel_rfl) (by kernel_rfl) (fun _ _ _ h => h) (Or.inl ⟨by rfl, ?_⟩) HH.out ?_
  rotate_left
  · intro w hSw; go_simp; try with_reducible rfl
  change wpAnyH _ _ _ _ _ _ _ (Act.put _ (some 12) _) _
  simp only [Act.put, List.setIfInBounds_toArray, List.set_cons_zero, List.set_cons_succ]
  refine wpAnyH_take (i := 1) (v := ?_) rfl (by kernel_rfl) (by kernel_rfl) (by kernel_rfl) (fun _ _ _ h => h) (Or.inl ⟨by rfl, ?_⟩) HH.out ?_
  rotate_left
  · intro w hSw; go_simp; try with_reducible rfl
  change wpAnyH _ _ _ _ _ _ _ (Act.put _ (some 13) _) _
  simp only [Act.put, List.setIfInBounds_toArray, List.set_cons_zero, List.set_cons_succ]
  refine wpAnyH_take (i := 2) (v := ?_) rfl (by kernel_rfl) (by kernel_rfl) (by kernel_rfl) (fun _ _ _ h => h) (Or.inl ⟨by rfl, ?_⟩) HH.out ?_
  rotate_left
  · intro w hSw; go_simp; try with_reducible rfl
  change wpAnyH _ _ _ _ _ _ _ (Act.put _ (some 14) _) _
  simp only [Act.put, List.setIfInBounds_toArray, List.set_cons_zero, List.set_cons_succ]
  refine wpAnyH_take (i := 3) (v := ?_) rfl (by kernel_rfl) (by kernel_rfl) (by kernel_rfl) (fun _ _ _ h => h) (Or.inl ⟨by rfl, ?_⟩) HH.out ?_
  rotate_left
  · intro w hSw; go_simp; try with_reducible rfl
  change wpAnyH _ _ _ _ _ _ _ (Act.put _ (some 15) _) _
  simp only [Act.put, List.setIfInBounds_toArray, List.set_cons_zero, List.set_cons_succ]
  refine wpAnyH_take (i := 4) rfl (by kernel_rfl) (by kernel_rfl) (by kernel_rfl) (fun _ _ _ h => h) (yields_A (by rfl) rfl rfl (fun w hSw => (b3.ext hW0).mod hSw hBY) hself hok.self (by decide)) HH.out ?_
  change wpAnyH _ _ _ _ _ _ _ (Act.put _ (some 16) _) _
  simp only [Act.put, List.setIfInBounds_toArray, List.set_cons_zero, List.set_cons_succ]
  refine wpAnyH_ready (rs := [5]) (by kernel_rfl) (by simp) ?_
  refine AllReadyH.cons rfl (fun K hK => ?_) AllReadyH.nil
  go_simp
  go_at_call 42; refine (nNum (Wd O B) 1 _ (h3.ext (by (repeat (first | with_reducible exact Ext.refl _ | with_reducible assumption | refine Ext.trans ?_ (by with_reducible assumption) | refine Ext.alloc ?_ _ _ | refine Ext.drew ?_ | refine Ext.drewN ?_ _)))).small (by decide)).mono ?_; rintro e w4 ⟨one, rfl, hone, he⟩
  refine hK.out _ _ ?_ (fun hHeld => ?_)
  · first | exact HH.out.trans hmY | exact HH.out.trans_ext he | exact HH.out
  clear hK K HH
  have HH : Hid (Mod (fun x => x = Y) W0 _) := hHeld
  clear hHeld
  refine wpAnyH_ready (rs := [6]) (by kernel_rfl) (by simp) ?_
  refine AllReadyH.cons rfl (fun K hK => ?_) AllReadyH.nil
  go_simp
  go_at_call 58; refine (zSetNonce (h3.ext (by (repeat (first | with_reducible exact Ext.refl _ | with_reducible assumption | refine Ext.trans ?_ (by with_reducible assumption) | refine Ext.alloc ?_ _ _ | refine Ext.drew ?_ | refine Ext.drewN ?_ _)))) f.self hok.self one 1 (hone.ext (by (repeat (first | with_reducible exact Ext.refl _ | with_reducible assumption | refine Ext.trans ?_ (by with_reducible assumption) | refine Ext.alloc ?_ _ _ | refine Ext.drew ?_ | refine Ext.drewN ?_ _)))) hl1).mono ?_; rintro e w5 ⟨c5, rfl, h5, hmY⟩
  refine hK.out _ _ ?_ (fun hHeld => ?_)
  · first | exact HH.out.trans hmY | exact HH.out.trans_ext he | exact HH.out
  clear hK K HH
  have HH : Hid (Mod (fun x => x = Y) W0 _) := hHeld
  clear hHeld
  refine wpAnyH_done (by kernel_rfl) ?_ _
  have M5 : Mod (· = Y) W3 w5 := ((Mod.refl _ W3).trans_ext hW0).trans HH.out
  have b5 := b3.mod M5 hBY
  clear HH hW0 hone he
  go_upto_region 4 with (fail)
  refine w_ext ?_
  rintro W0 hW0
  refine wp_region_held_drew (S := fun w' => Mod (fun x => x = Y) W0 w') (by kernel_rfl) (Mod.refl _ _).drew (fun hHeld => ?_)
  have HH : Hid (Mod (fun x => x = Y) W0 _) := hHeld
  clear hHeld
  refine wpAnyH_take (i := 0) (v := ?_) rfl (by kernel_rfl) (by kernel_rfl) (by kernel_rfl) (fun _ _ _ h => h) (Or.inl ⟨by rfl, ?_⟩) HH.out ?_
  rotate_left
  · intro w hSw; go_simp; try with_reducible rfl
  change wpAnyH _ _ _ _ _ _ _ (Act.put _ (some 19) _) _
  simp only [Act.put, List.setIfInBounds_toArray, List.set_cons_zero, List.set_cons_succ]
  refine wpAnyH_take (i := 1) (v := ?_) rfl (by kernel_rfl) (by kernel_rfl) (by kernel_rfl) (fun _ _ _ h => h) (Or.inl ⟨by rfl, ?_⟩) HH.out ?_
  rotate_left
  · intro w hSw; go_simp; try with_reducible rfl
  change wpAnyH _ _ _ _ _ _ _ (Act.put _ (some 20) _) _
  simp only [Act.put, List.setIfInBounds_toArray, List.set_cons_zero, List.set_cons_succ]
  refine wpAnyH_take (i := 2) (v := ?_) rfl (by kernel_rfl) (by kernel_rfl) (by kernel_rfl) (fun _ _ _ h => h) (Or.inl ⟨by rfl, ?_⟩) HH.out ?_
  rotate_left
  · intro w hSw; go_simp; try with_reducible rfl
  change wpAnyH _ _ _ _ _ _ _ (Act.put _ (some 21) _) _
  simp only [Act.put, List.setIfInBounds_toArray, List.set_cons_zero, List.set_cons_succ]
  refine wpAnyH_take (i := 3) (v := ?_) rfl (by kernel_rfl) (by kernel_rfl) (by kernel_rfl) (fun _ _ _ h => h) (Or.inl ⟨by rfl, ?_⟩) HH.out ?_
  rotate_left
  · intro w hSw; go_simp; try with_reducible rfl
  change wpAnyH _ _ _ _ _ _ _ (Act.put _ (some 22) _) _
  simp only [Act.put, List.setIfInBounds_toArray, List.set_cons_zero, List.set_cons_succ]
  refine wpAnyH_take (i := 4) (v := ?_) rfl (by kernel_rfl) (by kernel_rfl) (by kernel_rfl) (fun _ _ _ h => h) (Or.inl ⟨by rfl, ?_⟩) HH.out ?_
  rotate_left
  · intro w hSw; go_simp; try with_reducible rfl
  change wpAnyH _ _ _ _ _ _ _ (Act.put _ (some 23) _) _
  simp only [Act.put, List.setIfInBounds_toArray, List.set_cons_zero, List.set_cons_succ]
  refine wpAnyH_take (i := 6) (v := ?_) rfl (by kernel_rfl) (by kernel_rfl) (by kernel_rfl) (fun _ _ _ h => h) (Or.inl ⟨by rfl, ?_⟩) HH.out ?_
  rotate_left
  · intro w hSw; go_simp; try with_reducible rfl
  change wpAnyH _ _ _ _ _ _ _ (Act.put _ (some 25) _) _
  simp only [Act.put, List.setIfInBounds_toArray, List.set_cons_zero, List.set_cons_succ]
  refine wpAnyH_take (i := 7) rfl (by kernel_rfl) (by kernel_rfl) (by kernel_rfl) (fun _ _ _ h => h) (yields_A (by rfl) rfl rfl (fun w hSw => (b5.ext hW0).mod hSw hBY) hself hok.self (by decide)) HH.out ?_
  change wpAnyH _ _ _ _ _ _ _ (Act.put _ (some 26) _) _
  simp only [Act.put, List.setIfInBounds_toArray, List.set_cons_zero, List.set_cons_succ]
  refine wpAnyH_ready (rs := [5]) (by kernel_rfl) (by simp) ?_
  refine AllReadyH.cons rfl (fun K hK => ?_) AllReadyH.nil
  refine step_any rfl (op_loadK rfl onet94e rfl ((h5.bY.ext (by (repeat (first | with_reducible exact Ext.refl _ | with_reducible assumption | refine Ext.trans ?_ (by with_reducible assumption) | refine Ext.alloc ?_ _ _ | refine Ext.drew ?_ | refine Ext.drewN ?_ _)))).cell (i := 6) (by decide)) ?_)
  refine hK.out _ _ HH.out (fun hHeld => ?_)
  clear hK K HH
  have HH : Hid (Mod (fun x => x = Y) W0 _) := hHeld
  clear hHeld
  change wpAnyH _ _ _ _ _ _ _ (Act.put _ (some 24) _) _
  simp only [Act.put, List.setIfInBounds_toArray, List.set_cons_zero, List.set_cons_succ]
  refine wpAnyH_ready (rs := [8]) (by kernel_rfl) (by simp) ?_
  refine AllReadyH.cons rfl (fun K hK => ?_) AllReadyH.nil
  go_simp
  go_at_call 137; refine (yWithAddr (Wd O B) (c5 6) _ f.self _ (h5.ext (by (repeat (first | with_reducible exact Ext.refl _ | with_reducible assumption | refine Ext.trans ?_ (by with_reducible assumption) | refine Ext.alloc ?_ _ _ | refine Ext.drew ?_ | refine Ext.drewN ?_ _)))).small (AddrL.ext (show AddrL (Wd O B) w5 (c5 6) _ from h5.wc.made) (by (repeat (first | with_reducible exact Ext.refl _ | with_reducible assumption | refine Ext.trans ?_ (by with_reducible assumption) | refine Ext.alloc ?_ _ _ | refine Ext.drew ?_ | refine Ext.drewN ?_ _)))) hok.self (Nat.le_trans h5.lim.made (by decide))).mono ?_; rintro e w6 ⟨mv, rfl, hmv, he⟩
  refine hK.out _ _ ?_ (fun hHeld => ?_)
  · first | exact HH.out.trans hmY | exact HH.out.trans_ext he | exact HH.out
  clear hK K HH
  have HH : Hid (Mod (fun x => x = Y) W0 _) := hHeld
  clear hHeld
  refine wpAnyH_take (i := 9) (v := ?_) rfl (by kernel_rfl) (by kernel_rfl) (by kernel_rfl) (fun _ _ _ h => h) (Or.inl ⟨by rfl, ?_⟩) HH.out ?_
  rotate_left
  · intro w hSw; go_simp; try with_reducible rfl
  change wpAnyH _ _ _ _ _ _ _ (Act.put _ (some 28) _) _
  simp only [Act.put, List.setIfInBounds_toArray, List.set_cons_zero, List.set_cons_succ]
  refine wpAnyH_take (i := 10) (v := ?_) rfl (by kernel_rfl) (by kernel_rfl) (by kernel_rfl) (fun _ _ _ h => h) (Or.inl ⟨by rfl, ?_⟩) HH.out ?_
  rotate_left
  · intro w hSw; go_simp; try with_reducible rfl
  change wpAnyH _ _ _ _ _ _ _ (Act.put _ (some 29) _) _
  simp only [Act.put, List.setIfInBounds_toArray, List.set_cons_zero, List.set_cons_succ]
  refine wpAnyH_take (i := 11) (v := ?_) rfl (by kernel_rfl) (by kernel_rfl) (by kernel_rfl) (fun _ _ _ h => h) (Or.inl ⟨by rfl, ?_⟩) HH.out ?_
  rotate_left
  · intro w hSw; go_simp; try with_reducible rfl
  change wpAnyH _ _ _ _ _ _ _ (Act.put _ (some 30) _) _
  simp only [Act.put, List.setIfInBounds_toArray, List.set_cons_zero, List.set_cons_succ]
  refine wpAnyH_ready (rs := [12]) (by kernel_rfl) (by simp) ?_
  refine AllReadyH.cons rfl (fun K hK => ?_) AllReadyH.nil
  refine step_any rfl (op_store1 rfl onet94e rfl rfl (addr_onec hmv) (h5.bY.ext (by (repeat (first | with_reducible exact Ext.refl _ | with_reducible assumption | refine Ext.trans ?_ (by with_reducible assumption) | refine Ext.alloc ?_ _ _ | refine Ext.drew ?_ | refine Ext.drewN ?_ _)))) (by decide) ?_)
  rintro W7 b7 m7
  refine hK.out _ _ ?_ (fun hHeld => ?_)
  · exact HH.out.trans m7
  clear hK K HH
  have HH : Hid (Mod (fun x => x = Y) W0 _) := hHeld
  clear hHeld
  change wpAnyH _ _ _ _ _ _ _ (Act.put _ none _) _
  simp only [Act.put, List.setIfInBounds_toArray, List.set_cons_zero, List.set_cons_succ]
  refine wpAnyH_done (by kernel_rfl) ?_ _
  have h7 := (h5.ext (by (repeat (first | with_reducible exact Ext.refl _ | with_reducible assumption | refine Ext.trans ?_ (by with_reducible assumption) | refine Ext.alloc ?_ _ _ | refine Ext.drew ?_ | refine Ext.drewN ?_ _)))).putMade f.self m7 b7 (AddrL.keep (AddrL.ext hmv (by (repeat (first | with_reducible exact Ext.refl _ | with_reducible assumption | refine Ext.trans ?_ (by with_reducible assumption) | refine Ext.alloc ?_ _ _ | refine Ext.drew ?_ | refine Ext.drewN ?_ _)))) m7 hsY) hl2 (YW.markMade_wf h5.wf _)
  have M7 : Mod (· = Y) W3 W7 := (M5.trans_ext hW0).trans HH.out
  have bb7 := b5.mod (((Mod.refl (· = Y) w5).trans_ext hW0).trans HH.out) hBY
  clear HH hW0 he
  go_upto_if 38 with (first | ((with_reducible (refine Veil.out ?_; apply wl_loadC onet5e)); (case hw => rfl); (case hx => rfl); (case hc => exact (bb7.cell (i := 0) (by decide)).trans (congrArg some hk0))))
  go_upto_region 6 with (fail)
  refine w_ext ?_
  rintro W0 hW0
  refine wp_region_held_drew (S := fun w' => Mod (fun x => x = Y) W0 w') (by kernel_rfl) (Mod.refl _ _).drew (fun hHeld => ?_)
  have HH : Hid (Mod (fun x => x = Y) W0 _) := hHeld
  clear hHeld
  refine wpAnyH_take (i := 0) (v := ?_) rfl (by kernel_rfl) (by kernel_rfl) (by kernel_rfl) (fun _ _ _ h => h) (Or.inl ⟨by rfl, ?_⟩) HH.out ?_
  rotate_left
  · intro w hSw; go_simp; try with_reducible rfl
  change wpAnyH _ _ _ _ _ _ _ (Act.put _ (some 39) _) _
  simp only [Act.put, List.setIfInBounds_toArray, List.set_cons_zero, List.set_cons_succ]
  refine wpAnyH_take (i := 1) (v := ?_) rfl (by kernel_rfl) (by kernel_rfl) (by kernel_rfl) (fun _ _ _ h => h) (Or.inl ⟨by rfl, ?_⟩) HH.out ?_
  rotate_left
  · intro w hSw; go_simp; try with_reducible rfl
  change wpAnyH _ _ _ _ _ _ _ (Act.put _ (some 40) _) _
  simp only [Act.put, List.setIfInBounds_toArray, List.set_cons_zero, List.set_cons_succ]
  refine wpAnyH_take (i := 2) (v := ?_) rfl (by kernel_rfl) (by kernel_rfl) (by kernel_rfl) (fun _ _ _ h => h) (Or.inl ⟨by rfl, ?_⟩) HH.out ?_
  rotate_left
  · intro w hSw; go_simp; try with_reducible rfl
  change wpAnyH _ _ _ _ _ _ _ (Act.put _ (some 41) _) _
  simp only [Act.put, List.setIfInBounds_toArray, List.set_cons_zero, List.set_cons_succ]
  refine wpAnyH_take (i := 3) (v := ?_) rfl (by kernel_rfl) (by kernel_rfl) (by kernel_rfl) (fun _ _ _ h => h) (Or.inl ⟨by rfl, ?_⟩) HH.out ?_
  rotate_left
  · intro w hSw; go_simp; try with_reducible rfl
  change wpAnyH _ _ _ _ _ _ _ (Act.put _ (some 42) _) _
  simp only [Act.put, List.setIfInBounds_toArray, List.set_cons_zero, List.set_cons_succ]
  refine wpAnyH_take (i := 4) rfl (by kernel_rfl) (by kernel_rfl) (by kernel_rfl) (fun _ _ _ h => h) (yields_A (by rfl) rfl rfl (fun w hSw => (bb7.ext hW0).mod hSw hBY) hcall hok.caller (by decide)) HH.out ?_
  change wpAnyH _ _ _ _ _ _ _ (Act.put _ (some 43) _) _
  simp only [Act.put, List.setIfInBounds_toArray, List.set_cons_zero, List.set_cons_succ]
  refine wpAnyH_take (i := 5) (v := ?_) rfl (by kernel_rfl) (by kernel_rfl) (by kernel_rfl) (fun _ _ _ h => h) (Or.inl ⟨by rfl, ?_⟩) HH.out ?_
  rotate_left
  · intro w hSw; go_simp; try with_reducible rfl
  change wpAnyH _ _ _ _ _ _ _ (Act.put _ (some 44) _) _
  simp only [Act.put, List.setIfInBounds_toArray, List.set_cons_zero, List.set_cons_succ]
  refine wpAnyH_take (i := 6) rfl (by kernel_rfl) (by kernel_rfl) (by kernel_rfl) (fun _ _ _ h => h) (yields_A (by rfl) rfl rfl (fun w hSw => (bb7.ext hW0).mod hSw hBY) hself hok.self (by decide)) HH.out ?_
  change wpAnyH _ _ _ _ _ _ _ (Act.put _ (some 45) _) _
  simp only [Act.put, List.setIfInBounds_toArray, List.set_cons_zero, List.set_cons_succ]
  refine wpAnyH_take (i := 7) (v := ?_) rfl (by kernel_rfl) (by kernel_rfl) (by kernel_rfl) (fun _ _ _ h => h) (Or.inl ⟨by rfl, ?_⟩) HH.out ?_
  rotate_left
  · intro w hSw; go_simp; try with_reducible rfl
  change wpAnyH _ _ _ _ _ _ _ (Act.put _ (some 46) _) _
  simp only [Act.put, List.setIfInBounds_toArray, List.set_cons_zero, List.set_cons_succ]
  refine wpAnyH_take (i := 8) rfl (by kernel_rfl) (by kernel_rfl) (by kernel_rfl) (fun _ _ _ h => h) (yieldsIf_load1 (by rfl) _ _ rfl _ _ rfl onet96e _ (fun w hSw => ((bb7.ext hW0).mod hSw hBY).cell (i := 5) (by decide))) HH.out ?_
  change wpAnyH _ _ _ _ _ _ _ (Act.put _ (some 47) _) _
  simp only [Act.put, List.setIfInBounds_toArray, List.set_cons_zero, List.set_cons_succ]
  refine wpAnyH_ready (rs := [9]) (by kernel_rfl) (by simp) ?_
  refine AllReadyH.cons rfl (fun K hK => ?_) AllReadyH.nil
  go_simp
  go_at_call 142; refine (zMove (h7.ext (by (repeat (first | with_reducible exact Ext.refl _ | with_reducible assumption | refine Ext.trans ?_ (by with_reducible assumption) | refine Ext.alloc ?_ _ _ | refine Ext.drew ?_ | refine Ext.drewN ?_ _)))) f.caller f.self hok.caller hok.self (dB 5) f.value (((hval.keep M7 hsY)).ext (by (repeat (first | with_reducible exact Ext.refl _ | with_reducible assumption | refine Ext.trans ?_ (by with_reducible assumption) | refine Ext.alloc ?_ _ _ | refine Ext.drew ?_ | refine Ext.drewN ?_ _)))) hok.value hl3 hl4).mono ?_; rintro e w8 ⟨c8, rfl, h8, hmY⟩
  refine hK.out _ _ ?_ (fun hHeld => ?_)
  · first | exact HH.out.trans hmY | exact HH.out.trans_ext he | exact HH.out
  clear hK K HH
  have HH : Hid (Mod (fun x => x = Y) W0 _) := hHeld
  clear hHeld
  refine wpAnyH_done (by kernel_rfl) ?_ _
  have M8 : Mod (· = Y) W3 w8 := (M7.trans_ext hW0).trans HH.out
  clear HH hW0
  go_upto_region 8 with ((with_reducible (refine Veil.out ?_; apply wl_storeC onet32e)); (case hx => rfl); (case hy => rfl); (case h1 => rfl); (case hB => exact h8.bY); (case hi => decide); rintro W9 b9 m9)
  have h9 := h8.putRet m9 (l := []) NL.nil b9
  have M9 : Mod (· = Y) W3 W9 := M8.trans m9
  have bb9 := b3.mod M9 hBY
  have hfr9 := hfr.keep M9 hsY (fun b hb => absurd hb id)
  obtain ⟨z, hz1, hz2⟩ := z147e
  refine w_ext ?_
  rintro W0 hW0
  refine wp_region_held_drew (S := fun w' => Mod (fun x => x = Y ∨ x = F) W0 w') (by kernel_rfl) (Mod.refl _ _).drew (fun hHeld => ?_)
  have HH : Hid (Mod (fun x => x = Y ∨ x = F) W0 _) := hHeld
  clear hHeld
  refine wpAnyH_take (i := 0) (v := ?_) rfl (by kernel_rfl) (by kernel_rfl) (by kernel_rfl) (fun _ _ _ h => h) (Or.inl ⟨by rfl, ?_⟩) HH.out ?_
  rotate_left
  · intro w hSw; go_simp; try with_reducible rfl
  change wpAnyH _ _ _ _ _ _ _ (Act.put _ (some 52) _) _
  simp only [Act.put, List.setIfInBounds_toArray, List.set_cons_zero, List.set_cons_succ]
  refine wpAnyH_take (i := 1) (v := ?_) rfl (by kernel_rfl) (by kernel_rfl) (by kernel_rfl) (fun _ _ _ h => h) (Or.inl ⟨by rfl, ?_⟩) HH.out ?_
  rotate_left
  · intro w hSw; go_simp; try with_reducible rfl
  change wpAnyH _ _ _ _ _ _ _ (Act.put _ (some 53) _) _
  simp only [Act.put, List.setIfInBounds_toArray, List.set_cons_zero, List.set_cons_succ]
  refine wpAnyH_take (i := 2) (v := ?_) rfl (by kernel_rfl) (by kernel_rfl) (by kernel_rfl) (fun _ _ _ h => h) (Or.inl ⟨by rfl, ?_⟩) HH.out ?_
  rotate_left
  · intro w hSw; go_simp; try with_reducible rfl
  change wpAnyH _ _ _ _ _ _ _ (Act.put _ (some 54) _) _
  simp only [Act.put, List.setIfInBounds_toArray, List.set_cons_zero, List.set_cons_succ]
  refine wpAnyH_take (i := 3) (v := ?_) rfl (by kernel_rfl) (by kernel_rfl) (by kernel_rfl) (fun _ _ _ h => h) (Or.inl ⟨by rfl, ?_⟩) HH.out ?_
  rotate_left
  · intro w hSw; go_simp; try with_reducible rfl
  change wpAnyH _ _ _ _ _ _ _ (Act.put _ (some 55) _) _
  simp only [Act.put, List.setIfInBounds_toArray, List.set_cons_zero, List.set_cons_succ]
  refine wpAnyH_take (i := 5) rfl (by kernel_rfl) (by kernel_rfl) (by kernel_rfl) (fun _ _ _ h => h) (yieldsRow rt147e (by rfl) rfl rfl (fun w hSw => (bb9.ext hW0).mod hSw (fun q => q.elim hBY hBF)) (by decide)) HH.out ?_
  change wpAnyH _ _ _ _ _ _ _ (Act.put _ (some 57) _) _
  simp only [Act.put, List.setIfInBounds_toArray, List.set_cons_zero, List.set_cons_succ]
  refine wpAnyH_ready (rs := [4, 6]) (by kernel_rfl) (by simp) ?_
  refine (AllReadyH.cons rfl (fun K hK => ?_) (AllReadyH.cons rfl (fun K hK => ?_) AllReadyH.nil))
  refine step_any rfl (op_loadK rfl onet101e rfl ((h9.bY.ext (by (repeat (first | with_reducible exact Ext.refl _ | with_reducible assumption | refine Ext.trans ?_ (by with_reducible assumption) | refine Ext.alloc ?_ _ _ | refine Ext.drew ?_ | refine Ext.drewN ?_ _)))).cell (i := 9) (by decide)) ?_)
  refine hK.out _ _ HH.out (fun hHeld => ?_)
  clear hK K HH
  have HH : Hid (Mod (fun x => x = Y ∨ x = F) W0 _) := hHeld
  clear hHeld
  change wpAnyH _ _ _ _ _ _ _ (Act.put _ (some 56) _) _
  simp only [Act.put, List.setIfInBounds_toArray, List.set_cons_zero, List.set_cons_succ]
  refine wpAnyH_ready (rs := [6]) (by kernel_rfl) (by simp) ?_
  refine AllReadyH.cons rfl (fun K hK => ?_) AllReadyH.nil
  refine step_any rfl (op_build1 156 Hvah.t156 z 60 rfl under101e info147e hz1 size147e hz2 (by decide) (by decide) (rowOf dB 0 60) (rowOf_size _ _ _) rfl ?_)
  rintro B9 W10 e10 r10 g10
  refine hK.out _ _ ?_ (fun hHeld => ?_)
  · exact HH.out.trans_ext e10
  clear hK K HH
  have HH : Hid (Mod (fun x => x = Y ∨ x = F) W0 _) := hHeld
  clear hHeld
  change wpAnyH _ _ _ _ _ _ _ (Act.put _ (some 58) _) _
  simp only [Act.put, List.setIfInBounds_toArray, List.set_cons_zero, List.set_cons_succ]
  refine wpAnyH_ready (rs := [7]) (by kernel_rfl) (by simp) ?_
  refine AllReadyH.cons rfl (fun K hK => ?_) AllReadyH.nil
  have h10 := h9.ext (show Ext W9 W10 by (repeat (first | with_reducible exact Ext.refl _ | with_reducible assumption | refine Ext.trans ?_ (by with_reducible assumption) | refine Ext.alloc ?_ _ _ | refine Ext.drew ?_ | refine Ext.drewN ?_ _)))
  refine step_appendV rfl _ _ 114 rfl 156 Hvah.t156 z 60 under101e info147e hz1 size147e hz2 bytes147e _ L.length F n d h10.fv (by omega) ⟨B9, 0, none⟩ 1 (rowOf dB 0 60).toList (by simp [rowOf_size]) r10 (fun u hu => hone60 u (by simpa using hu)) rfl rfl ?_
  rintro v' W11 b' d' hG
  have bY11 := grown_blk hG h10.bY h.ne
  have m11 : Mod (fun b => b = Y ∨ b = F) W10 W11 := by
    rcases hG.how with ⟨_, _, m⟩ | ⟨_, e⟩
    · exact m.sub (fun _ q => Or.inr q)
    · exact e.mod _
  refine hK.out _ _ ?_ (fun hHeld => ?_)
  · exact HH.out.trans m11
  clear hK K HH
  have HH : Hid (Mod (fun x => x = Y ∨ x = F) W0 _) := hHeld
  clear hHeld
  change wpAnyH _ _ _ _ _ _ _ (Act.put _ (some 59) _) _
  simp only [Act.put, List.setIfInBounds_toArray, List.set_cons_zero, List.set_cons_succ]
  refine wpAnyH_take (i := 8) (v := ?_) rfl (by kernel_rfl) (by kernel_rfl) (by kernel_rfl) (fun _ _ _ h => h) (Or.inl ⟨by rfl, ?_⟩) HH.out ?_
  rotate_left
  · intro w hSw; go_simp; try with_reducible rfl
  change wpAnyH _ _ _ _ _ _ _ (Act.put _ (some 60) _) _
  simp only [Act.put, List.setIfInBounds_toArray, List.set_cons_zero, List.set_cons_succ]
  refine wpAnyH_take (i := 9) (v := ?_) rfl (by kernel_rfl) (by kernel_rfl) (by kernel_rfl) (fun _ _ _ h => h) (Or.inl ⟨by rfl, ?_⟩) HH.out ?_
  rotate_left
  · intro w hSw; go_simp; try with_reducible rfl
  change wpAnyH _ _ _ _ _ _ _ (Act.put _ (some 61) _) _
  simp only [Act.put, List.setIfInBounds_toArray, List.set_cons_zero, List.set_cons_succ]
  refine wpAnyH_ready (rs := [10]) (by kernel_rfl) (by simp) ?_
  refine AllReadyH.cons rfl (fun K hK => ?_) AllReadyH.nil
  refine step_any rfl (op_store1 rfl onet101e rfl rfl (by obtain ⟨_, q⟩ := hG.some; rw [q]; rfl) bY11 (by decide) ?_)
  rintro W12 b12 m12
  refine hK.out _ _ ?_ (fun hHeld => ?_)
  · exact HH.out.trans (m12.sub (fun _ q => Or.inl q))
  clear hK K HH
  have HH : Hid (Mod (fun x => x = Y ∨ x = F) W0 _) := hHeld
  clear hHeld
  change wpAnyH _ _ _ _ _ _ _ (Act.put _ none _) _
  simp only [Act.put, List.setIfInBounds_toArray, List.set_cons_zero, List.set_cons_succ]
  refine wpAnyH_done (by kernel_rfl) ?_ _
  · obtain ⟨O', n', hZ, hOO, hM⟩ := h10.push (x := ⟨{ f with saved := st.now }, W, fun _ => False⟩) hG m12 b12 hfew (fun q => (hfr9.ext (show Ext W9 W10 by (repeat (first | with_reducible exact Ext.refl _ | with_reducible assumption | refine Ext.trans ?_ (by with_reducible assumption) | refine Ext.alloc ?_ _ _ | refine Ext.drew ?_ | refine Ext.drewN ?_ _)))).same (fun j hj => by rw [Nat.zero_add]; exact q j (dB j) (by rw [Array.getElem?_toList, rowOf_get, if_pos hj, Nat.zero_add]))) (fun b hb => hb)
    have hEnd : YEnt O TL w W12 Y F (((W.setNonce f.self 1).markMade f.self).move f.caller f.self f.value) start (st.enter f) tot (⟨{ f with saved := st.now }, W, fun _ => False⟩ :: L) := by
      have he : st.enter f = { st with now := (((st.now.setNonce f.self 1).markMade f.self).move f.caller f.self f.value), ret := [], frames := { f with saved := st.now } :: st.frames } := by simp [ASt.enter, hk, createsA]
      have hsz10 : w.heap.size ≤ W10.heap.size := Nat.le_trans E3.size (Nat.le_trans M9.size (Ext.size (show Ext W9 W10 by (repeat (first | with_reducible exact Ext.refl _ | with_reducible assumption | refine Ext.trans ?_ (by with_reducible assumption) | refine Ext.alloc ?_ _ _ | refine Ext.drew ?_ | refine Ext.drewN ?_ _)))))
      have hMM : Mod (fun b => b = Y ∨ b = F) w W12 := ((((E3.mod _).trans (M9.sub (fun _ q => Or.inl q))).trans_ext (show Ext W9 W10 by (repeat (first | with_reducible exact Ext.refl _ | with_reducible assumption | refine Ext.trans ?_ (by with_reducible assumption) | refine Ext.alloc ?_ _ _ | refine Ext.drew ?_ | refine Ext.drewN ?_ _))))).trans hM
      have hOO2 : ∀ b, b < w.heap.size → (O' b ↔ O b) := fun b hb => (hOO b (Nat.lt_of_lt_of_le hb hsz10)).trans ⟨fun q => q.elim id (fun q => by omega), Or.inl⟩
      rw [he]
      exact ⟨O', b', n', _, d', hZ, hOO2, hMM⟩
    clear hk
    go_wp2
    go_end0
    exact ⟨rfl, hEnd⟩
  refine step_any rfl (op_build1 156 Hvah.t156 z 60 rfl under101e info147e hz1 size147e hz2 (by decide) (by decide) (rowOf dB 0 60) (rowOf_size _ _ _) rfl ?_)
  rintro B9 W10 e10 r10 g10
  refine hK.out _ _ ?_ (fun hHeld => ?_)
  · exact HH.out.trans_ext e10
  clear hK K HH
  have HH : Hid (Mod (fun x => x = Y ∨ x = F) W0 _) := hHeld
  clear hHeld
  change wpAnyH _ _ _ _ _ _ _ (Act.put _ (some 58) _) _
  simp only [Act.put, List.setIfInBounds_toArray, List.set_cons_zero, List.set_cons_succ]
  refine wpAnyH_ready (rs := [4]) (by kernel_rfl) (by simp) ?_
  refine AllReadyH.cons rfl (fun K hK => ?_) AllReadyH.nil
  refine step_any rfl (op_loadK rfl onet101e rfl ((h9.bY.ext (by (repeat (first | with_reducible exact Ext.refl _ | with_reducible assumption | refine Ext.trans ?_ (by with_reducible assumption) | refine Ext.alloc ?_ _ _ | refine Ext.drew ?_ | refine Ext.drewN ?_ _)))).cell (i := 9) (by decide)) ?_)
  refine hK.out _ _ HH.out (fun hHeld => ?_)
  clear hK K HH
  have HH : Hid (Mod (fun x => x = Y ∨ x = F) W0 _) := hHeld
  clear hHeld
  change wpAnyH _ _ _ _ _ _ _ (Act.put _ (some 56) _) _
  simp only [Act.put, List.setIfInBounds_toArray, List.set_cons_zero, List.set_cons_succ]
  refine wpAnyH_ready (rs := [7]) (by kernel_rfl) (by simp) ?_
  refine AllReadyH.cons rfl (fun K hK => ?_) AllReadyH.nil
  have h10 := h9.ext (show Ext W9 W10 by (repeat (first | with_reducible exact Ext.refl _ | with_reducible assumption | refine Ext.trans ?_ (by with_reducible assumption) | refine Ext.alloc ?_ _ _ | refine Ext.drew ?_ | refine Ext.drewN ?_ _)))
  refine step_appendV rfl _ _ 114 rfl 156 Hvah.t156 z 60 under101e info147e hz1 size147e hz2 bytes147e _ L.length F n d h10.fv (by omega) ⟨B9, 0, none⟩ 1 (rowOf dB 0 60).toList (by simp [rowOf_size]) r10 (fun u hu => hone60 u (by simpa using hu)) rfl rfl ?_
  rintro v' W11 b' d' hG
  have bY11 := grown_blk hG h10.bY h.ne
  have m11 : Mod (fun b => b = Y ∨ b = F) W10 W11 := by
    rcases hG.how with ⟨_, _, m⟩ | ⟨_, e⟩
    · exact m.sub (fun _ q => Or.inr q)
    · exact e.mod _
  refine hK.out _ _ ?_ (fun hHeld => ?_)
  · exact HH.out.trans m11
  clear hK K HH
  have HH : Hid (Mod (fun x => x = Y ∨ x = F) W0 _) := hHeld
  clear hHeld
  change wpAnyH _ _ _ _ _ _ _ (Act.put _ (some 59) _) _
  simp only [Act.put, List.setIfInBounds_toArray, List.set_cons_zero, List.set_cons_succ]
  refine wpAnyH_take (i := 8) (v := ?_) rfl (by kernel_rfl) (by kernel_rfl) (by kernel_rfl) (fun _ _ _ h => h) (Or.inl ⟨by rfl, ?_⟩) HH.out ?_
  rotate_left
  · intro w hSw; go_simp; try with_reducible rfl
  change wpAnyH _ _ _ _ _ _ _ (Act.put _ (some 60) _) _
  simp only [Act.put, List.setIfInBounds_toArray, List.set_cons_zero, List.set_cons_succ]
  refine wpAnyH_take (i := 9) (v := ?_) rfl (by kernel_rfl) (by kernel_rfl) (by kernel_rfl) (fun _ _ _ h => h) (Or.inl ⟨by rfl, ?_⟩) HH.out ?_
  rotate_left
  · intro w hSw; go_simp; try with_reducible rfl
  change wpAnyH _ _ _ _ _ _ _ (Act.put _ (some 61) _) _
  simp only [Act.put, List.setIfInBounds_toArray, List.set_cons_zero, List.set_cons_succ]
  refine wpAnyH_ready (rs := [10]) (by kernel_rfl) (by simp) ?_
  refine AllReadyH.cons rfl (fun K hK => ?_) AllReadyH.nil
  refine step_any rfl (op_store1 rfl onet101e rfl rfl (by obtain ⟨_, q⟩ := hG.some; rw [q]; rfl) bY11 (by decide) ?_)
  rintro W12 b12 m12
  refine hK.out _ _ ?_ (fun hHeld => ?_)
  · exact HH.out.trans (m12.sub (fun _ q => Or.inl q))
  clear hK K HH
  have HH : Hid (Mod (fun x => x = Y ∨ x = F) W0 _) := hHeld
  clear hHeld
  change wpAnyH _ _ _ _ _ _ _ (Act.put _ none _) _
  simp only [Act.put, List.setIfInBounds_toArray, List.set_cons_zero, List.set_cons_succ]
  refine wpAnyH_done (by kernel_rfl) ?_ _
  · obtain ⟨O', n', hZ, hOO, hM⟩ := h10.push (x := ⟨{ f with saved := st.now }, W, fun _ => False⟩) hG m12 b12 hfew (fun q => (hfr9.ext (show Ext W9 W10 by (repeat (first | with_reducible exact Ext.refl _ | with_reducible assumption | refine Ext.trans ?_ (by with_reducible assumption) | refine Ext.alloc ?_ _ _ | refine Ext.drew ?_ | refine Ext.drewN ?_ _)))).same (fun j hj => by rw [Nat.zero_add]; exact q j (dB j) (by rw [Array.getElem?_toList, rowOf_get, if_pos hj, Nat.zero_add]))) (fun b hb => hb)
    have hEnd : YEnt O TL w W12 Y F (((W.setNonce f.self 1).markMade f.self).move f.caller f.self f.value) start (st.enter f) tot (⟨{ f with saved := st.now }, W, fun _ => False⟩ :: L) := by
      have he : st.enter f = { st with now := (((st.now.setNonce f.self 1).markMade f.self).move f.caller f.self f.value), ret := [], frames := { f with saved := st.now } :: st.frames } := by simp [ASt.enter, hk, createsA]
      have hsz10 : w.heap.size ≤ W10.heap.size := Nat.le_trans E3.size (Nat.le_trans M9.size (Ext.size (show Ext W9 W10 by (repeat (first | with_reducible exact Ext.refl _ | with_reducible assumption | refine Ext.trans ?_ (by with_reducible assumption) | refine Ext.alloc ?_ _ _ | refine Ext.drew ?_ | refine Ext.drewN ?_ _)))))
      have hMM : Mod (fun b => b = Y ∨ b = F) w W12 := ((((E3.mod _).trans (M9.sub (fun _ q => Or.inl q))).trans_ext (show Ext W9 W10 by (repeat (first | with_reducible exact Ext.refl _ | with_reducible assumption | refine Ext.trans ?_ (by with_reducible assumption) | refine Ext.alloc ?_ _ _ | refine Ext.drew ?_ | refine Ext.drewN ?_ _))))).trans hM
      have hOO2 : ∀ b, b < w.heap.size → (O' b ↔ O b) := fun b hb => (hOO b (Nat.lt_of_lt_of_le hb hsz10)).trans ⟨fun q => q.elim id (fun q => by omega), Or.inl⟩
      rw [he]
      exact ⟨O', b', n', _, d', hZ, hOO2, hMM⟩
    clear hk
    go_wp2
    go_end0
    exact ⟨rfl, hEnd⟩
set_option maxRecDepth 100000 in
set_option maxHeartbeats 6400000 in
theorem zEnter2 (HLG : ∀ {O T : Nat → Prop} {w : World} {v : Value} {l : List ALog}, Small O w → LogL T O w v l → l.length ≤ 100000 → Calls Hvah.prog 80 #[v] w fun e w' => ∃ r, e = .returned r ∧ GRow 141 22 (LgC O w') (fun b => ¬ O b) w' r l ∧ Full r ∧ Ext w w') (h : YZ O TL w Y F n c d W start st tot L) (fr : Array Value) (hsz : fr.size = 60) (hones : Ones fr) (f : AFrame) (hk : f.kind = 2) (hf : YFC O (fun _ => False) w (cf fr) 0 f) (hok : FOK f) (hsl : ∀ x ∈ W.accts, x.slots.length ≤ 90000) (hfew : L.length < 7) (hl3 : YLim (W.setBal f.caller ((W.acct f.caller).bal - f.value))) (hl4 : YLim (W.move f.caller f.self f.value)) :
    Calls Hvah.prog 65 #[.pointer (some ⟨Y, 0, none⟩), .agg fr] w fun e w' => e = .returned (.tuple #[]) ∧ YEnt O TL w w' Y F (W.move f.caller f.self f.value) start (st.enter f) tot (⟨{ f with saved := st.now }, W, fun _ => False⟩ :: L) := by
  have hYl : Y < w.heap.size := h.bY.lt
  have hFl : F < w.heap.size := h.small F h.oF
  go_enter Hvah.func65, Hvah.ntmps65
  go_upto_region 1 with ((with_reducible (refine Veil.out ?_; apply wl_boxB)); (case hx => rfl); (case hn => exact hsz); rintro B W1 e1 b1 g1)
  have hBY : ¬ B = Y := by omega
  have hBF : ¬ B = F := by omega
  have h1 := h.wd e1 b1.lt g1
  obtain ⟨T, hT⟩ : ∃ T, LogL T (Wd O B) W1 (c 4) W.logs := h1.lg.elim (fun k => ⟨_, k⟩) (fun k => ⟨_, k.1⟩)
  have HC := fun W2 (q : Ext W1 W2) => yClone (w := W2) HLG (h1.ext q).small (h1.ext q).bY (h1.ext q).wc (GRow.ext hT q (fun _ _ _ k => k.ext q)) h1.lim hsl
  go_upto_region 2 with (first | (go_at_call 140; refine (HC _ (by (repeat (first | with_reducible exact Ext.refl _ | with_reducible assumption | refine Ext.trans ?_ (by with_reducible assumption) | refine Ext.alloc ?_ _ _ | refine Ext.drew ?_ | refine Ext.drewN ?_ _)))).mono ?_; rintro e w2 ⟨r, rfl, hr8, hro, hrw, hrl, hrf, e2⟩) | ((with_reducible (refine Veil.out ?_; apply wl_storeRow rt99e)); (case hx => rfl); (case hy => rfl); (case hr => exact hr8); (case h1 => exact hro); (case hB => exact b1.ext e2); (case hi => decide); rintro W3 b3 m3))
  have hfr := ye_frame h hf hok g1 e1 e2 m3 hr8 hrw hrl hrf
  have h3 : YZ (Wd O B) TL W3 Y F n c d W start st tot L := (h1.ext e2).keepS m3 (fun b hb q => hb (Or.inr q)) (fun q => hBY q.symm) (fun q => hBF q.symm) (fun x hx b hb q => by have := h.small b (h.tm x hx b hb).1; omega) (fun b hb q => by have := h.small b (h.tl b hb).1; omega)
  have M3 : Mod (· = B) w W3 := ((e1.trans e2).mod _).trans m3
  obtain ⟨dB, hdB⟩ : ∃ dB, dB = layv (cf fr) 52 r := ⟨_, rfl⟩
  rw [← hdB] at hfr b3
  have hone60 : Ones (rowOf dB 0 60) := ones_of (fun q hq => by
    rw [rowOf_size] at hq
    rw [cf_rowOf _ _ _ hq, Nat.zero_add, hdB]
    rcases Nat.lt_or_ge q 52 with k | k
    · rw [layv_out _ _ _ (Or.inl k)]; exact Ones.get hones (by omega)
    · have k2 := layv_in (cf fr) 52 r (j := q - 52) (by omega)
      rw [show 52 + (q - 52) = q by omega] at k2
      rw [k2]; exact Ones.get hro (by omega))
  have E3 : Ext w W3 := Ext.trans_mod (e1.trans e2) m3 (fun q hq => by have hq2 : q = B := hq; rw [hq2]; exact g1)
  have hk0 : dB 0 = .int .u8 2 := by have := hfr.fc.kind; simp only [hk] at this; exact this
  have hself : AAt dB 12 f.self := by have := hfr.fc.self; rwa [Nat.zero_add] at this
  have hcall : AAt dB 32 f.caller := by have := hfr.fc.caller; rwa [Nat.zero_add] at this
  have hsY : ∀ b, ¬ Wd O B b → ¬ b = Y := fun b hb q => hb (q ▸ h3.oY)
  clear HC hT hrw hrl hrf hf h1 hdB hones hro m3 b1
  go_upto_if 11 with (first | ((with_reducible (refine Veil.out ?_; apply wl_loadC onet5e)); (case hw => rfl); (case hx => rfl); (case hc => exact (b3.cell (i := 0) (by decide)).trans (congrArg some hk0))) | (go_at_call 141; refine (yCreates 2 (by decide)).mono ?_; rintro e w4 ⟨rfl, e4⟩; have e5 := e4.symm; subst e5))
  have hval : NV (Wd O B) W3 (dB 5) f.value := hfr.fc.value
  have M0 : Mod (· = Y) W3 W3 := Mod.refl _ _
  go_upto_if 38 with (first | ((with_reducible (refine Veil.out ?_; apply wl_loadC onet5e)); (case hw => rfl); (case hx => rfl); (case hc => exact (b3.cell (i := 0) (by decide)).trans (congrArg some hk0))))
  go_upto_region 6 with (fail)
  refine w_ext ?_
  rintro W0 hW0
  refine wp_region_held_drew (S := fun w' => Mod (fun x => x = Y) W0 w') (by kernel_rfl) (Mod.refl _ _).drew (fun hHeld => ?_)
  have HH : Hid (Mod (fun x => x = Y) W0 _) := hHeld
  clear hHeld
  refine wpAnyH_take (i := 0) (v := ?_) rfl (by kernel_rfl) (by kernel_rfl) (by kernel_rfl) (fun _ _ _ h => h) (Or.inl ⟨by rfl, ?_⟩) HH.out ?_
  rotate_left
  · intro w hSw; go_simp; try with_reducible rfl
  change wpAnyH _ _ _ _ _ _ _ (Act.put _ (some 39) _) _
  simp only [Act.put, List.setIfInBounds_toArray, List.set_cons_zero, List.set_cons_succ]
  refine wpAnyH_take (i := 1) (v := ?_) rfl (by kernel_rfl) (by kernel_rfl) (by kernel_rfl) (fun _ _ _ h => h) (Or.inl ⟨by rfl, ?_⟩) HH.out ?_
  rotate_left
  · intro w hSw; go_simp; try with_reducible rfl
  change wpAnyH _ _ _ _ _ _ _ (Act.put _ (some 40) _) _
  simp only [Act.put, List.setIfInBounds_toArray, List.set_cons_zero, List.set_cons_succ]
  refine wpAnyH_take (i := 2) (v := ?_) rfl (by kernel_rfl) (by kernel_rfl) (by kernel_rfl) (fun _ _ _ h => h) (Or.inl ⟨by rfl, ?_⟩) HH.out ?_
  rotate_left
  · intro w hSw; go_simp; try with_reducible rfl
  change wpAnyH _ _ _ _ _ _ _ (Act.put _ (some 41) _) _
  simp only [Act.put, List.setIfInBounds_toArray, List.set_cons_zero, List.set_cons_succ]
  refine wpAnyH_take (i := 3) (v := ?_) rfl (by kernel_rfl) (by kernel_rfl) (by kernel_rfl) (fun _ _ _ h => h) (Or.inl ⟨by rfl, ?_⟩) HH.out ?_
  rotate_left
  · intro w hSw; go_simp; try with_reducible rfl
  change wpAnyH _ _ _ _ _ _ _ (Act.put _ (some 42) _) _
  simp only [Act.put, List.setIfInBounds_toArray, List.set_cons_zero, List.set_cons_succ]
  refine wpAnyH_take (i := 4) rfl (by kernel_rfl) (by kernel_rfl) (by kernel_rfl) (fun _ _ _ h => h) (yields_A (by rfl) rfl rfl (fun w hSw => (b3.ext hW0).mod hSw hBY) hcall hok.caller (by decide)) HH.out ?_
  change wpAnyH _ _ _ _ _ _ _ (Act.put _ (some 43) _) _
  simp only [Act.put, List.setIfInBounds_toArray, List.set_cons_zero, List.set_cons_succ]
  refine wpAnyH_take (i := 5) (v := ?_) rfl (by kernel_rfl) (by kernel_rfl) (by kernel_rfl) (fun _ _ _ h => h) (Or.inl ⟨by rfl, ?_⟩) HH.out ?_
  rotate_left
  · intro w hSw; go_simp; try with_reducible rfl
  change wpAnyH _ _ _ _ _ _ _ (Act.put _ (some 44) _) _
  simp only [Act.put, List.setIfInBounds_toArray, List.set_cons_zero, List.set_cons_succ]
  refine wpAnyH_take (i := 6) rfl (by kernel_rfl) (by kernel_rfl) (by kernel_rfl) (fun _ _ _ h => h) (yields_A (by rfl) rfl rfl (fun w hSw => (b3.ext hW0).mod hSw hBY) hself hok.self (by decide)) HH.out ?_
  change wpAnyH _ _ _ _ _ _ _ (Act.put _ (some 45) _) _
  simp only [Act.put, List.setIfInBounds_toArray, List.set_cons_zero, List.set_cons_succ]
  refine wpAnyH_take (i := 7) (v := ?_) rfl (by kernel_rfl) (by kernel_rfl) (by kernel_rfl) (fun _ _ _ h => h) (Or.inl ⟨by rfl, ?_⟩) HH.out ?_
  rotate_left
  · intro w hSw; go_simp; try with_reducible rfl
  change wpAnyH _ _ _ _ _ _ _ (Act.put _ (some 46) _) _
  simp only [Act.put, List.setIfInBounds_toArray, List.set_cons_zero, List.set_cons_succ]
  refine wpAnyH_take (i := 8) rfl (by kernel_rfl) (by kernel_rfl) (by kernel_rfl) (fun _ _ _ h => h) (yieldsIf_load1 (by rfl) _ _ rfl _ _ rfl onet96e _ (fun w hSw => ((b3.ext hW0).mod hSw hBY).cell (i := 5) (by decide))) HH.out ?_
  change wpAnyH _ _ _ _ _ _ _ (Act.put _ (some 47) _) _
  simp only [Act.put, List.setIfInBounds_toArray, List.set_cons_zero, List.set_cons_succ]
  refine wpAnyH_ready (rs := [9]) (by kernel_rfl) (by simp) ?_
  refine AllReadyH.cons rfl (fun K hK => ?_) AllReadyH.nil
  go_simp
  go_at_call 142; refine (zMove (h3.ext (by (repeat (first | with_reducible exact Ext.refl _ | with_reducible assumption | refine Ext.trans ?_ (by with_reducible assumption) | refine Ext.alloc ?_ _ _ | refine Ext.drew ?_ | refine Ext.drewN ?_ _)))) f.caller f.self hok.caller hok.self (dB 5) f.value (((hval.keep M0 hsY)).ext (by (repeat (first | with_reducible exact Ext.refl _ | with_reducible assumption | refine Ext.trans ?_ (by with_reducible assumption) | refine Ext.alloc ?_ _ _ | refine Ext.drew ?_ | refine Ext.drewN ?_ _)))) hok.value hl3 hl4).mono ?_; rintro e w8 ⟨c8, rfl, h8, hmY⟩
  refine hK.out _ _ ?_ (fun hHeld => ?_)
  · first | exact HH.out.trans hmY | exact HH.out.trans_ext he | exact HH.out
  clear hK K HH
  have HH : Hid (Mod (fun x => x = Y) W0 _) := hHeld
  clear hHeld
  refine wpAnyH_done (by kernel_rfl) ?_ _
  have M8 : Mod (· = Y) W3 w8 := (M0.trans_ext hW0).trans HH.out
  clear HH hW0
  go_upto_region 8 with ((with_reducible (refine Veil.out ?_; apply wl_storeC onet32e)); (case hx => rfl); (case hy => rfl); (case h1 => rfl); (case hB => exact h8.bY); (case hi => decide); rintro W9 b9 m9)
  have h9 := h8.putRet m9 (l := []) NL.nil b9
  have M9 : Mod (· = Y) W3 W9 := M8.trans m9
  have bb9 := b3.mod M9 hBY
  have hfr9 := hfr.keep M9 hsY (fun b hb => absurd hb id)
  obtain ⟨z, hz1, hz2⟩ := z147e
  refine w_ext ?_
  rintro W0 hW0
  refine wp_region_held_drew (S := fun w' => Mod (fun x => x = Y ∨ x = F) W0 w') (by kernel_rfl) (Mod.refl _ _).drew (fun hHeld => ?_)
  have HH : Hid (Mod (fun x => x = Y ∨ x = F) W0 _) := hHeld
  clear hHeld
  refine wpAnyH_take (i := 0) (v := ?_) rfl (by kernel_rfl) (by kernel_rfl) (by kernel_rfl) (fun _ _ _ h => h) (Or.inl ⟨by rfl, ?_⟩) HH.out ?_
  rotate_left
  · intro w hSw; go_simp; try with_reducible rfl
  change wpAnyH _ _ _ _ _ _ _ (Act.put _ (some 52) _) _
  simp only [Act.put, List.setIfInBounds_toArray, List.set_cons_zero, List.set_cons_succ]
  refine wpAnyH_take (i := 1) (v := ?_) rfl (by kernel_rfl) (by kernel_rfl) (by kernel_rfl) (fun _ _ _ h => h) (Or.inl ⟨by rfl, ?_⟩) HH.out ?_
  rotate_left
  · intro w hSw; go_simp; try with_reducible rfl
  change wpAnyH _ _ _ _ _ _ _ (Act.put _ (some 53) _) _
  simp only [Act.put, List.setIfInBounds_toArray, List.set_cons_zero, List.set_cons_succ]
  refine wpAnyH_take (i := 2) (v := ?_) rfl (by kernel_rfl) (by kernel_rfl) (by kernel_rfl) (fun _ _ _ h => h) (Or.inl ⟨by rfl, ?_⟩) HH.out ?_
  rotate_left
  · intro w hSw; go_simp; try with_reducible rfl
  change wpAnyH _ _ _ _ _ _ _ (Act.put _ (some 54) _) _
  simp only [Act.put, List.setIfInBounds_toArray, List.set_cons_zero, List.set_cons_succ]
  refine wpAnyH_take (i := 3) (v := ?_) rfl (by kernel_rfl) (by kernel_rfl) (by kernel_rfl) (fun _ _ _ h => h) (Or.inl ⟨by rfl, ?_⟩) HH.out ?_
  rotate_left
  · intro w hSw; go_simp; try with_reducible rfl
  change wpAnyH _ _ _ _ _ _ _ (Act.put _ (some 55) _) _
  simp only [Act.put, List.setIfInBounds_toArray, List.set_cons_zero, List.set_cons_succ]
  refine wpAnyH_take (i := 5) rfl (by kernel_rfl) (by kernel_rfl) (by kernel_rfl) (fun _ _ _ h => h) (yieldsRow rt147e (by rfl) rfl rfl (fun w hSw => (bb9.ext hW0).mod hSw (fun q => q.elim hBY hBF)) (by decide)) HH.out ?_
  change wpAnyH _ _ _ _ _ _ _ (Act.put _ (some 57) _) _
  simp only [Act.put, List.setIfInBounds_toArray, List.set_cons_zero, List.set_cons_succ]
  refine wpAnyH_ready (rs := [4, 6]) (by kernel_rfl) (by simp) ?_
  refine (AllReadyH.cons rfl (fun K hK => ?_) (AllReadyH.cons rfl (fun K hK => ?_) AllReadyH.nil))
  refine step_any rfl (op_loadK rfl onet101e rfl ((h9.bY.ext (by (repeat (first | with_reducible exact Ext.refl _ | with_reducible assumption | refine Ext.trans ?_ (by with_reducible assumption) | refine Ext.alloc ?_ _ _ | refine Ext.drew ?_ | refine Ext.drewN ?_ _)))).cell (i := 9) (by decide)) ?_)
  refine hK.out _ _ HH.out (fun hHeld => ?_)
  clear hK K HH
  have HH : Hid (Mod (fun x => x = Y ∨ x = F) W0 _) := hHeld
  clear hHeld
  change wpAnyH _ _ _ _ _ _ _ (Act.put _ (some 56) _) _
  simp only [Act.put, List.setIfInBounds_toArray, List.set_cons_zero, List.set_cons_succ]
  refine wpAnyH_ready (rs := [6]) (by kernel_rfl) (by simp) ?_
  refine AllReadyH.cons rfl (fun K hK => ?_) AllReadyH.nil
  refine step_any rfl (op_build1 156 Hvah.t156 z 60 rfl under101e info147e hz1 size147e hz2 (by decide) (by decide) (rowOf dB 0 60) (rowOf_size _ _ _) rfl ?_)
  rintro B9 W10 e10 r10 g10
  refine hK.out _ _ ?_ (fun hHeld => ?_)
  · exact HH.out.trans_ext e10
  clear hK K HH
  have HH : Hid (Mod (fun x => x = Y ∨ x = F) W0 _) := hHeld
  clear hHeld
  change wpAnyH _ _ _ _ _ _ _ (Act.put _ (some 58) _) _
  simp only [Act.put, List.setIfInBounds_toArray, List.set_cons_zero, List.set_cons_succ]
  refine wpAnyH_ready (rs := [7]) (by kernel_rfl) (by simp) ?_
  refine AllReadyH.cons rfl (fun K hK => ?_) AllReadyH.nil
  have h10 := h9.ext (show Ext W9 W10 by (repeat (first | with_reducible exact Ext.refl _ | with_reducible assumption | refine Ext.trans ?_ (by with_reducible assumption) | refine Ext.alloc ?_ _ _ | refine Ext.drew ?_ | refine Ext.drewN ?_ _)))
  refine step_appendV rfl _ _ 114 rfl 156 Hvah.t156 z 60 under101e info147e hz1 size147e hz2 bytes147e _ L.length F n d h10.fv (by omega) ⟨B9, 0, none⟩ 1 (rowOf dB 0 60).toList (by simp [rowOf_size]) r10 (fun u hu => hone60 u (by simpa using hu)) rfl rfl ?_
  rintro v' W11 b' d' hG
  have bY11 := grown_blk hG h10.bY h.ne
  have m11 : Mod (fun b => b = Y ∨ b = F) W10 W11 := by
    rcases hG.how with ⟨_, _, m⟩ | ⟨_, e⟩
    · exact m.sub (fun _ q => Or.inr q)
    · exact e.mod _
  refine hK.out _ _ ?_ (fun hHeld => ?_)
  · exact HH.out.trans m11
  clear hK K HH
  have HH : Hid (Mod (fun x => x = Y ∨ x = F) W0 _) := hHeld
  clear hHeld
  change wpAnyH _ _ _ _ _ _ _ (Act.put _ (some 59) _) _
  simp only [Act.put, List.setIfInBounds_toArray, List.set_cons_zero, List.set_cons_succ]
  refine wpAnyH_take (i := 8) (v := ?_) rfl (by kernel_rfl) (by kernel_rfl) (by kernel_rfl) (fun _ _ _ h => h) (Or.inl ⟨by rfl, ?_⟩) HH.out ?_
  rotate_left
  · intro w hSw; go_simp; try with_reducible rfl
  change wpAnyH _ _ _ _ _ _ _ (Act.put _ (some 60) _) _
  simp only [Act.put, List.setIfInBounds_toArray, List.set_cons_zero, List.set_cons_succ]
  refine wpAnyH_take (i := 9) (v := ?_) rfl (by kernel_rfl) (by kernel_rfl) (by kernel_rfl) (fun _ _ _ h => h) (Or.inl ⟨by rfl, ?_⟩) HH.out ?_
  rotate_left
  · intro w hSw; go_simp; try with_reducible rfl
  change wpAnyH _ _ _ _ _ _ _ (Act.put _ (some 61) _) _
  simp only [Act.put, List.setIfInBounds_toArray, List.set_cons_zero, List.set_cons_succ]
  refine wpAnyH_ready (rs := [10]) (by kernel_rfl) (by simp) ?_
  refine AllReadyH.cons rfl (fun K hK => ?_) AllReadyH.nil
  refine step_any rfl (op_store1 rfl onet101e rfl rfl (by obtain ⟨_, q⟩ := hG.some; rw [q]; rfl) bY11 (by decide) ?_)
  rintro W12 b12 m12
  refine hK.out _ _ ?_ (fun hHeld => ?_)
  · exact HH.out.trans (m12.sub (fun _ q => Or.inl q))
  clear hK K HH
  have HH : Hid (Mod (fun x => x = Y ∨ x = F) W0 _) := hHeld
  clear hHeld
  change wpAnyH _ _ _ _ _ _ _ (Act.put _ none _) _
  simp only [Act.put, List.setIfInBounds_toArray, List.set_cons_zero, List.set_cons_succ]
  refine wpAnyH_done (by kernel_rfl) ?_ _
  · obtain ⟨O', n', hZ, hOO, hM⟩ := h10.push (x := ⟨{ f with saved := st.now }, W, fun _ => False⟩) hG m12 b12 hfew (fun q => (hfr9.ext (show Ext W9 W10 by (repeat (first | with_reducible exact Ext.refl _ | with_reducible assumption | refine Ext.trans ?_ (by with_reducible assumption) | refine Ext.alloc ?_ _ _ | refine Ext.drew ?_ | refine Ext.drewN ?_ _)))).same (fun j hj => by rw [Nat.zero_add]; exact q j (dB j) (by rw [Array.getElem?_toList, rowOf_get, if_pos hj, Nat.zero_add]))) (fun b hb => hb)
    have hEnd : YEnt O TL w W12 Y F (W.move f.caller f.self f.value) start (st.enter f) tot (⟨{ f with saved := st.now }, W, fun _ => False⟩ :: L) := by
      have he : st.enter f = { st with now := (st.now.move f.caller f.self f.value), ret := [], frames := { f with saved := st.now } :: st.frames } := by simp [ASt.enter, hk, createsA]
      have hsz10 : w.heap.size ≤ W10.heap.size := Nat.le_trans E3.size (Nat.le_trans M9.size (Ext.size (show Ext W9 W10 by (repeat (first | with_reducible exact Ext.refl _ | with_reducible assumption | refine Ext.trans ?_ (by with_reducible assumption) | refine Ext.alloc ?_ _ _ | refine Ext.drew ?_ | refine Ext.drewN ?_ _)))))
      have hMM : Mod (fun b => b = Y ∨ b = F) w W12 := ((((E3.mod _).trans (M9.sub (fun _ q => Or.inl q))).trans_ext (show Ext W9 W10 by (repeat (first | with_reducible exact Ext.refl _ | with_reducible assumption | refine Ext.trans ?_ (by with_reducible assumption) | refine Ext.alloc ?_ _ _ | refine Ext.drew ?_ | refine Ext.drewN ?_ _))))).trans hM
      have hOO2 : ∀ b, b < w.heap.size → (O' b ↔ O b) := fun b hb => (hOO b (Nat.lt_of_lt_of_le hb hsz10)).trans ⟨fun q => q.elim id (fun q => by omega), Or.inl⟩
      rw [he]
      exact ⟨O', b', n', _, d', hZ, hOO2, hMM⟩
    clear hk
    go_wp2
    go_end0
    exact ⟨rfl, hEnd⟩
  refine step_any rfl (op_build1 156 Hvah.t156 z 60 rfl under101e info147e hz1 size147e hz2 (by decide) (by decide) (rowOf dB 0 60) (rowOf_size _ _ _) rfl ?_)
  rintro B9 W10 e10 r10 g10
  refine hK.out _ _ ?_ (fun hHeld => ?_)
  · exact HH.out.trans_ext e10
  clear hK K HH
  have HH : Hid (Mod (fun x => x = Y ∨ x = F) W0 _) := hHeld
  clear hHeld
  change wpAnyH _ _ _ _ _ _ _ (Act.put _ (some 58) _) _
  simp only [Act.put, List.setIfInBounds_toArray, List.set_cons_zero, List.set_cons_succ]
  refine wpAnyH_ready (rs := [4]) (by kernel_rfl) (by simp) ?_
  refine AllReadyH.cons rfl (fun K hK => ?_) AllReadyH.nil
  refine step_any rfl (op_loadK rfl onet101e rfl ((h9.bY.ext (by (repeat (first | with_reducible exact Ext.refl _ | with_reducible assumption | refine Ext.trans ?_ (by with_reducible assumption) | refine Ext.alloc ?_ _ _ | refine Ext.drew ?_ | refine Ext.drewN ?_ _)))).cell (i := 9) (by decide)) ?_)
  refine hK.out _ _ HH.out (fun hHeld => ?_)
  clear hK K HH
  have HH : Hid (Mod (fun x => x = Y ∨ x = F) W0 _) := hHeld
  clear hHeld
  change wpAnyH _ _ _ _ _ _ _ (Act.put _ (some 56) _) _
  simp only [Act.put, List.setIfInBounds_toArray, List.set_cons_zero, List.set_cons_succ]
  refine wpAnyH_ready (rs := [7]) (by kernel_rfl) (by simp) ?_
  refine AllReadyH.cons rfl (fun K hK => ?_) AllReadyH.nil
  have h10 := h9.ext (show Ext W9 W10 by (repeat (first | with_reducible exact Ext.refl _ | with_reducible assumption | refine Ext.trans ?_ (by with_reducible assumption) | refine Ext.alloc ?_ _ _ | refine Ext.drew ?_ | refine Ext.drewN ?_ _)))
  refine step_appendV rfl _ _ 114 rfl 156 Hvah.t156 z 60 under101e info147e hz1 size147e hz2 bytes147e _ L.length F n d h10.fv (by omega) ⟨B9, 0, none⟩ 1 (rowOf dB 0 60).toList (by simp [rowOf_size]) r10 (fun u hu => hone60 u (by simpa using hu)) rfl rfl ?_
  rintro v' W11 b' d' hG
  have bY11 := grown_blk hG h10.bY h.ne
  have m11 : Mod (fun b => b = Y ∨ b = F) W10 W11 := by
    rcases hG.how with ⟨_, _, m⟩ | ⟨_, e⟩
    · exact m.sub (fun _ q => Or.inr q)
    · exact e.mod _
  refine hK.out _ _ ?_ (fun hHeld => ?_)
  · exact HH.out.trans m11
  clear hK K HH
  have HH : Hid (Mod (fun x => x = Y ∨ x = F) W0 _) := hHeld
  clear hHeld
  change wpAnyH _ _ _ _ _ _ _ (Act.put _ (some 59) _) _
  simp only [Act.put, List.setIfInBounds_toArray, List.set_cons_zero, List.set_cons_succ]
  refine wpAnyH_take (i := 8) (v := ?_) rfl (by kernel_rfl) (by kernel_rfl) (by kernel_rfl) (fun _ _ _ h => h) (Or.inl ⟨by rfl, ?_⟩) HH.out ?_
  rotate_left
  · intro w hSw; go_simp; try with_reducible rfl
  change wpAnyH _ _ _ _ _ _ _ (Act.put _ (some 60) _) _
  simp only [Act.put, List.setIfInBounds_toArray, List.set_cons_zero, List.set_cons_succ]
  refine wpAnyH_take (i := 9) (v := ?_) rfl (by kernel_rfl) (by kernel_rfl) (by kernel_rfl) (fun _ _ _ h => h) (Or.inl ⟨by rfl, ?_⟩) HH.out ?_
  rotate_left
  · intro w hSw; go_simp; try with_reducible rfl
  change wpAnyH _ _ _ _ _ _ _ (Act.put _ (some 61) _) _
  simp only [Act.put, List.setIfInBounds_toArray, List.set_cons_zero, List.set_cons_succ]
  refine wpAnyH_ready (rs := [10]) (by kernel_rfl) (by simp) ?_
  refine AllReadyH.cons rfl (fun K hK => ?_) AllReadyH.nil
  refine step_any rfl (op_store1 rfl onet101e rfl rfl (by obtain ⟨_, q⟩ := hG.some; rw [q]; rfl) bY11 (by decide) ?_)
  rintro W12 b12 m12
  refine hK.out _ _ ?_ (fun hHeld => ?_)
  · exact HH.out.trans (m12.sub (fun _ q => Or.inl q))
  clear hK K HH
  have HH : Hid (Mod (fun x => x = Y ∨ x = F) W0 _) := hHeld
  clear hHeld
  change wpAnyH _ _ _ _ _ _ _ (Act.put _ none _) _
  simp only [Act.put, List.setIfInBounds_toArray, List.set_cons_zero, List.set_cons_succ]
  refine wpAnyH_done (by kernel_rfl) ?_ _
  · obtain ⟨O', n', hZ, hOO, hM⟩ := h10.push (x := ⟨{ f with saved := st.now }, W, fun _ => False⟩) hG m12 b12 hfew (fun q => (hfr9.ext (show Ext W9 W10 by (repeat (first | with_reducible exact Ext.refl _ | with_reducible assumption | refine Ext.trans ?_ (by with_reducible assumption) | refine Ext.alloc ?_ _ _ | refine Ext.drew ?_ | refine Ext.drewN ?_ _)))).same (fun j hj => by rw [Nat.zero_add]; exact q j (dB j) (by rw [Array.getElem?_toList, rowOf_get, if_pos hj, Nat.zero_add]))) (fun b hb => hb)
    have hEnd : YEnt O TL w W12 Y F (W.move f.caller f.self f.value) start (st.enter f) tot (⟨{ f with saved := st.now }, W, fun _ => False⟩ :: L) := by
      have he : st.enter f = { st with now := (st.now.move f.caller f.self f.value), ret := [], frames := { f with saved := st.now } :: st.frames } := by simp [ASt.enter, hk, createsA]
      have hsz10 : w.heap.size ≤ W10.heap.size := Nat.le_trans E3.size (Nat.le_trans M9.size (Ext.size (show Ext W9 W10 by (repeat (first | with_reducible exact Ext.refl _ | with_reducible assumption | refine Ext.trans ?_ (by with_reducible assumption) | refine Ext.alloc ?_ _ _ | refine Ext.drew ?_ | refine Ext.drewN ?_ _)))))
      have hMM : Mod (fun b => b = Y ∨ b = F) w W12 := ((((E3.mod _).trans (M9.sub (fun _ q => Or.inl q))).trans_ext (show Ext W9 W10 by (repeat (first | with_reducible exact Ext.refl _ | with_reducible assumption | refine Ext.trans ?_ (by with_reducible assumption) | refine Ext.alloc ?_ _ _ | refine Ext.drew ?_ | refine Ext.drewN ?_ _))))).trans hM
      have hOO2 : ∀ b, b < w.heap.size → (O' b ↔ O b) := fun b hb => (hOO b (Nat.lt_of_lt_of_le hb hsz10)).trans ⟨fun q => q.elim id (fun q => by omega), Or.inl⟩
      rw [he]
      exact ⟨O', b', n', _, d', hZ, hOO2, hMM⟩
    clear hk
    go_wp2
    go_end0
    exact ⟨rfl, hEnd⟩
set_option maxRecDepth 100000 in
set_option maxHeartbeats 6400000 in
theorem zEnter3 (HLG : ∀ {O T : Nat → Prop} {w : World} {v : Value} {l : List ALog}, Small O w → LogL T O w v l → l.length ≤ 100000 → Calls Hvah.prog 80 #[v] w fun e w' => ∃ r, e = .returned r ∧ GRow 141 22 (LgC O w') (fun b => ¬ O b) w' r l ∧ Full r ∧ Ext w w') (h : YZ O TL w Y F n c d W start st tot L) (fr : Array Value) (hsz : fr.size = 60) (hones : Ones fr) (f : AFrame) (hk : f.kind = 3) (hf : YFC O (fun _ => False) w (cf fr) 0 f) (hok : FOK f) (hsl : ∀ x ∈ W.accts, x.slots.length ≤ 90000) (hfew : L.length < 7) :
    Calls Hvah.prog 65 #[.pointer (some ⟨Y, 0, none⟩), .agg fr] w fun e w' => e = .returned (.tuple #[]) ∧ YEnt O TL w w' Y F W start (st.enter f) tot (⟨{ f with saved := st.now }, W, fun _ => False⟩ :: L) := by
  have hYl : Y < w.heap.size := h.bY.lt
  have hFl : F < w.heap.size := h.small F h.oF
  go_enter Hvah.func65, Hvah.ntmps65
  go_upto_region 1 with ((with_reducible (refine Veil.out ?_; apply wl_boxB)); (case hx => rfl); (case hn => exact hsz); rintro B W1 e1 b1 g1)
  have hBY : ¬ B = Y := by omega
  have hBF : ¬ B = F := by omega
  have h1 := h.wd e1 b1.lt g1
  obtain ⟨T, hT⟩ : ∃ T, LogL T (Wd O B) W1 (c 4) W.logs := h1.lg.elim (fun k => ⟨_, k⟩) (fun k => ⟨_, k.1⟩)
  have HC := fun W2 (q : Ext W1 W2) => yClone (w := W2) HLG (h1.ext q).small (h1.ext q).bY (h1.ext q).wc (GRow.ext hT q (fun _ _ _ k => k.ext q)) h1.lim hsl
  go_upto_region 2 with (first | (go_at_call 140; refine (HC _ (by (repeat (first | with_reducible exact Ext.refl _ | with_reducible assumption | refine Ext.trans ?_ (by with_reducible assumption) | refine Ext.alloc ?_ _ _ | refine Ext.drew ?_ | refine Ext.drewN ?_ _)))).mono ?_; rintro e w2 ⟨r, rfl, hr8, hro, hrw, hrl, hrf, e2⟩) | ((with_reducible (refine Veil.out ?_; apply wl_storeRow rt99e)); (case hx => rfl); (case hy => rfl); (case hr => exact hr8); (case h1 => exact hro); (case hB => exact b1.ext e2); (case hi => decide); rintro W3 b3 m3))
  have hfr := ye_frame h hf hok g1 e1 e2 m3 hr8 hrw hrl hrf
  have h3 : YZ (Wd O B) TL W3 Y F n c d W start st tot L := (h1.ext e2).keepS m3 (fun b hb q => hb (Or.inr q)) (fun q => hBY q.symm) (fun q => hBF q.symm) (fun x hx b hb q => by have := h.small b (h.tm x hx b hb).1; omega) (fun b hb q => by have := h.small b (h.tl b hb).1; omega)
  have M3 : Mod (· = B) w W3 := ((e1.trans e2).mod _).trans m3
  obtain ⟨dB, hdB⟩ : ∃ dB, dB = layv (cf fr) 52 r := ⟨_, rfl⟩
  rw [← hdB] at hfr b3
  have hone60 : Ones (rowOf dB 0 60) := ones_of (fun q hq => by
    rw [rowOf_size] at hq
    rw [cf_rowOf _ _ _ hq, Nat.zero_add, hdB]
    rcases Nat.lt_or_ge q 52 with k | k
    · rw [layv_out _ _ _ (Or.inl k)]; exact Ones.get hones (by omega)
    · have k2 := layv_in (cf fr) 52 r (j := q - 52) (by omega)
      rw [show 52 + (q - 52) = q by omega] at k2
      rw [k2]; exact Ones.get hro (by omega))
  have E3 : Ext w W3 := Ext.trans_mod (e1.trans e2) m3 (fun q hq => by have hq2 : q = B := hq; rw [hq2]; exact g1)
  have hk0 : dB 0 = .int .u8 3 := by have := hfr.fc.kind; simp only [hk] at this; exact this
  have hself : AAt dB 12 f.self := by have := hfr.fc.self; rwa [Nat.zero_add] at this
  have hcall : AAt dB 32 f.caller := by have := hfr.fc.caller; rwa [Nat.zero_add] at this
  have hsY : ∀ b, ¬ Wd O B b → ¬ b = Y := fun b hb q => hb (q ▸ h3.oY)
  clear HC hT hrw hrl hrf hf h1 hdB hones hro m3 b1
  go_upto_if 11 with (first | ((with_reducible (refine Veil.out ?_; apply wl_loadC onet5e)); (case hw => rfl); (case hx => rfl); (case hc => exact (b3.cell (i := 0) (by decide)).trans (congrArg some hk0))) | (go_at_call 141; refine (yCreates 3 (by decide)).mono ?_; rintro e w4 ⟨rfl, e4⟩; have e5 := e4.symm; subst e5))
  have M0 : Mod (· = Y) W3 W3 := Mod.refl _ _
  go_upto_if 38 with (first | ((with_reducible (refine Veil.out ?_; apply wl_loadC onet5e)); (case hw => rfl); (case hx => rfl); (case hc => exact (b3.cell (i := 0) (by decide)).trans (congrArg some hk0))))
  go_upto_region 8 with ((with_reducible (refine Veil.out ?_; apply wl_storeC onet32e)); (case hx => rfl); (case hy => rfl); (case h1 => rfl); (case hB => exact h3.bY); (case hi => decide); rintro W9 b9 m9)
  have h9 := h3.putRet m9 (l := []) NL.nil b9
  have M9 : Mod (· = Y) W3 W9 := M0.trans m9
  have bb9 := b3.mod M9 hBY
  have hfr9 := hfr.keep M9 hsY (fun b hb => absurd hb id)
  obtain ⟨z, hz1, hz2⟩ := z147e
  refine w_ext ?_
  rintro W0 hW0
  refine wp_region_held_drew (S := fun w' => Mod (fun x => x = Y ∨ x = F) W0 w') (by kernel_rfl) (Mod.refl _ _).drew (fun hHeld => ?_)
  have HH : Hid (Mod (fun x => x = Y ∨ x = F) W0 _) := hHeld
  clear hHeld
  refine wpAnyH_take (i := 0) (v := ?_) rfl (by kernel_rfl) (by kernel_rfl) (by kernel_rfl) (fun _ _ _ h => h) (Or.inl ⟨by rfl, ?_⟩) HH.out ?_
  rotate_left
  · intro w hSw; go_simp; try with_reducible rfl
  change wpAnyH _ _ _ _ _ _ _ (Act.put _ (some 52) _) _
  simp only [Act.put, List.setIfInBounds_toArray, List.set_cons_zero, List.set_cons_succ]
  refine wpAnyH_take (i := 1) (v := ?_) rfl (by kernel_rfl) (by kernel_rfl) (by kernel_rfl) (fun _ _ _ h => h) (Or.inl ⟨by rfl, ?_⟩) HH.out ?_
  rotate_left
  · intro w hSw; go_simp; try with_reducible rfl
  change wpAnyH _ _ _ _ _ _ _ (Act.put _ (some 53) _) _
  simp only [Act.put, List.setIfInBounds_toArray, List.set_cons_zero, List.set_cons_succ]
  refine wpAnyH_take (i := 2) (v := ?_) rfl (by kernel_rfl) (by kernel_rfl) (by kernel_rfl) (fun _ _ _ h => h) (Or.inl ⟨by rfl, ?_⟩) HH.out ?_
  rotate_left
  · intro w hSw; go_simp; try with_reducible rfl
  change wpAnyH _ _ _ _ _ _ _ (Act.put _ (some 54) _) _
  simp only [Act.put, List.setIfInBounds_toArray, List.set_cons_zero, List.set_cons_succ]
  refine wpAnyH_take (i := 3) (v := ?_) rfl (by kernel_rfl) (by kernel_rfl) (by kernel_rfl) (fun _ _ _ h => h) (Or.inl ⟨by rfl, ?_⟩) HH.out ?_
  rotate_left
  · intro w hSw; go_simp; try with_reducible rfl
  change wpAnyH _ _ _ _ _ _ _ (Act.put _ (some 55) _) _
  simp only [Act.put, List.setIfInBounds_toArray, List.set_cons_zero, List.set_cons_succ]
  refine wpAnyH_take (i := 5) rfl (by kernel_rfl) (by kernel_rfl) (by kernel_rfl) (fun _ _ _ h => h) (yieldsRow rt147e (by rfl) rfl rfl (fun w hSw => (bb9.ext hW0).mod hSw (fun q => q.elim hBY hBF)) (by decide)) HH.out ?_
  change wpAnyH _ _ _ _ _ _ _ (Act.put _ (some 57) _) _
  simp only [Act.put, List.setIfInBounds_toArray, List.set_cons_zero, List.set_cons_succ]
  refine wpAnyH_ready (rs := [4, 6]) (by kernel_rfl) (by simp) ?_
  refine (AllReadyH.cons rfl (fun K hK => ?_) (AllReadyH.cons rfl (fun K hK => ?_) AllReadyH.nil))
  refine step_any rfl (op_loadK rfl onet101e rfl ((h9.bY.ext (by (repeat (first | with_reducible exact Ext.refl _ | with_reducible assumption | refine Ext.trans ?_ (by with_reducible assumption) | refine Ext.alloc ?_ _ _ | refine Ext.drew ?_ | refine Ext.drewN ?_ _)))).cell (i := 9) (by decide)) ?_)
  refine hK.out _ _ HH.out (fun hHeld => ?_)
  clear hK K HH
  have HH : Hid (Mod (fun x => x = Y ∨ x = F) W0 _) := hHeld
  clear hHeld
  change wpAnyH _ _ _ _ _ _ _ (Act.put _ (some 56) _) _
  simp only [Act.put, List.setIfInBounds_toArray, List.set_cons_zero, List.set_cons_succ]
  refine wpAnyH_ready (rs := [6]) (by kernel_rfl) (by simp) ?_
  refine AllReadyH.cons rfl (fun K hK => ?_) AllReadyH.nil
  refine step_any rfl (op_build1 156 Hvah.t156 z 60 rfl under101e info147e hz1 size147e hz2 (by decide) (by decide) (rowOf dB 0 60) (rowOf_size _ _ _) rfl ?_)
  rintro B9 W10 e10 r10 g10
  refine hK.out _ _ ?_ (fun hHeld => ?_)
  · exact HH.out.trans_ext e10
  clear hK K HH
  have HH : Hid (Mod (fun x => x = Y ∨ x = F) W0 _) := hHeld
  clear hHeld
  change wpAnyH _ _ _ _ _ _ _ (Act.put _ (some 58) _) _
  simp only [Act.put, List.setIfInBounds_toArray, List.set_cons_zero, List.set_cons_succ]
  refine wpAnyH_ready (rs := [7]) (by kernel_rfl) (by simp) ?_
  refine AllReadyH.cons rfl (fun K hK => ?_) AllReadyH.nil
  have h10 := h9.ext (show Ext W9 W10 by (repeat (first | with_reducible exact Ext.refl _ | with_reducible assumption | refine Ext.trans ?_ (by with_reducible assumption) | refine Ext.alloc ?_ _ _ | refine Ext.drew ?_ | refine Ext.drewN ?_ _)))
  refine step_appendV rfl _ _ 114 rfl 156 Hvah.t156 z 60 under101e info147e hz1 size147e hz2 bytes147e _ L.length F n d h10.fv (by omega) ⟨B9, 0, none⟩ 1 (rowOf dB 0 60).toList (by simp [rowOf_size]) r10 (fun u hu => hone60 u (by simpa using hu)) rfl rfl ?_
  rintro v' W11 b' d' hG
  have bY11 := grown_blk hG h10.bY h.ne
  have m11 : Mod (fun b => b = Y ∨ b = F) W10 W11 := by
    rcases hG.how with ⟨_, _, m⟩ | ⟨_, e⟩
    · exact m.sub (fun _ q => Or.inr q)
    · exact e.mod _
  refine hK.out _ _ ?_ (fun hHeld => ?_)
  · exact HH.out.trans m11
  clear hK K HH
  have HH : Hid (Mod (fun x => x = Y ∨ x = F) W0 _) := hHeld
  clear hHeld
  change wpAnyH _ _ _ _ _ _ _ (Act.put _ (some 59) _) _
  simp only [Act.put, List.setIfInBounds_toArray, List.set_cons_zero, List.set_cons_succ]
  refine wpAnyH_take (i := 8) (v := ?_) rfl (by kernel_rfl) (by kernel_rfl) (by kernel_rfl) (fun _ _ _ h => h) (Or.inl ⟨by rfl, ?_⟩) HH.out ?_
  rotate_left
  · intro w hSw; go_simp; try with_reducible rfl
  change wpAnyH _ _ _ _ _ _ _ (Act.put _ (some 60) _) _
  simp only [Act.put, List.setIfInBounds_toArray, List.set_cons_zero, List.set_cons_succ]
  refine wpAnyH_take (i := 9) (v := ?_) rfl (by kernel_rfl) (by kernel_rfl) (by kernel_rfl) (fun _ _ _ h => h) (Or.inl ⟨by rfl, ?_⟩) HH.out ?_
  rotate_left
  · intro w hSw; go_simp; try with_reducible rfl
  change wpAnyH _ _ _ _ _ _ _ (Act.put _ (some 61) _) _
  simp only [Act.put, List.setIfInBounds_toArray, List.set_cons_zero, List.set_cons_succ]
  refine wpAnyH_ready (rs := [10]) (by kernel_rfl) (by simp) ?_
  refine AllReadyH.cons rfl (fun K hK => ?_) AllReadyH.nil
  refine step_any rfl (op_store1 rfl onet101e rfl rfl (by obtain ⟨_, q⟩ := hG.some; rw [q]; rfl) bY11 (by decide) ?_)
  rintro W12 b12 m12
  refine hK.out _ _ ?_ (fun hHeld => ?_)
  · exact HH.out.trans (m12.sub (fun _ q => Or.inl q))
  clear hK K HH
  have HH : Hid (Mod (fun x => x = Y ∨ x = F) W0 _) := hHeld
  clear hHeld
  change wpAnyH _ _ _ _ _ _ _ (Act.put _ none _) _
  simp only [Act.put, List.setIfInBounds_toArray, List.set_cons_zero, List.set_cons_succ]
  refine wpAnyH_done (by kernel_rfl) ?_ _
  · obtain ⟨O', n', hZ, hOO, hM⟩ := h10.push (x := ⟨{ f with saved := st.now }, W, fun _ => False⟩) hG m12 b12 hfew (fun q => (hfr9.ext (show Ext W9 W10 by (repeat (first | with_reducible exact Ext.refl _ | with_reducible assumption | refine Ext.trans ?_ (by with_reducible assumption) | refine Ext.alloc ?_ _ _ | refine Ext.drew ?_ | refine Ext.drewN ?_ _)))).same (fun j hj => by rw [Nat.zero_add]; exact q j (dB j) (by rw [Array.getElem?_toList, rowOf_get, if_pos hj, Nat.zero_add]))) (fun b hb => hb)
    have hEnd : YEnt O TL w W12 Y F W start (st.enter f) tot (⟨{ f with saved := st.now }, W, fun _ => False⟩ :: L) := by
      have he : st.enter f = { st with now := st.now, ret := [], frames := { f with saved := st.now } :: st.frames } := by simp [ASt.enter, hk, createsA]
      have hsz10 : w.heap.size ≤ W10.heap.size := Nat.le_trans E3.size (Nat.le_trans M9.size (Ext.size (show Ext W9 W10 by (repeat (first | with_reducible exact Ext.refl _ | with_reducible assumption | refine Ext.trans ?_ (by with_reducible assumption) | refine Ext.alloc ?_ _ _ | refine Ext.drew ?_ | refine Ext.drewN ?_ _)))))
      have hMM : Mod (fun b => b = Y ∨ b = F) w W12 := ((((E3.mod _).trans (M9.sub (fun _ q => Or.inl q))).trans_ext (show Ext W9 W10 by (repeat (first | with_reducible exact Ext.refl _ | with_reducible assumption | refine Ext.trans ?_ (by with_reducible assumption) | refine Ext.alloc ?_ _ _ | refine Ext.drew ?_ | refine Ext.drewN ?_ _))))).trans hM
      have hOO2 : ∀ b, b < w.heap.size → (O' b ↔ O b) := fun b hb => (hOO b (Nat.lt_of_lt_of_le hb hsz10)).trans ⟨fun q => q.elim id (fun q => by omega), Or.inl⟩
      rw [he]
      exact ⟨O', b', n', _, d', hZ, hOO2, hMM⟩
    clear hk
    go_wp2
    go_end0
    exact ⟨rfl, hEnd⟩
  refine step_any rfl (op_build1 156 Hvah.t156 z 60 rfl under101e info147e hz1 size147e hz2 (by decide) (by decide) (rowOf dB 0 60) (rowOf_size _ _ _) rfl ?_)
  rintro B9 W10 e10 r10 g10
  refine hK.out _ _ ?_ (fun hHeld => ?_)
  · exact HH.out.trans_ext e10
  clear hK K HH
  have HH : Hid (Mod (fun x => x = Y ∨ x = F) W0 _) := hHeld
  clear hHeld
  change wpAnyH _ _ _ _ _ _ _ (Act.put _ (some 58) _) _
  simp only [Act.put, List.setIfInBounds_toArray, List.set_cons_zero, List.set_cons_succ]
  refine wpAnyH_ready (rs := [4]) (by kernel_rfl) (by simp) ?_
  refine AllReadyH.cons rfl (fun K hK => ?_) AllReadyH.nil
  refine step_any rfl (op_loadK rfl onet101e rfl ((h9.bY.ext (by (repeat (first | with_reducible exact Ext.refl _ | with_reducible assumption | refine Ext.trans ?_ (by with_reducible assumption) | refine Ext.alloc ?_ _ _ | refine Ext.drew ?_ | refine Ext.drewN ?_ _)))).cell (i := 9) (by decide)) ?_)
  refine hK.out _ _ HH.out (fun hHeld => ?_)
  clear hK K HH
  have HH : Hid (Mod (fun x => x = Y ∨ x = F) W0 _) := hHeld
  clear hHeld
  change wpAnyH _ _ _ _ _ _ _ (Act.put _ (some 56) _) _
  simp only [Act.put, List.setIfInBounds_toArray, List.set_cons_zero, List.set_cons_succ]
  refine wpAnyH_ready (rs := [7]) (by kernel_rfl) (by simp) ?_
  refine AllReadyH.cons rfl (fun K hK => ?_) AllReadyH.nil
  have h10 := h9.ext (show Ext W9 W10 by (repeat (first | with_reducible exact Ext.refl _ | with_reducible assumption | refine Ext.trans ?_ (by with_reducible assumption) | refine Ext.alloc ?_ _ _ | refine Ext.drew ?_ | refine Ext.drewN ?_ _)))
  refine step_appendV rfl _ _ 114 rfl 156 Hvah.t156 z 60 under101e info147e hz1 size147e hz2 bytes147e _ L.length F n d h10.fv (by omega) ⟨B9, 0, none⟩ 1 (rowOf dB 0 60).toList (by simp [rowOf_size]) r10 (fun u hu => hone60 u (by simpa using hu)) rfl rfl ?_
  rintro v' W11 b' d' hG
  have bY11 := grown_blk hG h10.bY h.ne
  have m11 : Mod (fun b => b = Y ∨ b = F) W10 W11 := by
    rcases hG.how with ⟨_, _, m⟩ | ⟨_, e⟩
    · exact m.sub (fun _ q => Or.inr q)
    · exact e.mod _
  refine hK.out _ _ ?_ (fun hHeld => ?_)
  · exact HH.out.trans m11
  clear hK K HH
  have HH : Hid (Mod (fun x => x = Y ∨ x = F) W0 _) := hHeld
  clear hHeld
  change wpAnyH _ _ _ _ _ _ _ (Act.put _ (some 59) _) _
  simp only [Act.put, List.setIfInBounds_toArray, List.set_cons_zero, List.set_cons_succ]
  refine wpAnyH_take (i := 8) (v := ?_) rfl (by kernel_rfl) (by kernel_rfl) (by kernel_rfl) (fun _ _ _ h => h) (Or.inl ⟨by rfl, ?_⟩) HH.out ?_
  rotate_left
  · intro w hSw; go_simp; try with_reducible rfl
  change wpAnyH _ _ _ _ _ _ _ (Act.put _ (some 60) _) _
  simp only [Act.put, List.setIfInBounds_toArray, List.set_cons_zero, List.set_cons_succ]
  refine wpAnyH_take (i := 9) (v := ?_) rfl (by kernel_rfl) (by kernel_rfl) (by kernel_rfl) (fun _ _ _ h => h) (Or.inl ⟨by rfl, ?_⟩) HH.out ?_
  rotate_left
  · intro w hSw; go_simp; try with_reducible rfl
  change wpAnyH _ _ _ _ _ _ _ (Act.put _ (some 61) _) _
  simp only [Act.put, List.setIfInBounds_toArray, List.set_cons_zero, List.set_cons_succ]
  refine wpAnyH_ready (rs := [10]) (by kernel_rfl) (by simp) ?_
  refine AllReadyH.cons rfl (fun K hK => ?_) AllReadyH.nil
  refine step_any rfl (op_store1 rfl onet101e rfl rfl (by obtain ⟨_, q⟩ := hG.some; rw [q]; rfl) bY11 (by decide) ?_)
  rintro W12 b12 m12
  refine hK.out _ _ ?_ (fun hHeld => ?_)
  · exact HH.out.trans (m12.sub (fun _ q => Or.inl q))
  clear hK K HH
  have HH : Hid (Mod (fun x => x = Y ∨ x = F) W0 _) := hHeld
  clear hHeld
  change wpAnyH _ _ _ _ _ _ _ (Act.put _ none _) _
  simp only [Act.put, List.setIfInBounds_toArray, List.set_cons_zero, List.set_cons_succ]
  refine wpAnyH_done (by kernel_rfl) ?_ _
  · obtain ⟨O', n', hZ, hOO, hM⟩ := h10.push (x := ⟨{ f with saved := st.now }, W, fun _ => False⟩) hG m12 b12 hfew (fun q => (hfr9.ext (show Ext W9 W10 by (repeat (first | with_reducible exact Ext.refl _ | with_reducible assumption | refine Ext.trans ?_ (by with_reducible assumption) | refine Ext.alloc ?_ _ _ | refine Ext.drew ?_ | refine Ext.drewN ?_ _)))).same (fun j hj => by rw [Nat.zero_add]; exact q j (dB j) (by rw [Array.getElem?_toList, rowOf_get, if_pos hj, Nat.zero_add]))) (fun b hb => hb)
    have hEnd : YEnt O TL w W12 Y F W start (st.enter f) tot (⟨{ f with saved := st.now }, W, fun _ => False⟩ :: L) := by
      have he : st.enter f = { st with now := st.now, ret := [], frames := { f with saved := st.now } :: st.frames } := by simp [ASt.enter, hk, createsA]
      have hsz10 : w.heap.size ≤ W10.heap.size := Nat.le_trans E3.size (Nat.le_trans M9.size (Ext.size (show Ext W9 W10 by (repeat (first | with_reducible exact Ext.refl _ | with_reducible assumption | refine Ext.trans ?_ (by with_reducible assumption) | refine Ext.alloc ?_ _ _ | refine Ext.drew ?_ | refine Ext.drewN ?_ _)))))
      have hMM : Mod (fun b => b = Y ∨ b = F) w W12 := ((((E3.mod _).trans (M9.sub (fun _ q => Or.inl q))).trans_ext (show Ext W9 W10 by (repeat (first | with_reducible exact Ext.refl _ | with_reducible assumption | refine Ext.trans ?_ (by with_reducible assumption) | refine Ext.alloc ?_ _ _ | refine Ext.drew ?_ | refine Ext.drewN ?_ _))))).trans hM
      have hOO2 : ∀ b, b < w.heap.size → (O' b ↔ O b) := fun b hb => (hOO b (Nat.lt_of_lt_of_le hb hsz10)).trans ⟨fun q => q.elim id (fun q => by omega), Or.inl⟩
      rw [he]
      exact ⟨O', b', n', _, d', hZ, hOO2, hMM⟩
    clear hk
    go_wp2
    go_end0
    exact ⟨rfl, hEnd⟩
set_option maxRecDepth 100000 in
set_option maxHeartbeats 6400000 in
theorem zEnter4 (HLG : ∀ {O T : Nat → Prop} {w : World} {v : Value} {l : List ALog}, Small O w → LogL T O w v l → l.length ≤ 100000 → Calls Hvah.prog 80 #[v] w fun e w' => ∃ r, e = .returned r ∧ GRow 141 22 (LgC O w') (fun b => ¬ O b) w' r l ∧ Full r ∧ Ext w w') (h : YZ O TL w Y F n c d W start st tot L) (fr : Array Value) (hsz : fr.size = 60) (hones : Ones fr) (f : AFrame) (hk : f.kind = 4) (hf : YFC O (fun _ => False) w (cf fr) 0 f) (hok : FOK f) (hsl : ∀ x ∈ W.accts, x.slots.length ≤ 90000) (hfew : L.length < 7) (hl3 : YLim (W.setBal f.caller ((W.acct f.caller).bal - f.value))) (hl4 : YLim (W.move f.caller f.self f.value)) :
    Calls Hvah.prog 65 #[.pointer (some ⟨Y, 0, none⟩), .agg fr] w fun e w' => e = .returned (.tuple #[]) ∧ YEnt O TL w w' Y F (W.move f.caller f.self f.value) start (st.enter f) tot (⟨{ f with saved := st.now }, W, fun _ => False⟩ :: L) := by
  have hYl : Y < w.heap.size := h.bY.lt
  have hFl : F < w.heap.size := h.small F h.oF
  go_enter Hvah.func65, Hvah.ntmps65
  go_upto_region 1 with ((with_reducible (refine Veil.out ?_; apply wl_boxB)); (case hx => rfl); (case hn => exact hsz); rintro B W1 e1 b1 g1)
  have hBY : ¬ B = Y := by omega
  have hBF : ¬ B = F := by omega
  have h1 := h.wd e1 b1.lt g1
  obtain ⟨T, hT⟩ : ∃ T, LogL T (Wd O B) W1 (c 4) W.logs := h1.lg.elim (fun k => ⟨_, k⟩) (fun k => ⟨_, k.1⟩)
  have HC := fun W2 (q : Ext W1 W2) => yClone (w := W2) HLG (h1.ext q).small (h1.ext q).bY (h1.ext q).wc (GRow.ext hT q (fun _ _ _ k => k.ext q)) h1.lim hsl
  go_upto_region 2 with (first | (go_at_call 140; refine (HC _ (by (repeat (first | with_reducible exact Ext.refl _ | with_reducible assumption | refine Ext.trans ?_ (by with_reducible assumption) | refine Ext.alloc ?_ _ _ | refine Ext.drew ?_ | refine Ext.drewN ?_ _)))).mono ?_; rintro e w2 ⟨r, rfl, hr8, hro, hrw, hrl, hrf, e2⟩) | ((with_reducible (refine Veil.out ?_; apply wl_storeRow rt99e)); (case hx => rfl); (case hy => rfl); (case hr => exact hr8); (case h1 => exact hro); (case hB => exact b1.ext e2); (case hi => decide); rintro W3 b3 m3))
  have hfr := ye_frame h hf hok g1 e1 e2 m3 hr8 hrw hrl hrf
  have h3 : YZ (Wd O B) TL W3 Y F n c d W start st tot L := (h1.ext e2).keepS m3 (fun b hb q => hb (Or.inr q)) (fun q => hBY q.symm) (fun q => hBF q.symm) (fun x hx b hb q => by have := h.small b (h.tm x hx b hb).1; omega) (fun b hb q => by have := h.small b (h.tl b hb).1; omega)
  have M3 : Mod (· = B) w W3 := ((e1.trans e2).mod _).trans m3
  obtain ⟨dB, hdB⟩ : ∃ dB, dB = layv (cf fr) 52 r := ⟨_, rfl⟩
  rw [← hdB] at hfr b3
  have hone60 : Ones (rowOf dB 0 60) := ones_of (fun q hq => by
    rw [rowOf_size] at hq
    rw [cf_rowOf _ _ _ hq, Nat.zero_add, hdB]
    rcases Nat.lt_or_ge q 52 with k | k
    · rw [layv_out _ _ _ (Or.inl k)]; exact Ones.get hones (by omega)
    · have k2 := layv_in (cf fr) 52 r (j := q - 52) (by omega)
      rw [show 52 + (q - 52) = q by omega] at k2
      rw [k2]; exact Ones.get hro (by omega))
  have E3 : Ext w W3 := Ext.trans_mod (e1.trans e2) m3 (fun q hq => by have hq2 : q = B := hq; rw [hq2]; exact g1)
  have hk0 : dB 0 = .int .u8 4 := by have := hfr.fc.kind; simp only [hk] at this; exact this
  have hself : AAt dB 12 f.self := by have := hfr.fc.self; rwa [Nat.zero_add] at this
  have hcall : AAt dB 32 f.caller := by have := hfr.fc.caller; rwa [Nat.zero_add] at this
  have hsY : ∀ b, ¬ Wd O B b → ¬ b = Y := fun b hb q => hb (q ▸ h3.oY)
  clear HC hT hrw hrl hrf hf h1 hdB hones hro m3 b1
  go_upto_if 11 with (first | ((with_reducible (refine Veil.out ?_; apply wl_loadC onet5e)); (case hw => rfl); (case hx => rfl); (case hc => exact (b3.cell (i := 0) (by decide)).trans (congrArg some hk0))) | (go_at_call 141; refine (yCreates 4 (by decide)).mono ?_; rintro e w4 ⟨rfl, e4⟩; have e5 := e4.symm; subst e5))
  have hval : NV (Wd O B) W3 (dB 5) f.value := hfr.fc.value
  have M0 : Mod (· = Y) W3 W3 := Mod.refl _ _
  go_upto_if 38 with (first | ((with_reducible (refine Veil.out ?_; apply wl_loadC onet5e)); (case hw => rfl); (case hx => rfl); (case hc => exact (b3.cell (i := 0) (by decide)).trans (congrArg some hk0))))
  go_upto_region 6 with (fail)
  refine w_ext ?_
  rintro W0 hW0
  refine wp_region_held_drew (S := fun w' => Mod (fun x => x = Y) W0 w') (by kernel_rfl) (Mod.refl _ _).drew (fun hHeld => ?_)
  have HH : Hid (Mod (fun x => x = Y) W0 _) := hHeld
  clear hHeld
  refine wpAnyH_take (i := 0) (v := ?_) rfl (by kernel_rfl) (by kernel_rfl) (by kernel_rfl) (fun _ _ _ h => h) (Or.inl ⟨by rfl, ?_⟩) HH.out ?_
  rotate_left
  · intro w hSw; go_simp; try with_reducible rfl
  change wpAnyH _ _ _ _ _ _ _ (Act.put _ (some 39) _) _
  simp only [Act.put, List.setIfInBounds_toArray, List.set_cons_zero, List.set_cons_succ]
  refine wpAnyH_take (i := 1) (v := ?_) rfl (by kernel_rfl) (by kernel_rfl) (by kernel_rfl) (fun _ _ _ h => h) (Or.inl ⟨by rfl, ?_⟩) HH.out ?_
  rotate_left
  · intro w hSw; go_simp; try with_reducible rfl
  change wpAnyH _ _ _ _ _ _ _ (Act.put _ (some 40) _) _
  simp only [Act.put, List.setIfInBounds_toArray, List.set_cons_zero, List.set_cons_succ]
  refine wpAnyH_take (i := 2) (v := ?_) rfl (by kernel_rfl) (by kernel_rfl) (by kernel_rfl) (fun _ _ _ h => h) (Or.inl ⟨by rfl, ?_⟩) HH.out ?_
  rotate_left
  · intro w hSw; go_simp; try with_reducible rfl
  change wpAnyH _ _ _ _ _ _ _ (Act.put _ (some 41) _) _
  simp only [Act.put, List.setIfInBounds_toArray, List.set_cons_zero, List.set_cons_succ]
  refine wpAnyH_take (i := 3) (v := ?_) rfl (by kernel_rfl) (by kernel_rfl) (by kernel_rfl) (fun _ _ _ h => h) (Or.inl ⟨by rfl, ?_⟩) HH.out ?_
  rotate_left
  · intro w hSw; go_simp; try with_reducible rfl
  change wpAnyH _ _ _ _ _ _ _ (Act.put _ (some 42) _) _
  simp only [Act.put, List.setIfInBounds_toArray, List.set_cons_zero, List.set_cons_succ]
  refine wpAnyH_take (i := 4) rfl (by kernel_rfl) (by kernel_rfl) (by kernel_rfl) (fun _ _ _ h => h) (yields_A (by rfl) rfl rfl (fun w hSw => (b3.ext hW0).mod hSw hBY) hcall hok.caller (by decide)) HH.out ?_
  change wpAnyH _ _ _ _ _ _ _ (Act.put _ (some 43) _) _
  simp only [Act.put, List.setIfInBounds_toArray, List.set_cons_zero, List.set_cons_succ]
  refine wpAnyH_take (i := 5) (v := ?_) rfl (by kernel_rfl) (by kernel_rfl) (by kernel_rfl) (fun _ _ _ h => h) (Or.inl ⟨by rfl, ?_⟩) HH.out ?_
  rotate_left
  · intro w hSw; go_simp; try with_reducible rfl
  change wpAnyH _ _ _ _ _ _ _ (Act.put _ (some 44) _) _
  simp only [Act.put, List.setIfInBounds_toArray, List.set_cons_zero, List.set_cons_succ]
  refine wpAnyH_take (i := 6) rfl (by kernel_rfl) (by kernel_rfl) (by kernel_rfl) (fun _ _ _ h => h) (yields_A (by rfl) rfl rfl (fun w hSw => (b3.ext hW0).mod hSw hBY) hself hok.self (by decide)) HH.out ?_
  change wpAnyH _ _ _ _ _ _ _ (Act.put _ (some 45) _) _
  simp only [Act.put, List.setIfInBounds_toArray, List.set_cons_zero, List.set_cons_succ]
  refine wpAnyH_take (i := 7) (v := ?_) rfl (by kernel_rfl) (by kernel_rfl) (by kernel_rfl) (fun _ _ _ h => h) (Or.inl ⟨by rfl, ?_⟩) HH.out ?_
  rotate_left
  · intro w hSw; go_simp; try with_reducible rfl
  change wpAnyH _ _ _ _ _ _ _ (Act.put _ (some 46) _) _
  simp only [Act.put, List.setIfInBounds_toArray, List.set_cons_zero, List.set_cons_succ]
  refine wpAnyH_take (i := 8) rfl (by kernel_rfl) (by kernel_rfl) (by kernel_rfl) (fun _ _ _ h => h) (yieldsIf_load1 (by rfl) _ _ rfl _ _ rfl onet96e _ (fun w hSw => ((b3.ext hW0).mod hSw hBY).cell (i := 5) (by decide))) HH.out ?_
  change wpAnyH _ _ _ _ _ _ _ (Act.put _ (some 47) _) _
  simp only [Act.put, List.setIfInBounds_toArray, List.set_cons_zero, List.set_cons_succ]
  refine wpAnyH_ready (rs := [9]) (by kernel_rfl) (by simp) ?_
  refine AllReadyH.cons rfl (fun K hK => ?_) AllReadyH.nil
  go_simp
  go_at_call 142; refine (zMove (h3.ext (by (repeat (first | with_reducible exact Ext.refl _ | with_reducible assumption | refine Ext.trans ?_ (by with_reducible assumption) | refine Ext.alloc ?_ _ _ | refine Ext.drew ?_ | refine Ext.drewN ?_ _)))) f.caller f.self hok.caller hok.self (dB 5) f.value (((hval.keep M0 hsY)).ext (by (repeat (first | with_reducible exact Ext.refl _ | with_reducible assumption | refine Ext.trans ?_ (by with_reducible assumption) | refine Ext.alloc ?_ _ _ | refine Ext.drew ?_ | refine Ext.drewN ?_ _)))) hok.value hl3 hl4).mono ?_; rintro e w8 ⟨c8, rfl, h8, hmY⟩
  refine hK.out _ _ ?_ (fun hHeld => ?_)
  · first | exact HH.out.trans hmY | exact HH.out.trans_ext he | exact HH.out
  clear hK K HH
  have HH : Hid (Mod (fun x => x = Y) W0 _) := hHeld
  clear hHeld
  refine wpAnyH_done (by kernel_rfl) ?_ _
  have M8 : Mod (· = Y) W3 w8 := (M0.trans_ext hW0).trans HH.out
  clear HH hW0
  go_upto_region 8 with ((with_reducible (refine Veil.out ?_; apply wl_storeC onet32e)); (case hx => rfl); (case hy => rfl); (case h1 => rfl); (case hB => exact h8.bY); (case hi => decide); rintro W9 b9 m9)
  have h9 := h8.putRet m9 (l := []) NL.nil b9
  have M9 : Mod (· = Y) W3 W9 := M8.trans m9
  have bb9 := b3.mod M9 hBY
  have hfr9 := hfr.keep M9 hsY (fun b hb => absurd hb id)
  obtain ⟨z, hz1, hz2⟩ := z147e
  refine w_ext ?_
  rintro W0 hW0
  refine wp_region_held_drew (S := fun w' => Mod (fun x => x = Y ∨ x = F) W0 w') (by kernel_rfl) (Mod.refl _ _).drew (fun hHeld => ?_)
  have HH : Hid (Mod (fun x => x = Y ∨ x = F) W0 _) := hHeld
  clear hHeld
  refine wpAnyH_take (i := 0) (v := ?_) rfl (by kernel_rfl) (by kernel_rfl) (by kernel_rfl) (fun _ _ _ h => h) (Or.inl ⟨by rfl, ?_⟩) HH.out ?_
  rotate_left
  · intro w hSw; go_simp; try with_reducible rfl
  change wpAnyH _ _ _ _ _ _ _ (Act.put _ (some 52) _) _
  simp only [Act.put, List.setIfInBounds_toArray, List.set_cons_zero, List.set_cons_succ]
  refine wpAnyH_take (i := 1) (v := ?_) rfl (by kernel_rfl) (by kernel_rfl) (by kernel_rfl) (fun _ _ _ h => h) (Or.inl ⟨by rfl, ?_⟩) HH.out ?_
  rotate_left
  · intro w hSw; go_simp; try with_reducible rfl
  change wpAnyH _ _ _ _ _ _ _ (Act.put _ (some 53) _) _
  simp only [Act.put, List.setIfInBounds_toArray, List.set_cons_zero, List.set_cons_succ]
  refine wpAnyH_take (i := 2) (v := ?_) rfl (by kernel_rfl) (by kernel_rfl) (by kernel_rfl) (fun _ _ _ h => h) (Or.inl ⟨by rfl, ?_⟩) HH.out ?_
  rotate_left
  · intro w hSw; go_simp; try with_reducible rfl
  change wpAnyH _ _ _ _ _ _ _ (Act.put _ (some 54) _) _
  simp only [Act.put, List.setIfInBounds_toArray, List.set_cons_zero, List.set_cons_succ]
  refine wpAnyH_take (i := 3) (v := ?_) rfl (by kernel_rfl) (by kernel_rfl) (by kernel_rfl) (fun _ _ _ h => h) (Or.inl ⟨by rfl, ?_⟩) HH.out ?_
  rotate_left
  · intro w hSw; go_simp; try with_reducible rfl
  change wpAnyH _ _ _ _ _ _ _ (Act.put _ (some 55) _) _
  simp only [Act.put, List.setIfInBounds_toArray, List.set_cons_zero, List.set_cons_succ]
  refine wpAnyH_take (i := 5) rfl (by kernel_rfl) (by kernel_rfl) (by kernel_rfl) (fun _ _ _ h => h) (yieldsRow rt147e (by rfl) rfl rfl (fun w hSw => (bb9.ext hW0).mod hSw (fun q => q.elim hBY hBF)) (by decide)) HH.out ?_
  change wpAnyH _ _ _ _ _ _ _ (Act.put _ (some 57) _) _
  simp only [Act.put, List.setIfInBounds_toArray, List.set_cons_zero, List.set_cons_succ]
  refine wpAnyH_ready (rs := [4, 6]) (by kernel_rfl) (by simp) ?_
  refine (AllReadyH.cons rfl (fun K hK => ?_) (AllReadyH.cons rfl (fun K hK => ?_) AllReadyH.nil))
  refine step_any rfl (op_loadK rfl onet101e rfl ((h9.bY.ext (by (repeat (first | with_reducible exact Ext.refl _ | with_reducible assumption | refine Ext.trans ?_ (by with_reducible assumption) | refine Ext.alloc ?_ _ _ | refine Ext.drew ?_ | refine Ext.drewN ?_ _)))).cell (i := 9) (by decide)) ?_)
  refine hK.out _ _ HH.out (fun hHeld => ?_)
  clear hK K HH
  have HH : Hid (Mod (fun x => x = Y ∨ x = F) W0 _) := hHeld
  clear hHeld
  change wpAnyH _ _ _ _ _ _ _ (Act.put _ (some 56) _) _
  simp only [Act.put, List.setIfInBounds_toArray, List.set_cons_zero, List.set_cons_succ]
  refine wpAnyH_ready (rs := [6]) (by kernel_rfl) (by simp) ?_
  refine AllReadyH.cons rfl (fun K hK => ?_) AllReadyH.nil
  refine step_any rfl (op_build1 156 Hvah.t156 z 60 rfl under101e info147e hz1 size147e hz2 (by decide) (by decide) (rowOf dB 0 60) (rowOf_size _ _ _) rfl ?_)
  rintro B9 W10 e10 r10 g10
  refine hK.out _ _ ?_ (fun hHeld => ?_)
  · exact HH.out.trans_ext e10
  clear hK K HH
  have HH : Hid (Mod (fun x => x = Y ∨ x = F) W0 _) := hHeld
  clear hHeld
  change wpAnyH _ _ _ _ _ _ _ (Act.put _ (some 58) _) _
  simp only [Act.put, List.setIfInBounds_toArray, List.set_cons_zero, List.set_cons_succ]
  refine wpAnyH_ready (rs := [7]) (by kernel_rfl) (by simp) ?_
  refine AllReadyH.cons rfl (fun K hK => ?_) AllReadyH.nil
  have h10 := h9.ext (show Ext W9 W10 by (repeat (first | with_reducible exact Ext.refl _ | with_reducible assumption | refine Ext.trans ?_ (by with_reducible assumption) | refine Ext.alloc ?_ _ _ | refine Ext.drew ?_ | refine Ext.drewN ?_ _)))
  refine step_appendV rfl _ _ 114 rfl 156 Hvah.t156 z 60 under101e info147e hz1 size147e hz2 bytes147e _ L.length F n d h10.fv (by omega) ⟨B9, 0, none⟩ 1 (rowOf dB 0 60).toList (by simp [rowOf_size]) r10 (fun u hu => hone60 u (by simpa using hu)) rfl rfl ?_
  rintro v' W11 b' d' hG
  have bY11 := grown_blk hG h10.bY h.ne
  have m11 : Mod (fun b => b = Y ∨ b = F) W10 W11 := by
    rcases hG.how with ⟨_, _, m⟩ | ⟨_, e⟩
    · exact m.sub (fun _ q => Or.inr q)
    · exact e.mod _
  refine hK.out _ _ ?_ (fun hHeld => ?_)
  · exact HH.out.trans m11
  clear hK K HH
  have HH : Hid (Mod (fun x => x = Y ∨ x = F) W0 _) := hHeld
  clear hHeld
  change wpAnyH _ _ _ _ _ _ _ (Act.put _ (some 59) _) _
  simp only [Act.put, List.setIfInBounds_toArray, List.set_cons_zero, List.set_cons_succ]
  refine wpAnyH_take (i := 8) (v := ?_) rfl (by kernel_rfl) (by kernel_rfl) (by kernel_rfl) (fun _ _ _ h => h) (Or.inl ⟨by rfl, ?_⟩) HH.out ?_
  rotate_left
  · intro w hSw; go_simp; try with_reducible rfl
  change wpAnyH _ _ _ _ _ _ _ (Act.put _ (some 60) _) _
  simp only [Act.put, List.setIfInBounds_toArray, List.set_cons_zero, List.set_cons_succ]
  refine wpAnyH_take (i := 9) (v := ?_) rfl (by kernel_rfl) (by kernel_rfl) (by kernel_rfl) (fun _ _ _ h => h) (Or.inl ⟨by rfl, ?_⟩) HH.out ?_
  rotate_left
  · intro w hSw; go_simp; try with_reducible rfl
  change wpAnyH _ _ _ _ _ _ _ (Act.put _ (some 61) _) _
  simp only [Act.put, List.setIfInBounds_toArray, List.set_cons_zero, List.set_cons_succ]
  refine wpAnyH_ready (rs := [10]) (by kernel_rfl) (by simp) ?_
  refine AllReadyH.cons rfl (fun K hK => ?_) AllReadyH.nil
  refine step_any rfl (op_store1 rfl onet101e rfl rfl (by obtain ⟨_, q⟩ := hG.some; rw [q]; rfl) bY11 (by decide) ?_)
  rintro W12 b12 m12
  refine hK.out _ _ ?_ (fun hHeld => ?_)
  · exact HH.out.trans (m12.sub (fun _ q => Or.inl q))
  clear hK K HH
  have HH : Hid (Mod (fun x => x = Y ∨ x = F) W0 _) := hHeld
  clear hHeld
  change wpAnyH _ _ _ _ _ _ _ (Act.put _ none _) _
  simp only [Act.put, List.setIfInBounds_toArray, List.set_cons_zero, List.set_cons_succ]
  refine wpAnyH_done (by kernel_rfl) ?_ _
  · obtain ⟨O', n', hZ, hOO, hM⟩ := h10.push (x := ⟨{ f with saved := st.now }, W, fun _ => False⟩) hG m12 b12 hfew (fun q => (hfr9.ext (show Ext W9 W10 by (repeat (first | with_reducible exact Ext.refl _ | with_reducible assumption | refine Ext.trans ?_ (by with_reducible assumption) | refine Ext.alloc ?_ _ _ | refine Ext.drew ?_ | refine Ext.drewN ?_ _)))).same (fun j hj => by rw [Nat.zero_add]; exact q j (dB j) (by rw [Array.getElem?_toList, rowOf_get, if_pos hj, Nat.zero_add]))) (fun b hb => hb)
    have hEnd : YEnt O TL w W12 Y F (W.move f.caller f.self f.value) start (st.enter f) tot (⟨{ f with saved := st.now }, W, fun _ => False⟩ :: L) := by
      have he : st.enter f = { st with now := (st.now.move f.caller f.self f.value), ret := [], frames := { f with saved := st.now } :: st.frames } := by simp [ASt.enter, hk, createsA]
      have hsz10 : w.heap.size ≤ W10.heap.size := Nat.le_trans E3.size (Nat.le_trans M9.size (Ext.size (show Ext W9 W10 by (repeat (first | with_reducible exact Ext.refl _ | with_reducible assumption | refine Ext.trans ?_ (by with_reducible assumption) | refine Ext.alloc ?_ _ _ | refine Ext.drew ?_ | refine Ext.drewN ?_ _)))))
      have hMM : Mod (fun b => b = Y ∨ b = F) w W12 := ((((E3.mod _).trans (M9.sub (fun _ q => Or.inl q))).trans_ext (show Ext W9 W10 by (repeat (first | with_reducible exact Ext.refl _ | with_reducible assumption | refine Ext.trans ?_ (by with_reducible assumption) | refine Ext.alloc ?_ _ _ | refine Ext.drew ?_ | refine Ext.drewN ?_ _))))).trans hM
      have hOO2 : ∀ b, b < w.heap.size → (O' b ↔ O b) := fun b hb => (hOO b (Nat.lt_of_lt_of_le hb hsz10)).trans ⟨fun q => q.elim id (fun q => by omega), Or.inl⟩
      rw [he]
      exact ⟨O', b', n', _, d', hZ, hOO2, hMM⟩
    clear hk
    go_wp2
    go_end0
    exact ⟨rfl, hEnd⟩
  refine step_any rfl (op_build1 156 Hvah.t156 z 60 rfl under101e info147e hz1 size147e hz2 (by decide) (by decide) (rowOf dB 0 60) (rowOf_size _ _ _) rfl ?_)
  rintro B9 W10 e10 r10 g10
  refine hK.out _ _ ?_ (fun hHeld => ?_)
  · exact HH.out.trans_ext e10
  clear hK K HH
  have HH : Hid (Mod (fun x => x = Y ∨ x = F) W0 _) := hHeld
  clear hHeld
  change wpAnyH _ _ _ _ _ _ _ (Act.put _ (some 58) _) _
  simp only [Act.put, List.setIfInBounds_toArray, List.set_cons_zero, List.set_cons_succ]
  refine wpAnyH_ready (rs := [4]) (by kernel_rfl) (by simp) ?_
  refine AllReadyH.cons rfl (fun K hK => ?_) AllReadyH.nil
  refine step_any rfl (op_loadK rfl onet101e rfl ((h9.bY.ext (by (repeat (first | with_reducible exact Ext.refl _ | with_reducible assumption | refine Ext.trans ?_ (by with_reducible assumption) | refine Ext.alloc ?_ _ _ | refine Ext.drew ?_ | refine Ext.drewN ?_ _)))).cell (i := 9) (by decide)) ?_)
  refine hK.out _ _ HH.out (fun hHeld => ?_)
  clear hK K HH
  have HH : Hid (Mod (fun x => x = Y ∨ x = F) W0 _) := hHeld
  clear hHeld
  change wpAnyH _ _ _ _ _ _ _ (Act.put _ (some 56) _) _
  simp only [Act.put, List.setIfInBounds_toArray, List.set_cons_zero, List.set_cons_succ]
  refine wpAnyH_ready (rs := [7]) (by kernel_rfl) (by simp) ?_
  refine AllReadyH.cons rfl (fun K hK => ?_) AllReadyH.nil
  have h10 := h9.ext (show Ext W9 W10 by (repeat (first | with_reducible exact Ext.refl _ | with_reducible assumption | refine Ext.trans ?_ (by with_reducible assumption) | refine Ext.alloc ?_ _ _ | refine Ext.drew ?_ | refine Ext.drewN ?_ _)))
  refine step_appendV rfl _ _ 114 rfl 156 Hvah.t156 z 60 under101e info147e hz1 size147e hz2 bytes147e _ L.length F n d h10.fv (by omega) ⟨B9, 0, none⟩ 1 (rowOf dB 0 60).toList (by simp [rowOf_size]) r10 (fun u hu => hone60 u (by simpa using hu)) rfl rfl ?_
  rintro v' W11 b' d' hG
  have bY11 := grown_blk hG h10.bY h.ne
  have m11 : Mod (fun b => b = Y ∨ b = F) W10 W11 := by
    rcases hG.how with ⟨_, _, m⟩ | ⟨_, e⟩
    · exact m.sub (fun _ q => Or.inr q)
    · exact e.mod _
  refine hK.out _ _ ?_ (fun hHeld => ?_)
  · exact HH.out.trans m11
  clear hK K HH
  have HH : Hid (Mod (fun x => x = Y ∨ x = F) W0 _) := hHeld
  clear hHeld
  change wpAnyH _ _ _ _ _ _ _ (Act.put _ (some 59) _) _
  simp only [Act.put, List.setIfInBounds_toArray, List.set_cons_zero, List.set_cons_succ]
  refine wpAnyH_take (i := 8) (v := ?_) rfl (by kernel_rfl) (by kernel_rfl) (by kernel_rfl) (fun _ _ _ h => h) (Or.inl ⟨by rfl, ?_⟩) HH.out ?_
  rotate_left
  · intro w hSw; go_simp; try with_reducible rfl
  change wpAnyH _ _ _ _ _ _ _ (Act.put _ (some 60) _) _
  simp only [Act.put, List.setIfInBounds_toArray, List.set_cons_zero, List.set_cons_succ]
  refine wpAnyH_take (i := 9) (v := ?_) rfl (by kernel_rfl) (by kernel_rfl) (by kernel_rfl) (fun _ _ _ h => h) (Or.inl ⟨by rfl, ?_⟩) HH.out ?_
  rotate_left
  · intro w hSw; go_simp; try with_reducible rfl
  change wpAnyH _ _ _ _ _ _ _ (Act.put _ (some 61) _) _
  simp only [Act.put, List.setIfInBounds_toArray, List.set_cons_zero, List.set_cons_succ]
  refine wpAnyH_ready (rs := [10]) (by kernel_rfl) (by simp) ?_
  refine AllReadyH.cons rfl (fun K hK => ?_) AllReadyH.nil
  refine step_any rfl (op_store1 rfl onet101e rfl rfl (by obtain ⟨_, q⟩ := hG.some; rw [q]; rfl) bY11 (by decide) ?_)
  rintro W12 b12 m12
  refine hK.out _ _ ?_ (fun hHeld => ?_)
  · exact HH.out.trans (m12.sub (fun _ q => Or.inl q))
  clear hK K HH
  have HH : Hid (Mod (fun x => x = Y ∨ x = F) W0 _) := hHeld
  clear hHeld
  change wpAnyH _ _ _ _ _ _ _ (Act.put _ none _) _
  simp only [Act.put, List.setIfInBounds_toArray, List.set_cons_zero, List.set_cons_succ]
  refine wpAnyH_done (by kernel_rfl) ?_ _
  · obtain ⟨O', n', hZ, hOO, hM⟩ := h10.push (x := ⟨{ f with saved := st.now }, W, fun _ => False⟩) hG m12 b12 hfew (fun q => (hfr9.ext (show Ext W9 W10 by (repeat (first | with_reducible exact Ext.refl _ | with_reducible assumption | refine Ext.trans ?_ (by with_reducible assumption) | refine Ext.alloc ?_ _ _ | refine Ext.drew ?_ | refine Ext.drewN ?_ _)))).same (fun j hj => by rw [Nat.zero_add]; exact q j (dB j) (by rw [Array.getElem?_toList, rowOf_get, if_pos hj, Nat.zero_add]))) (fun b hb => hb)
    have hEnd : YEnt O TL w W12 Y F (W.move f.caller f.self f.value) start (st.enter f) tot (⟨{ f with saved := st.now }, W, fun _ => False⟩ :: L) := by
      have he : st.enter f = { st with now := (st.now.move f.caller f.self f.value), ret := [], frames := { f with saved := st.now } :: st.frames } := by simp [ASt.enter, hk, createsA]
      have hsz10 : w.heap.size ≤ W10.heap.size := Nat.le_trans E3.size (Nat.le_trans M9.size (Ext.size (show Ext W9 W10 by (repeat (first | with_reducible exact Ext.refl _ | with_reducible assumption | refine Ext.trans ?_ (by with_reducible assumption) | refine Ext.alloc ?_ _ _ | refine Ext.drew ?_ | refine Ext.drewN ?_ _)))))
      have hMM : Mod (fun b => b = Y ∨ b = F) w W12 := ((((E3.mod _).trans (M9.sub (fun _ q => Or.inl q))).trans_ext (show Ext W9 W10 by (repeat (first | with_reducible exact Ext.refl _ | with_reducible assumption | refine Ext.trans ?_ (by with_reducible assumption) | refine Ext.alloc ?_ _ _ | refine Ext.drew ?_ | refine Ext.drewN ?_ _))))).trans hM
      have hOO2 : ∀ b, b < w.heap.size → (O' b ↔ O b) := fun b hb => (hOO b (Nat.lt_of_lt_of_le hb hsz10)).trans ⟨fun q => q.elim id (fun q => by omega), Or.inl⟩
      rw [he]
      exact ⟨O', b', n', _, d', hZ, hOO2, hMM⟩
    clear hk
    go_wp2
    go_end0
    exact ⟨rfl, hEnd⟩
set_option maxRecDepth 100000 in
set_option maxHeartbeats 6400000 in
theorem zEnter5 (HLG : ∀ {O T : Nat → Prop} {w : World} {v : Value} {l : List ALog}, Small O w → LogL T O w v l → l.length ≤ 100000 → Calls Hvah.prog 80 #[v] w fun e w' => ∃ r, e = .returned r ∧ GRow 141 22 (LgC O w') (fun b => ¬ O b) w' r l ∧ Full r ∧ Ext w w') (h : YZ O TL w Y F n c d W start st tot L) (fr : Array Value) (hsz : fr.size = 60) (hones : Ones fr) (f : AFrame) (hk : f.kind = 5) (hf : YFC O (fun _ => False) w (cf fr) 0 f) (hok : FOK f) (hsl : ∀ x ∈ W.accts, x.slots.length ≤ 90000) (hfew : L.length < 7) (hl1 : YLim (W.setNonce f.self 1)) (hl2 : YLim ((W.setNonce f.self 1).markMade f.self)) (hl3 : YLim (((W.setNonce f.self 1).markMade f.self).setBal f.caller ((((W.setNonce f.self 1).markMade f.self).acct f.caller).bal - f.value))) (hl4 : YLim (((W.setNonce f.self 1).markMade f.self).move f.caller f.self f.value)) :
    Calls Hvah.prog 65 #[.pointer (some ⟨Y, 0, none⟩), .agg fr] w fun e w' => e = .returned (.tuple #[]) ∧ YEnt O TL w w' Y F (((W.setNonce f.self 1).markMade f.self).move f.caller f.self f.value) start (st.enter f) tot (⟨{ f with saved := st.now }, W, fun _ => False⟩ :: L) := by
  have hYl : Y < w.heap.size := h.bY.lt
  have hFl : F < w.heap.size := h.small F h.oF
  go_enter Hvah.func65, Hvah.ntmps65
  go_upto_region 1 with ((with_reducible (refine Veil.out ?_; apply wl_boxB)); (case hx => rfl); (case hn => exact hsz); rintro B W1 e1 b1 g1)
  have hBY : ¬ B = Y := by omega
  have hBF : ¬ B = F := by omega
  have h1 := h.wd e1 b1.lt g1
  obtain ⟨T, hT⟩ : ∃ T, LogL T (Wd O B) W1 (c 4) W.logs := h1.lg.elim (fun k => ⟨_, k⟩) (fun k => ⟨_, k.1⟩)
  have HC := fun W2 (q : Ext W1 W2) => yClone (w := W2) HLG (h1.ext q).small (h1.ext q).bY (h1.ext q).wc (GRow.ext hT q (fun _ _ _ k => k.ext q)) h1.lim hsl
  go_upto_region 2 with (first | (go_at_call 140; refine (HC _ (by (repeat (first | with_reducible exact Ext.refl _ | with_reducible assumption | refine Ext.trans ?_ (by with_reducible assumption) | refine Ext.alloc ?_ _ _ | refine Ext.drew ?_ | refine Ext.drewN ?_ _)))).mono ?_; rintro e w2 ⟨r, rfl, hr8, hro, hrw, hrl, hrf, e2⟩) | ((with_reducible (refine Veil.out ?_; apply wl_storeRow rt99e)); (case hx => rfl); (case hy => rfl); (case hr => exact hr8); (case h1 => exact hro); (case hB => exact b1.ext e2); (case hi => decide); rintro W3 b3 m3))
  have hfr := ye_frame h hf hok g1 e1 e2 m3 hr8 hrw hrl hrf
  have h3 : YZ (Wd O B) TL W3 Y F n c d W start st tot L := (h1.ext e2).keepS m3 (fun b hb q => hb (Or.inr q)) (fun q => hBY q.symm) (fun q => hBF q.symm) (fun x hx b hb q => by have := h.small b (h.tm x hx b hb).1; omega) (fun b hb q => by have := h.small b (h.tl b hb).1; omega)
  have M3 : Mod (· = B) w W3 := ((e1.trans e2).mod _).trans m3
  obtain ⟨dB, hdB⟩ : ∃ dB, dB = layv (cf fr) 52 r := ⟨_, rfl⟩
  rw [← hdB] at hfr b3
  have hone60 : Ones (rowOf dB 0 60) := ones_of (fun q hq => by
    rw [rowOf_size] at hq
    rw [cf_rowOf _ _ _ hq, Nat.zero_add, hdB]
    rcases Nat.lt_or_ge q 52 with k | k
    · rw [layv_out _ _ _ (Or.inl k)]; exact Ones.get hones (by omega)
    · have k2 := layv_in (cf fr) 52 r (j := q - 52) (by omega)
      rw [show 52 + (q - 52) = q by omega] at k2
      rw [k2]; exact Ones.get hro (by omega))
  have E3 : Ext w W3 := Ext.trans_mod (e1.trans e2) m3 (fun q hq => by have hq2 : q = B := hq; rw [hq2]; exact g1)
  have hk0 : dB 0 = .int .u8 5 := by have := hfr.fc.kind; simp only [hk] at this; exact this
  have hself : AAt dB 12 f.self := by have := hfr.fc.self; rwa [Nat.zero_add] at this
  have hcall : AAt dB 32 f.caller := by have := hfr.fc.caller; rwa [Nat.zero_add] at this
  have hsY : ∀ b, ¬ Wd O B b → ¬ b = Y := fun b hb q => hb (q ▸ h3.oY)
  clear HC hT hrw hrl hrf hf h1 hdB hones hro m3 b1
  go_upto_if 11 with (first | ((with_reducible (refine Veil.out ?_; apply wl_loadC onet5e)); (case hw => rfl); (case hx => rfl); (case hc => exact (b3.cell (i := 0) (by decide)).trans (congrArg some hk0))) | (go_at_call 141; refine (yCreates 5 (by decide)).mono ?_; rintro e w4 ⟨rfl, e4⟩; have e5 := e4.symm; subst e5))
  have hval : NV (Wd O B) W3 (dB 5) f.value := hfr.fc.value
  have M0 : Mod (· = Y) W3 W3 := Mod.refl _ _
  go_upto_region 3 with (fail)
  refine w_ext ?_
  rintro W0 hW0
  refine wp_region_held_drew (S := fun w' => Mod (fun x => x = Y) W0 w') (by kernel_rfl) (Mod.refl _ _).drew (fun hHeld => ?_)
  have HH : Hid (Mod (fun x => x = Y) W0 _) := hHeld
  clear hHeld
  refine wpAnyH_take (i := 0) (v := ?_) rfl (by kernel_rfl) (by kernel_rfl) (by kernel_rfl) (fun _ _ _ h => h) (Or.inl ⟨by rfl, ?_⟩) HH.out ?_
  rotate_left
  · intro w hSw; go_simp; try with_reducible rfl
  change wpAnyH _ _ _ _ _ _ _ (Act.put _ (some 12) _) _
  simp only [Act.put, List.setIfInBounds_toArray, List.set_cons_zero, List.set_cons_succ]
  refine wpAnyH_take (i := 1) (v := ?_) rfl (by kernel_rfl) (by kernel_rfl) (by kernel_rfl) (fun _ _ _ h => h) (Or.inl ⟨by rfl, ?_⟩) HH.out ?_
  rotate_left
  · intro w hSw; go_simp; try with_reducible rfl
  change wpAnyH _ _ _ _ _ _ _ (Act.put _ (some 13) _) _
  simp only [Act.put, List.setIfInBounds_toArray, List.set_cons_zero, List.set_cons_succ]
  refine wpAnyH_take (i := 2) (v := ?_) rfl (by kernel_rfl) (by kernel_rfl) (by kernel_rfl) (fun _ _ _ h => h) (Or.inl ⟨by rfl, ?_⟩) HH.out ?_
  rotate_left
  · intro w hSw; go_simp; try with_reducible rfl
  change wpAnyH _ _ _ _ _ _ _ (Act.put _ (some 14) _) _
  simp only [Act.put, List.setIfInBounds_toArray, List.set_cons_zero, List.set_cons_succ]
  refine wpAnyH_take (i := 3) (v := ?_) rfl (by kernel_rfl) (by kernel_rfl) (by kernel_rfl) (fun _ _ _ h => h) (Or.inl ⟨by rfl, ?_⟩) HH.out ?_
  rotate_left
  · intro w hSw; go_simp; try with_reducible rfl
  change wpAnyH _ _ _ _ _ _ _ (Act.put _ (some 15) _) _
  simp only [Act.put, List.setIfInBounds_toArray, List.set_cons_zero, List.set_cons_succ]
  refine wpAnyH_take (i := 4) rfl (by kernel_rfl) (by kernel_rfl) (by kernel_rfl) (fun _ _ _ h => h) (yields_A (by rfl) rfl rfl (fun w hSw => (b3.ext hW0).mod hSw hBY) hself hok.self (by decide)) HH.out ?_
  change wpAnyH _ _ _ _ _ _ _ (Act.put _ (some 16) _) _
  simp only [Act.put, List.setIfInBounds_toArray, List.set_cons_zero, List.set_cons_succ]
  refine wpAnyH_ready (rs := [5]) (by kernel_rfl) (by simp) ?_
  refine AllReadyH.cons rfl (fun K hK => ?_) AllReadyH.nil
  go_simp
  go_at_call 42; refine (nNum (Wd O B) 1 _ (h3.ext (by (repeat (first | with_reducible exact Ext.refl _ | with_reducible assumption | refine Ext.trans ?_ (by with_reducible assumption) | refine Ext.alloc ?_ _ _ | refine Ext.drew ?_ | refine Ext.drewN ?_ _)))).small (by decide)).mono ?_; rintro e w4 ⟨one, rfl, hone, he⟩
  refine hK.out _ _ ?_ (fun hHeld => ?_)
  · first | exact HH.out.trans hmY | exact HH.out.trans_ext he | exact HH.out
  clear hK K HH
  have HH : Hid (Mod (fun x => x = Y) W0 _) := hHeld
  clear hHeld
  refine wpAnyH_ready (rs := [6]) (by kernel_rfl) (by simp) ?_
  refine AllReadyH.cons rfl (fun K hK => ?_) AllReadyH.nil
  go_simp
  go_at_call 58; refine (zSetNonce (h3.ext (by (repeat (first | with_reducible exact Ext.refl _ | with_reducible assumption | refine Ext.trans ?_ (by with_reducible assumption) | refine Ext.alloc ?_ _ _ | refine Ext.drew ?_ | refine Ext.drewN ?_ _)))) f.self hok.self one 1 (hone.ext (by (repeat (first | with_reducible exact Ext.refl _ | with_reducible assumption | refine Ext.trans ?_ (by with_reducible assumption) | refine Ext.alloc ?_ _ _ | refine Ext.drew ?_ | refine Ext.drewN ?_ _)))) hl1).mono ?_; rintro e w5 ⟨c5, rfl, h5, hmY⟩
  refine hK.out _ _ ?_ (fun hHeld => ?_)
  · first | exact HH.out.trans hmY | exact HH.out.trans_ext he | exact HH.out
  clear hK K HH
  have HH : Hid (Mod (fun x => x = Y) W0 _) := hHeld
  clear hHeld
  refine wpAnyH_done (by kernel_rfl) ?_ _
  have M5 : Mod (· = Y) W3 w5 := ((Mod.refl _ W3).trans_ext hW0).trans HH.out
  have b5 := b3.mod M5 hBY
  clear HH hW0 hone he
  go_upto_region 4 with (fail)
  refine w_ext ?_
  rintro W0 hW0
  refine wp_region_held_drew (S := fun w' => Mod (fun x => x = Y) W0 w') (by kernel_rfl) (Mod.refl _ _).drew (fun hHeld => ?_)
  have HH : Hid (Mod (fun x => x = Y) W0 _) := hHeld
  clear hHeld
  refine wpAnyH_take (i := 0) (v := ?_) rfl (by kernel_rfl) (by kernel_rfl) (by kernel_rfl) (fun _ _ _ h => h) (Or.inl ⟨by rfl, ?_⟩) HH.out ?_
  rotate_left
  · intro w hSw; go_simp; try with_reducible rfl
  change wpAnyH _ _ _ _ _ _ _ (Act.put _ (some 19) _) _
  simp only [Act.put, List.setIfInBounds_toArray, List.set_cons_zero, List.set_cons_succ]
  refine wpAnyH_take (i := 1) (v := ?_) rfl (by kernel_rfl) (by kernel_rfl) (by kernel_rfl) (fun _ _ _ h => h) (Or.inl ⟨by rfl, ?_⟩) HH.out ?_
  rotate_left
  · intro w hSw; go_simp; try with_reducible rfl
  change wpAnyH _ _ _ _ _ _ _ (Act.put _ (some 20) _) _
  simp only [Act.put, List.setIfInBounds_toArray, List.set_cons_zero, List.set_cons_succ]
  refine wpAnyH_take (i := 2) (v := ?_) rfl (by kernel_rfl) (by kernel_rfl) (by kernel_rfl) (fun _ _ _ h => h) (Or.inl ⟨by rfl, ?_⟩) HH.out ?_
  rotate_left
  · intro w hSw; go_simp; try with_reducible rfl
  change wpAnyH _ _ _ _ _ _ _ (Act.put _ (some 21) _) _
  simp only [Act.put, List.setIfInBounds_toArray, List.set_cons_zero, List.set_cons_succ]
  refine wpAnyH_take (i := 3) (v := ?_) rfl (by kernel_rfl) (by kernel_rfl) (by kernel_rfl) (fun _ _ _ h => h) (Or.inl ⟨by rfl, ?_⟩) HH.out ?_
  rotate_left
  · intro w hSw; go_simp; try with_reducible rfl
  change wpAnyH _ _ _ _ _ _ _ (Act.put _ (some 22) _) _
  simp only [Act.put, List.setIfInBounds_toArray, List.set_cons_zero, List.set_cons_succ]
  refine wpAnyH_take (i := 4) (v := ?_) rfl (by kernel_rfl) (by kernel_rfl) (by kernel_rfl) (fun _ _ _ h => h) (Or.inl ⟨by rfl, ?_⟩) HH.out ?_
  rotate_left
  · intro w hSw; go_simp; try with_reducible rfl
  change wpAnyH _ _ _ _ _ _ _ (Act.put _ (some 23) _) _
  simp only [Act.put, List.setIfInBounds_toArray, List.set_cons_zero, List.set_cons_succ]
  refine wpAnyH_take (i := 6) (v := ?_) rfl (by kernel_rfl) (by kernel_rfl) (by kernel_rfl) (fun _ _ _ h => h) (Or.inl ⟨by rfl, ?_⟩) HH.out ?_
  rotate_left
  · intro w hSw; go_simp; try with_reducible rfl
  change wpAnyH _ _ _ _ _ _ _ (Act.put _ (some 25) _) _
  simp only [Act.put, List.setIfInBounds_toArray, List.set_cons_zero, List.set_cons_succ]
  refine wpAnyH_take (i := 7) rfl (by kernel_rfl) (by kernel_rfl) (by kernel_rfl) (fun _ _ _ h => h) (yields_A (by rfl) rfl rfl (fun w hSw => (b5.ext hW0).mod hSw hBY) hself hok.self (by decide)) HH.out ?_
  change wpAnyH _ _ _ _ _ _ _ (Act.put _ (some 26) _) _
  simp only [Act.put, List.setIfInBounds_toArray, List.set_cons_zero, List.set_cons_succ]
  refine wpAnyH_ready (rs := [5]) (by kernel_rfl) (by simp) ?_
  refine AllReadyH.cons rfl (fun K hK => ?_) AllReadyH.nil
  refine step_any rfl (op_loadK rfl onet94e rfl ((h5.bY.ext (by (repeat (first | with_reducible exact Ext.refl _ | with_reducible assumption | refine Ext.trans ?_ (by with_reducible assumption) | refine Ext.alloc ?_ _ _ | refine Ext.drew ?_ | refine Ext.drewN ?_ _)))).cell (i := 6) (by decide)) ?_)
  refine hK.out _ _ HH.out (fun hHeld => ?_)
  clear hK K HH
  have HH : Hid (Mod (fun x => x = Y) W0 _) := hHeld
  clear hHeld
  change wpAnyH _ _ _ _ _ _ _ (Act.put _ (some 24) _) _
  simp only [Act.put, List.setIfInBounds_toArray, List.set_cons_zero, List.set_cons_succ]
  refine wpAnyH_ready (rs := [8]) (by kernel_rfl) (by simp) ?_
  refine AllReadyH.cons rfl (fun K hK => ?_) AllReadyH.nil
  go_simp
  go_at_call 137; refine (yWithAddr (Wd O B) (c5 6) _ f.self _ (h5.ext (by (repeat (first | with_reducible exact Ext.refl _ | with_reducible assumption | refine Ext.trans ?_ (by with_reducible assumption) | refine Ext.alloc ?_ _ _ | refine Ext.drew ?_ | refine Ext.drewN ?_ _)))).small (AddrL.ext (show AddrL (Wd O B) w5 (c5 6) _ from h5.wc.made) (by (repeat (first | with_reducible exact Ext.refl _ | with_reducible assumption | refine Ext.trans ?_ (by with_reducible assumption) | refine Ext.alloc ?_ _ _ | refine Ext.drew ?_ | refine Ext.drewN ?_ _)))) hok.self (Nat.le_trans h5.lim.made (by decide))).mono ?_; rintro e w6 ⟨mv, rfl, hmv, he⟩
  refine hK.out _ _ ?_ (fun hHeld => ?_)
  · first | exact HH.out.trans hmY | exact HH.out.trans_ext he | exact HH.out
  clear hK K HH
  have HH : Hid (Mod (fun x => x = Y) W0 _) := hHeld
  clear hHeld
  refine wpAnyH_take (i := 9) (v := ?_) rfl (by kernel_rfl) (by kernel_rfl) (by kernel_rfl) (fun _ _ _ h => h) (Or.inl ⟨by rfl, ?_⟩) HH.out ?_
  rotate_left
  · intro w hSw; go_simp; try with_reducible rfl
  change wpAnyH _ _ _ _ _ _ _ (Act.put _ (some 28) _) _
  simp only [Act.put, List.setIfInBounds_toArray, List.set_cons_zero, List.set_cons_succ]
  refine wpAnyH_take (i := 10) (v := ?_) rfl (by kernel_rfl) (by kernel_rfl) (by kernel_rfl) (fun _ _ _ h => h) (Or.inl ⟨by rfl, ?_⟩) HH.out ?_
  rotate_left
  · intro w hSw; go_simp; try with_reducible rfl
  change wpAnyH _ _ _ _ _ _ _ (Act.put _ (some 29) _) _
  simp only [Act.put, List.setIfInBounds_toArray, List.set_cons_zero, List.set_cons_succ]
  refine wpAnyH_take (i := 11) (v := ?_) rfl (by kernel_rfl) (by kernel_rfl) (by kernel_rfl) (fun _ _ _ h => h) (Or.inl ⟨by rfl, ?_⟩) HH.out ?_
  rotate_left
  · intro w hSw; go_simp; try with_reducible rfl
  change wpAnyH _ _ _ _ _ _ _ (Act.put _ (some 30) _) _
  simp only [Act.put, List.setIfInBounds_toArray, List.set_cons_zero, List.set_cons_succ]
  refine wpAnyH_ready (rs := [12]) (by kernel_rfl) (by simp) ?_
  refine AllReadyH.cons rfl (fun K hK => ?_) AllReadyH.nil
  refine step_any rfl (op_store1 rfl onet94e rfl rfl (addr_onec hmv) (h5.bY.ext (by (repeat (first | with_reducible exact Ext.refl _ | with_reducible assumption | refine Ext.trans ?_ (by with_reducible assumption) | refine Ext.alloc ?_ _ _ | refine Ext.drew ?_ | refine Ext.drewN ?_ _)))) (by decide) ?_)
  rintro W7 b7 m7
  refine hK.out _ _ ?_ (fun hHeld => ?_)
  · exact HH.out.trans m7
  clear hK K HH
  have HH : Hid (Mod (fun x => x = Y) W0 _) := hHeld
  clear hHeld
  change wpAnyH _ _ _ _ _ _ _ (Act.put _ none _) _
  simp only [Act.put, List.setIfInBounds_toArray, List.set_cons_zero, List.set_cons_succ]
  refine wpAnyH_done (by kernel_rfl) ?_ _
  have h7 := (h5.ext (by (repeat (first | with_reducible exact Ext.refl _ | with_reducible assumption | refine Ext.trans ?_ (by with_reducible assumption) | refine Ext.alloc ?_ _ _ | refine Ext.drew ?_ | refine Ext.drewN ?_ _)))).putMade f.self m7 b7 (AddrL.keep (AddrL.ext hmv (by (repeat (first | with_reducible exact Ext.refl _ | with_reducible assumption | refine Ext.trans ?_ (by with_reducible assumption) | refine Ext.alloc ?_ _ _ | refine Ext.drew ?_ | refine Ext.drewN ?_ _)))) m7 hsY) hl2 (YW.markMade_wf h5.wf _)
  have M7 : Mod (· = Y) W3 W7 := (M5.trans_ext hW0).trans HH.out
  have bb7 := b5.mod (((Mod.refl (· = Y) w5).trans_ext hW0).trans HH.out) hBY
  clear HH hW0 he
  go_upto_if 38 with (first | ((with_reducible (refine Veil.out ?_; apply wl_loadC onet5e)); (case hw => rfl); (case hx => rfl); (case hc => exact (bb7.cell (i := 0) (by decide)).trans (congrArg some hk0))))
  go_upto_region 6 with (fail)
  refine w_ext ?_
  rintro W0 hW0
  refine wp_region_held_drew (S := fun w' => Mod (fun x => x = Y) W0 w') (by kernel_rfl) (Mod.refl _ _).drew (fun hHeld => ?_)
  have HH : Hid (Mod (fun x => x = Y) W0 _) := hHeld
  clear hHeld
  refine wpAnyH_take (i := 0) (v := ?_) rfl (by kernel_rfl) (by kernel_rfl) (by kernel_rfl) (fun _ _ _ h => h) (Or.inl ⟨by rfl, ?_⟩) HH.out ?_
  rotate_left
  · intro w hSw; go_simp; try with_reducible rfl
  change wpAnyH _ _ _ _ _ _ _ (Act.put _ (some 39) _) _
  simp only [Act.put, List.setIfInBounds_toArray, List.set_cons_zero, List.set_cons_succ]
  refine wpAnyH_take (i := 1) (v := ?_) rfl (by kernel_rfl) (by kernel_rfl) (by kernel_rfl) (fun _ _ _ h => h) (Or.inl ⟨by rfl, ?_⟩) HH.out ?_
  rotate_left
  · intro w hSw; go_simp; try with_reducible rfl
  change wpAnyH _ _ _ _ _ _ _ (Act.put _ (some 40) _) _
  simp only [Act.put, List.setIfInBounds_toArray, List.set_cons_zero, List.set_cons_succ]
  refine wpAnyH_take (i := 2) (v := ?_) rfl (by kernel_rfl) (by kernel_rfl) (by kernel_rfl) (fun _ _ _ h => h) (Or.inl ⟨by rfl, ?_⟩) HH.out ?_
  rotate_left
  · intro w hSw; go_simp; try with_reducible rfl
  change wpAnyH _ _ _ _ _ _ _ (Act.put _ (some 41) _) _
  simp only [Act.put, List.setIfInBounds_toArray, List.set_cons_zero, List.set_cons_succ]
  refine wpAnyH_take (i := 3) (v := ?_) rfl (by kernel_rfl) (by kernel_rfl) (by kernel_rfl) (fun _ _ _ h => h) (Or.inl ⟨by rfl, ?_⟩) HH.out ?_
  rotate_left
  · intro w hSw; go_simp; try with_reducible rfl
  change wpAnyH _ _ _ _ _ _ _ (Act.put _ (some 42) _) _
  simp only [Act.put, List.setIfInBounds_toArray, List.set_cons_zero, List.set_cons_succ]
  refine wpAnyH_take (i := 4) rfl (by kernel_rfl) (by kernel_rfl) (by kernel_rfl) (fun _ _ _ h => h) (yields_A (by rfl) rfl rfl (fun w hSw => (bb7.ext hW0).mod hSw hBY) hcall hok.caller (by decide)) HH.out ?_
  change wpAnyH _ _ _ _ _ _ _ (Act.put _ (some 43) _) _
  simp only [Act.put, List.setIfInBounds_toArray, List.set_cons_zero, List.set_cons_succ]
  refine wpAnyH_take (i := 5) (v := ?_) rfl (by kernel_rfl) (by kernel_rfl) (by kernel_rfl) (fun _ _ _ h => h) (Or.inl ⟨by rfl, ?_⟩) HH.out ?_
  rotate_left
  · intro w hSw; go_simp; try with_reducible rfl
  change wpAnyH _ _ _ _ _ _ _ (Act.put _ (some 44) _) _
  simp only [Act.put, List.setIfInBounds_toArray, List.set_cons_zero, List.set_cons_succ]
  refine wpAnyH_take (i := 6) rfl (by kernel_rfl) (by kernel_rfl) (by kernel_rfl) (fun _ _ _ h => h) (yields_A (by rfl) rfl rfl (fun w hSw => (bb7.ext hW0).mod hSw hBY) hself hok.self (by decide)) HH.out ?_
  change wpAnyH _ _ _ _ _ _ _ (Act.put _ (some 45) _) _
  simp only [Act.put, List.setIfInBounds_toArray, List.set_cons_zero, List.set_cons_succ]
  refine wpAnyH_take (i := 7) (v := ?_) rfl (by kernel_rfl) (by kernel_rfl) (by kernel_rfl) (fun _ _ _ h => h) (Or.inl ⟨by rfl, ?_⟩) HH.out ?_
  rotate_left
  · intro w hSw; go_simp; try with_reducible rfl
  change wpAnyH _ _ _ _ _ _ _ (Act.put _ (some 46) _) _
  simp only [Act.put, List.setIfInBounds_toArray, List.set_cons_zero, List.set_cons_succ]
  refine wpAnyH_take (i := 8) rfl (by kernel_rfl) (by kernel_rfl) (by kernel_rfl) (fun _ _ _ h => h) (yieldsIf_load1 (by rfl) _ _ rfl _ _ rfl onet96e _ (fun w hSw => ((bb7.ext hW0).mod hSw hBY).cell (i := 5) (by decide))) HH.out ?_
  change wpAnyH _ _ _ _ _ _ _ (Act.put _ (some 47) _) _
  simp only [Act.put, List.setIfInBounds_toArray, List.set_cons_zero, List.set_cons_succ]
  refine wpAnyH_ready (rs := [9]) (by kernel_rfl) (by simp) ?_
  refine AllReadyH.cons rfl (fun K hK => ?_) AllReadyH.nil
  go_simp
  go_at_call 142; refine (zMove (h7.ext (by (repeat (first | with_reducible exact Ext.refl _ | with_reducible assumption | refine Ext.trans ?_ (by with_reducible assumption) | refine Ext.alloc ?_ _ _ | refine Ext.drew ?_ | refine Ext.drewN ?_ _)))) f.caller f.self hok.caller hok.self (dB 5) f.value (((hval.keep M7 hsY)).ext (by (repeat (first | with_reducible exact Ext.refl _ | with_reducible assumption | refine Ext.trans ?_ (by with_reducible assumption) | refine Ext.alloc ?_ _ _ | refine Ext.drew ?_ | refine Ext.drewN ?_ _)))) hok.value hl3 hl4).mono ?_; rintro e w8 ⟨c8, rfl, h8, hmY⟩
  refine hK.out _ _ ?_ (fun hHeld => ?_)
  · first | exact HH.out.trans hmY | exact HH.out.trans_ext he | exact HH.out
  clear hK K HH
  have HH : Hid (Mod (fun x => x = Y) W0 _) := hHeld
  clear hHeld
  refine wpAnyH_done (by kernel_rfl) ?_ _
  have M8 : Mod (· = Y) W3 w8 := (M7.trans_ext hW0).trans HH.out
  clear HH hW0
  go_upto_region 8 with ((with_reducible (refine Veil.out ?_; apply wl_storeC onet32e)); (case hx => rfl); (case hy => rfl); (case h1 => rfl); (case hB => exact h8.bY); (case hi => decide); rintro W9 b9 m9)
  have h9 := h8.putRet m9 (l := []) NL.nil b9
  have M9 : Mod (· = Y) W3 W9 := M8.trans m9
  have bb9 := b3.mod M9 hBY
  have hfr9 := hfr.keep M9 hsY (fun b hb => absurd hb id)
  obtain ⟨z, hz1, hz2⟩ := z147e
  refine w_ext ?_
  rintro W0 hW0
  refine wp_region_held_drew (S := fun w' => Mod (fun x => x = Y ∨ x = F) W0 w') (by kernel_rfl) (Mod.refl _ _).drew (fun hHeld => ?_)
  have HH : Hid (Mod (fun x => x = Y ∨ x = F) W0 _) := hHeld
  clear hHeld
  refine wpAnyH_take (i := 0) (v := ?_) rfl (by kernel_rfl) (by kernel_rfl) (by kernel_rfl) (fun _ _ _ h => h) (Or.inl ⟨by rfl, ?_⟩) HH.out ?_
  rotate_left
  · intro w hSw; go_simp; try with_reducible rfl
  change wpAnyH _ _ _ _ _ _ _ (Act.put _ (some 52) _) _
  simp only [Act.put, List.setIfInBounds_toArray, List.set_cons_zero, List.set_cons_succ]
  refine wpAnyH_take (i := 1) (v := ?_) rfl (by kernel_rfl) (by kernel_rfl) (by kernel_rfl) (fun _ _ _ h => h) (Or.inl ⟨by rfl, ?_⟩) HH.out ?_
  rotate_left
  · intro w hSw; go_simp; try with_reducible rfl
  change wpAnyH _ _ _ _ _ _ _ (Act.put _ (some 53) _) _
  simp only [Act.put, List.setIfInBounds_toArray, List.set_cons_zero, List.set_cons_succ]
  refine wpAnyH_take (i := 2) (v := ?_) rfl (by kernel_rfl) (by kernel_rfl) (by kernel_rfl) (fun _ _ _ h => h) (Or.inl ⟨by rfl, ?_⟩) HH.out ?_
  rotate_left
  · intro w hSw; go_simp; try with_reducible rfl
  change wpAnyH _ _ _ _ _ _ _ (Act.put _ (some 54) _) _
  simp only [Act.put, List.setIfInBounds_toArray, List.set_cons_zero, List.set_cons_succ]
  refine wpAnyH_take (i := 3) (v := ?_) rfl (by kernel_rfl) (by kernel_rfl) (by kernel_rfl) (fun _ _ _ h => h) (Or.inl ⟨by rfl, ?_⟩) HH.out ?_
  rotate_left
  · intro w hSw; go_simp; try with_reducible rfl
  change wpAnyH _ _ _ _ _ _ _ (Act.put _ (some 55) _) _
  simp only [Act.put, List.setIfInBounds_toArray, List.set_cons_zero, List.set_cons_succ]
  refine wpAnyH_take (i := 5) rfl (by kernel_rfl) (by kernel_rfl) (by kernel_rfl) (fun _ _ _ h => h) (yieldsRow rt147e (by rfl) rfl rfl (fun w hSw => (bb9.ext hW0).mod hSw (fun q => q.elim hBY hBF)) (by decide)) HH.out ?_
  change wpAnyH _ _ _ _ _ _ _ (Act.put _ (some 57) _) _
  simp only [Act.put, List.setIfInBounds_toArray, List.set_cons_zero, List.set_cons_succ]
  refine wpAnyH_ready (rs := [4, 6]) (by kernel_rfl) (by simp) ?_
  refine (AllReadyH.cons rfl (fun K hK => ?_) (AllReadyH.cons rfl (fun K hK => ?_) AllReadyH.nil))
  refine step_any rfl (op_loadK rfl onet101e rfl ((h9.bY.ext (by (repeat (first | with_reducible exact Ext.refl _ | with_reducible assumption | refine Ext.trans ?_ (by with_reducible assumption) | refine Ext.alloc ?_ _ _ | refine Ext.drew ?_ | refine Ext.drewN ?_ _)))).cell (i := 9) (by decide)) ?_)
  refine hK.out _ _ HH.out (fun hHeld => ?_)
  clear hK K HH
  have HH : Hid (Mod (fun x => x = Y ∨ x = F) W0 _) := hHeld
  clear hHeld
  change wpAnyH _ _ _ _ _ _ _ (Act.put _ (some 56) _) _
  simp only [Act.put, List.setIfInBounds_toArray, List.set_cons_zero, List.set_cons_succ]
  refine wpAnyH_ready (rs := [6]) (by kernel_rfl) (by simp) ?_
  refine AllReadyH.cons rfl (fun K hK => ?_) AllReadyH.nil
  refine step_any rfl (op_build1 156 Hvah.t156 z 60 rfl under101e info147e hz1 size147e hz2 (by decide) (by decide) (rowOf dB 0 60) (rowOf_size _ _ _) rfl ?_)
  rintro B9 W10 e10 r10 g10
  refine hK.out _ _ ?_ (fun hHeld => ?_)
  · exact HH.out.trans_ext e10
  clear hK K HH
  have HH : Hid (Mod (fun x => x = Y ∨ x = F) W0 _) := hHeld
  clear hHeld
  change wpAnyH _ _ _ _ _ _ _ (Act.put _ (some 58) _) _
  simp only [Act.put, List.setIfInBounds_toArray, List.set_cons_zero, List.set_cons_succ]
  refine wpAnyH_ready (rs := [7]) (by kernel_rfl) (by simp) ?_
  refine AllReadyH.cons rfl (fun K hK => ?_) AllReadyH.nil
  have h10 := h9.ext (show Ext W9 W10 by (repeat (first | with_reducible exact Ext.refl _ | with_reducible assumption | refine Ext.trans ?_ (by with_reducible assumption) | refine Ext.alloc ?_ _ _ | refine Ext.drew ?_ | refine Ext.drewN ?_ _)))
  refine step_appendV rfl _ _ 114 rfl 156 Hvah.t156 z 60 under101e info147e hz1 size147e hz2 bytes147e _ L.length F n d h10.fv (by omega) ⟨B9, 0, none⟩ 1 (rowOf dB 0 60).toList (by simp [rowOf_size]) r10 (fun u hu => hone60 u (by simpa using hu)) rfl rfl ?_
  rintro v' W11 b' d' hG
  have bY11 := grown_blk hG h10.bY h.ne
  have m11 : Mod (fun b => b = Y ∨ b = F) W10 W11 := by
    rcases hG.how with ⟨_, _, m⟩ | ⟨_, e⟩
    · exact m.sub (fun _ q => Or.inr q)
    · exact e.mod _
  refine hK.out _ _ ?_ (fun hHeld => ?_)
  · exact HH.out.trans m11
  clear hK K HH
  have HH : Hid (Mod (fun x => x = Y ∨ x = F) W0 _) := hHeld
  clear hHeld
  change wpAnyH _ _ _ _ _ _ _ (Act.put _ (some 59) _) _
  simp only [Act.put, List.setIfInBounds_toArray, List.set_cons_zero, List.set_cons_succ]
  refine wpAnyH_take (i := 8) (v := ?_) rfl (by kernel_rfl) (by kernel_rfl) (by kernel_rfl) (fun _ _ _ h => h) (Or.inl ⟨by rfl, ?_⟩) HH.out ?_
  rotate_left
  · intro w hSw; go_simp; try with_reducible rfl
  change wpAnyH _ _ _ _ _ _ _ (Act.put _ (some 60) _) _
  simp only [Act.put, List.setIfInBounds_toArray, List.set_cons_zero, List.set_cons_succ]
  refine wpAnyH_take (i := 9) (v := ?_) rfl (by kernel_rfl) (by kernel_rfl) (by kernel_rfl) (fun _ _ _ h => h) (Or.inl ⟨by rfl, ?_⟩) HH.out ?_
  rotate_left
  · intro w hSw; go_simp; try with_reducible rfl
  change wpAnyH _ _ _ _ _ _ _ (Act.put _ (some 61) _) _
  simp only [Act.put, List.setIfInBounds_toArray, List.set_cons_zero, List.set_cons_succ]
  refine wpAnyH_ready (rs := [10]) (by kernel_rfl) (by simp) ?_
  refine AllReadyH.cons rfl (fun K hK => ?_) AllReadyH.nil
  refine step_any rfl (op_store1 rfl onet101e rfl rfl (by obtain ⟨_, q⟩ := hG.some; rw [q]; rfl) bY11 (by decide) ?_)
  rintro W12 b12 m12
  refine hK.out _ _ ?_ (fun hHeld => ?_)
  · exact HH.out.trans (m12.sub (fun _ q => Or.inl q))
  clear hK K HH
  have HH : Hid (Mod (fun x => x = Y ∨ x = F) W0 _) := hHeld
  clear hHeld
  change wpAnyH _ _ _ _ _ _ _ (Act.put _ none _) _
  simp only [Act.put, List.setIfInBounds_toArray, List.set_cons_zero, List.set_cons_succ]
  refine wpAnyH_done (by kernel_rfl) ?_ _
  · obtain ⟨O', n', hZ, hOO, hM⟩ := h10.push (x := ⟨{ f with saved := st.now }, W, fun _ => False⟩) hG m12 b12 hfew (fun q => (hfr9.ext (show Ext W9 W10 by (repeat (first | with_reducible exact Ext.refl _ | with_reducible assumption | refine Ext.trans ?_ (by with_reducible assumption) | refine Ext.alloc ?_ _ _ | refine Ext.drew ?_ | refine Ext.drewN ?_ _)))).same (fun j hj => by rw [Nat.zero_add]; exact q j (dB j) (by rw [Array.getElem?_toList, rowOf_get, if_pos hj, Nat.zero_add]))) (fun b hb => hb)
    have hEnd : YEnt O TL w W12 Y F (((W.setNonce f.self 1).markMade f.self).move f.caller f.self f.value) start (st.enter f) tot (⟨{ f with saved := st.now }, W, fun _ => False⟩ :: L) := by
      have he : st.enter f = { st with now := (((st.now.setNonce f.self 1).markMade f.self).move f.caller f.self f.value), ret := [], frames := { f with saved := st.now } :: st.frames } := by simp [ASt.enter, hk, createsA]
      have hsz10 : w.heap.size ≤ W10.heap.size := Nat.le_trans E3.size (Nat.le_trans M9.size (Ext.size (show Ext W9 W10 by (repeat (first | with_reducible exact Ext.refl _ | with_reducible assumption | refine Ext.trans ?_ (by with_reducible assumption) | refine Ext.alloc ?_ _ _ | refine Ext.drew ?_ | refine Ext.drewN ?_ _)))))
      have hMM : Mod (fun b => b = Y ∨ b = F) w W12 := ((((E3.mod _).trans (M9.sub (fun _ q => Or.inl q))).trans_ext (show Ext W9 W10 by (repeat (first | with_reducible exact Ext.refl _ | with_reducible assumption | refine Ext.trans ?_ (by with_reducible assumption) | refine Ext.alloc ?_ _ _ | refine Ext.drew ?_ | refine Ext.drewN ?_ _))))).trans hM
      have hOO2 : ∀ b, b < w.heap.size → (O' b ↔ O b) := fun b hb => (hOO b (Nat.lt_of_lt_of_le hb hsz10)).trans ⟨fun q => q.elim id (fun q => by omega), Or.inl⟩
      rw [he]
      exact ⟨O', b', n', _, d', hZ, hOO2, hMM⟩
    clear hk
    go_wp2
    go_end0
    exact ⟨rfl, hEnd⟩
  refine step_any rfl (op_build1 156 Hvah.t156 z 60 rfl under101e info147e hz1 size147e hz2 (by decide) (by decide) (rowOf dB 0 60) (rowOf_size _ _ _) rfl ?_)
  rintro B9 W10 e10 r10 g10
  refine hK.out _ _ ?_ (fun hHeld => ?_)
  · exact HH.out.trans_ext e10
  clear hK K HH
  have HH : Hid (Mod (fun x => x = Y ∨ x = F) W0 _) := hHeld
  clear hHeld
  change wpAnyH _ _ _ _ _ _ _ (Act.put _ (some 58) _) _
  simp only [Act.put, List.setIfInBounds_toArray, List.set_cons_zero, List.set_cons_succ]
  refine wpAnyH_ready (rs := [4]) (by kernel_rfl) (by simp) ?_
  refine AllReadyH.cons rfl (fun K hK => ?_) AllReadyH.nil
  refine step_any rfl (op_loadK rfl onet101e rfl ((h9.bY.ext (by (repeat (first | with_reducible exact Ext.refl _ | with_reducible assumption | refine Ext.trans ?_ (by with_reducible assumption) | refine Ext.alloc ?_ _ _ | refine Ext.drew ?_ | refine Ext.drewN ?_ _)))).cell (i := 9) (by decide)) ?_)
  refine hK.out _ _ HH.out (fun hHeld => ?_)
  clear hK K HH
  have HH : Hid (Mod (fun x => x = Y ∨ x = F) W0 _) := hHeld
  clear hHeld
  change wpAnyH _ _ _ _ _ _ _ (Act.put _ (some 56) _) _
  simp only [Act.put, List.setIfInBounds_toArray, List.set_cons_zero, List.set_cons_succ]
  refine wpAnyH_ready (rs := [7]) (by kernel_rfl) (by simp) ?_
  refine AllReadyH.cons rfl (fun K hK => ?_) AllReadyH.nil
  have h10 := h9.ext (show Ext W9 W10 by (repeat (first | with_reducible exact Ext.refl _ | with_reducible assumption | refine Ext.trans ?_ (by with_reducible assumption) | refine Ext.alloc ?_ _ _ | refine Ext.drew ?_ | refine Ext.drewN ?_ _)))
  refine step_appendV rfl _ _ 114 rfl 156 Hvah.t156 z 60 under101e info147e hz1 size147e hz2 bytes147e _ L.length F n d h10.fv (by omega) ⟨B9, 0, none⟩ 1 (rowOf dB 0 60).toList (by simp [rowOf_size]) r10 (fun u hu => hone60 u (by simpa using hu)) rfl rfl ?_
  rintro v' W11 b' d' hG
  have bY11 := grown_blk hG h10.bY h.ne
  have m11 : Mod (fun b => b = Y ∨ b = F) W10 W11 := by
    rcases hG.how with ⟨_, _, m⟩ | ⟨_, e⟩
    · exact m.sub (fun _ q => Or.inr q)
    · exact e.mod _
  refine hK.out _ _ ?_ (fun hHeld => ?_)
  · exact HH.out.trans m11
  clear hK K HH
  have HH : Hid (Mod (fun x => x = Y ∨ x = F) W0 _) := hHeld
  clear hHeld
  change wpAnyH _ _ _ _ _ _ _ (Act.put _ (some 59) _) _
  simp only [Act.put, List.setIfInBounds_toArray, List.set_cons_zero, List.set_cons_succ]
  refine wpAnyH_take (i := 8) (v := ?_) rfl (by kernel_rfl) (by kernel_rfl) (by kernel_rfl) (fun _ _ _ h => h) (Or.inl ⟨by rfl, ?_⟩) HH.out ?_
  rotate_left
  · intro w hSw; go_simp; try with_reducible rfl
  change wpAnyH _ _ _ _ _ _ _ (Act.put _ (some 60) _) _
  simp only [Act.put, List.setIfInBounds_toArray, List.set_cons_zero, List.set_cons_succ]
  refine wpAnyH_take (i := 9) (v := ?_) rfl (by kernel_rfl) (by kernel_rfl) (by kernel_rfl) (fun _ _ _ h => h) (Or.inl ⟨by rfl, ?_⟩) HH.out ?_
  rotate_left
  · intro w hSw; go_simp; try with_reducible rfl
  change wpAnyH _ _ _ _ _ _ _ (Act.put _ (some 61) _) _
  simp only [Act.put, List.setIfInBounds_toArray, List.set_cons_zero, List.set_cons_succ]
  refine wpAnyH_ready (rs := [10]) (by kernel_rfl) (by simp) ?_
  refine AllReadyH.cons rfl (fun K hK => ?_) AllReadyH.nil
  refine step_any rfl (op_store1 rfl onet101e rfl rfl (by obtain ⟨_, q⟩ := hG.some; rw [q]; rfl) bY11 (by decide) ?_)
  rintro W12 b12 m12
  refine hK.out _ _ ?_ (fun hHeld => ?_)
  · exact HH.out.trans (m12.sub (fun _ q => Or.inl q))
  clear hK K HH
  have HH : Hid (Mod (fun x => x = Y ∨ x = F) W0 _) := hHeld
  clear hHeld
  change wpAnyH _ _ _ _ _ _ _ (Act.put _ none _) _
  simp only [Act.put, List.setIfInBounds_toArray, List.set_cons_zero, List.set_cons_succ]
  refine wpAnyH_done (by kernel_rfl) ?_ _
  · obtain ⟨O', n', hZ, hOO, hM⟩ := h10.push (x := ⟨{ f with saved := st.now }, W, fun _ => False⟩) hG m12 b12 hfew (fun q => (hfr9.ext (show Ext W9 W10 by (repeat (first | with_reducible exact Ext.refl _ | with_reducible assumption | refine Ext.trans ?_ (by with_reducible assumption) | refine Ext.alloc ?_ _ _ | refine Ext.drew ?_ | refine Ext.drewN ?_ _)))).same (fun j hj => by rw [Nat.zero_add]; exact q j (dB j) (by rw [Array.getElem?_toList, rowOf_get, if_pos hj, Nat.zero_add]))) (fun b hb => hb)
    have hEnd : YEnt O TL w W12 Y F (((W.setNonce f.self 1).markMade f.self).move f.caller f.self f.value) start (st.enter f) tot (⟨{ f with saved := st.now }, W, fun _ => False⟩ :: L) := by
      have he : st.enter f = { st with now := (((st.now.setNonce f.self 1).markMade f.self).move f.caller f.self f.value), ret := [], frames := { f with saved := st.now } :: st.frames } := by simp [ASt.enter, hk, createsA]
      have hsz10 : w.heap.size ≤ W10.heap.size := Nat.le_trans E3.size (Nat.le_trans M9.size (Ext.size (show Ext W9 W10 by (repeat (first | with_reducible exact Ext.refl _ | with_reducible assumption | refine Ext.trans ?_ (by with_reducible assumption) | refine Ext.alloc ?_ _ _ | refine Ext.drew ?_ | refine Ext.drewN ?_ _)))))
      have hMM : Mod (fun b => b = Y ∨ b = F) w W12 := ((((E3.mod _).trans (M9.sub (fun _ q => Or.inl q))).trans_ext (show Ext W9 W10 by (repeat (first | with_reducible exact Ext.refl _ | with_reducible assumption | refine Ext.trans ?_ (by with_reducible assumption) | refine Ext.alloc ?_ _ _ | refine Ext.drew ?_ | refine Ext.drewN ?_ _))))).trans hM
      have hOO2 : ∀ b, b < w.heap.size → (O' b ↔ O b) := fun b hb => (hOO b (Nat.lt_of_lt_of_le hb hsz10)).trans ⟨fun q => q.elim id (fun q => by omega), Or.inl⟩
      rw [he]
      exact ⟨O', b', n', _, d', hZ, hOO2, hMM⟩
    clear hk
    go_wp2
    go_end0
    exact ⟨rfl, hEnd⟩
set_option maxRecDepth 100000 in
set_option maxHeartbeats 6400000 in
theorem zEnter6 (HLG : ∀ {O T : Nat → Prop} {w : World} {v : Value} {l : List ALog}, Small O w → LogL T O w v l → l.length ≤ 100000 → Calls Hvah.prog 80 #[v] w fun e w' => ∃ r, e = .returned r ∧ GRow 141 22 (LgC O w') (fun b => ¬ O b) w' r l ∧ Full r ∧ Ext w w') (h : YZ O TL w Y F n c d W start st tot L) (fr : Array Value) (hsz : fr.size = 60) (hones : Ones fr) (f : AFrame) (hk : f.kind = 6) (hf : YFC O (fun _ => False) w (cf fr) 0 f) (hok : FOK f) (hsl : ∀ x ∈ W.accts, x.slots.length ≤ 90000) (hfew : L.length < 7) (hl1 : YLim (W.setNonce f.self 1)) (hl2 : YLim ((W.setNonce f.self 1).markMade f.self)) (hl3 : YLim (((W.setNonce f.self 1).markMade f.self).setBal f.caller ((((W.setNonce f.self 1).markMade f.self).acct f.caller).bal - f.value))) (hl4 : YLim (((W.setNonce f.self 1).markMade f.self).move f.caller f.self f.value)) :
    Calls Hvah.prog 65 #[.pointer (some ⟨Y, 0, none⟩), .agg fr] w fun e w' => e = .returned (.tuple #[]) ∧ YEnt O TL w w' Y F (((W.setNonce f.self 1).markMade f.self).move f.caller f.self f.value) start (st.enter f) tot (⟨{ f with saved := st.now }, W, fun _ => False⟩ :: L) := by
  have hYl : Y < w.heap.size := h.bY.lt
  have hFl : F < w.heap.size := h.small F h.oF
  go_enter Hvah.func65, Hvah.ntmps65
  go_upto_region 1 with ((with_reducible (refine Veil.out ?_; apply wl_boxB)); (case hx => rfl); (case hn => exact hsz); rintro B W1 e1 b1 g1)
  have hBY : ¬ B = Y := by omega
  have hBF : ¬ B = F := by omega
  have h1 := h.wd e1 b1.lt g1
  obtain ⟨T, hT⟩ : ∃ T, LogL T (Wd O B) W1 (c 4) W.logs := h1.lg.elim (fun k => ⟨_, k⟩) (fun k => ⟨_, k.1⟩)
  have HC := fun W2 (q : Ext W1 W2) => yClone (w := W2) HLG (h1.ext q).small (h1.ext q).bY (h1.ext q).wc (GRow.ext hT q (fun _ _ _ k => k.ext q)) h1.lim hsl
  go_upto_region 2 with (first | (go_at_call 140; refine (HC _ (by (repeat (first | with_reducible exact Ext.refl _ | with_reducible assumption | refine Ext.trans ?_ (by with_reducible assumption) | refine Ext.alloc ?_ _ _ | refine Ext.drew ?_ | refine Ext.drewN ?_ _)))).mono ?_; rintro e w2 ⟨r, rfl, hr8, hro, hrw, hrl, hrf, e2⟩) | ((with_reducible (refine Veil.out ?_; apply wl_storeRow rt99e)); (case hx => rfl); (case hy => rfl); (case hr => exact hr8); (case h1 => exact hro); (case hB => exact b1.ext e2); (case hi => decide); rintro W3 b3 m3))
  have hfr := ye_frame h hf hok g1 e1 e2 m3 hr8 hrw hrl hrf
  have h3 : YZ (Wd O B) TL W3 Y F n c d W start st tot L := (h1.ext e2).keepS m3 (fun b hb q => hb (Or.inr q)) (fun q => hBY q.symm) (fun q => hBF q.symm) (fun x hx b hb q => by have := h.small b (h.tm x hx b hb).1; omega) (fun b hb q => by have := h.small b (h.tl b hb).1; omega)
  have M3 : Mod (· = B) w W3 := ((e1.trans e2).mod _).trans m3
  obtain ⟨dB, hdB⟩ : ∃ dB, dB = layv (cf fr) 52 r := ⟨_, rfl⟩
  rw [← hdB] at hfr b3
  have hone60 : Ones (rowOf dB 0 60) := ones_of (fun q hq => by
    rw [rowOf_size] at hq
    rw [cf_rowOf _ _ _ hq, Nat.zero_add, hdB]
    rcases Nat.lt_or_ge q 52 with k | k
    · rw [layv_out _ _ _ (Or.inl k)]; exact Ones.get hones (by omega)
    · have k2 := layv_in (cf fr) 52 r (j := q - 52) (by omega)
      rw [show 52 + (q - 52) = q by omega] at k2
      rw [k2]; exact Ones.get hro (by omega))
  have E3 : Ext w W3 := Ext.trans_mod (e1.trans e2) m3 (fun q hq => by have hq2 : q = B := hq; rw [hq2]; exact g1)
  have hk0 : dB 0 = .int .u8 6 := by have := hfr.fc.kind; simp only [hk] at this; exact this
  have hself : AAt dB 12 f.self := by have := hfr.fc.self; rwa [Nat.zero_add] at this
  have hcall : AAt dB 32 f.caller := by have := hfr.fc.caller; rwa [Nat.zero_add] at this
  have hsY : ∀ b, ¬ Wd O B b → ¬ b = Y := fun b hb q => hb (q ▸ h3.oY)
  clear HC hT hrw hrl hrf hf h1 hdB hones hro m3 b1
  go_upto_if 11 with (first | ((with_reducible (refine Veil.out ?_; apply wl_loadC onet5e)); (case hw => rfl); (case hx => rfl); (case hc => exact (b3.cell (i := 0) (by decide)).trans (congrArg some hk0))) | (go_at_call 141; refine (yCreates 6 (by decide)).mono ?_; rintro e w4 ⟨rfl, e4⟩; have e5 := e4.symm; subst e5))
  have hval : NV (Wd O B) W3 (dB 5) f.value := hfr.fc.value
  have M0 : Mod (· = Y) W3 W3 := Mod.refl _ _
  go_upto_region 3 with (fail)
  refine w_ext ?_
  rintro W0 hW0
  refine wp_region_held_drew (S := fun w' => Mod (fun x => x = Y) W0 w') (by kernel_rfl) (Mod.refl _ _).drew (fun hHeld => ?_)
  have HH : Hid (Mod (fun x => x = Y) W0 _) := hHeld
  clear hHeld
  refine wpAnyH_take (i := 0) (v := ?_) rfl (by kernel_rfl) (by kernel_rfl) (by kernel_rfl) (fun _ _ _ h => h) (Or.inl ⟨by rfl, ?_⟩) HH.out ?_
  rotate_left
  · intro w hSw; go_simp; try with_reducible rfl
  change wpAnyH _ _ _ _ _ _ _ (Act.put _ (some 12) _) _
  simp only [Act.put, List.setIfInBounds_toArray, List.set_cons_zero, List.set_cons_succ]
  refine wpAnyH_take (i := 1) (v := ?_) rfl (by kernel_rfl) (by kernel_rfl) (by kernel_rfl) (fun _ _ _ h => h) (Or.inl ⟨by rfl, ?_⟩) HH.out ?_
  rotate_left
  · intro w hSw; go_simp; try with_reducible rfl
  change wpAnyH _ _ _ _ _ _ _ (Act.put _ (some 13) _) _
  simp only [Act.put, List.setIfInBounds_toArray, List.set_cons_zero, List.set_cons_succ]
  refine wpAnyH_take (i := 2) (v := ?_) rfl (by kernel_rfl) (by kernel_rfl) (by kernel_rfl) (fun _ _ _ h => h) (Or.inl ⟨by rfl, ?_⟩) HH.out ?_
  rotate_left
  · intro w hSw; go_simp; try with_reducible rfl
  change wpAnyH _ _ _ _ _ _ _ (Act.put _ (some 14) _) _
  simp only [Act.put, List.setIfInBounds_toArray, List.set_cons_zero, List.set_cons_succ]
  refine wpAnyH_take (i := 3) (v := ?_) rfl (by kernel_rfl) (by kernel_rfl) (by kernel_rfl) (fun _ _ _ h => h) (Or.inl ⟨by rfl, ?_⟩) HH.out ?_
  rotate_left
  · intro w hSw; go_simp; try with_reducible rfl
  change wpAnyH _ _ _ _ _ _ _ (Act.put _ (some 15) _) _
  simp only [Act.put, List.setIfInBounds_toArray, List.set_cons_zero, List.set_cons_succ]
  refine wpAnyH_take (i := 4) rfl (by kernel_rfl) (by kernel_rfl) (by kernel_rfl) (fun _ _ _ h => h) (yields_A (by rfl) rfl rfl (fun w hSw => (b3.ext hW0).mod hSw hBY) hself hok.self (by decide)) HH.out ?_
  change wpAnyH _ _ _ _ _ _ _ (Act.put _ (some 16) _) _
  simp only [Act.put, List.setIfInBounds_toArray, List.set_cons_zero, List.set_cons_succ]
  refine wpAnyH_ready (rs := [5]) (by kernel_rfl) (by simp) ?_
  refine AllReadyH.cons rfl (fun K hK => ?_) AllReadyH.nil
  go_simp
  go_at_call 42; refine (nNum (Wd O B) 1 _ (h3.ext (by (repeat (first | with_reducible exact Ext.refl _ | with_reducible assumption | refine Ext.trans ?_ (by with_reducible assumption) | refine Ext.alloc ?_ _ _ | refine Ext.drew ?_ | refine Ext.drewN ?_ _)))).small (by decide)).mono ?_; rintro e w4 ⟨one, rfl, hone, he⟩
  refine hK.out _ _ ?_ (fun hHeld => ?_)
  · first | exact HH.out.trans hmY | exact HH.out.trans_ext he | exact HH.out
  clear hK K HH
  have HH : Hid (Mod (fun x => x = Y) W0 _) := hHeld
  clear hHeld
  refine wpAnyH_ready (rs := [6]) (by kernel_rfl) (by simp) ?_
  refine AllReadyH.cons rfl (fun K hK => ?_) AllReadyH.nil
  go_simp
  go_at_call 58; refine (zSetNonce (h3.ext (by (repeat (first | with_reducible exact Ext.refl _ | with_reducible assumption | refine Ext.trans ?_ (by with_reducible assumption) | refine Ext.alloc ?_ _ _ | refine Ext.drew ?_ | refine Ext.drewN ?_ _)))) f.self hok.self one 1 (hone.ext (by (repeat (first | with_reducible exact Ext.refl _ | with_reducible assumption | refine Ext.trans ?_ (by with_reducible assumption) | refine Ext.alloc ?_ _ _ | refine Ext.drew ?_ | refine Ext.drewN ?_ _)))) hl1).mono ?_; rintro e w5 ⟨c5, rfl, h5, hmY⟩
  refine hK.out _ _ ?_ (fun hHeld => ?_)
  · first | exact HH.out.trans hmY | exact HH.out.trans_ext he | exact HH.out
  clear hK K HH
  have HH : Hid (Mod (fun x => x = Y) W0 _) := hHeld
  clear hHeld
  refine wpAnyH_done (by kernel_rfl) ?_ _
  have M5 : Mod (· = Y) W3 w5 := ((Mod.refl _ W3).trans_ext hW0).trans HH.out
  have b5 := b3.mod M5 hBY
  clear HH hW0 hone he
  go_upto_region 4 with (fail)
  refine w_ext ?_
  rintro W0 hW0
  refine wp_region_held_drew (S := fun w' => Mod (fun x => x = Y) W0 w') (by kernel_rfl) (Mod.refl _ _).drew (fun hHeld => ?_)
  have HH : Hid (Mod (fun x => x = Y) W0 _) := hHeld
  clear hHeld
  refine wpAnyH_take (i := 0) (v := ?_) rfl (by kernel_rfl) (by kernel_rfl) (by kernel_rfl) (fun _ _ _ h => h) (Or.inl ⟨by rfl, ?_⟩) HH.out ?_
  rotate_left
  · intro w hSw; go_simp; try with_reducible rfl
  change wpAnyH _ _ _ _ _ _ _ (Act.put _ (some 19) _) _
  simp only [Act.put, List.setIfInBounds_toArray, List.set_cons_zero, List.set_cons_succ]
  refine wpAnyH_take (i := 1) (v := ?_) rfl (by kernel_rfl) (by kernel_rfl) (by kernel_rfl) (fun _ _ _ h => h) (Or.inl ⟨by rfl, ?_⟩) HH.out ?_
  rotate_left
  · intro w hSw; go_simp; try with_reducible rfl
  change wpAnyH _ _ _ _ _ _ _ (Act.put _ (some 20) _) _
  simp only [Act.put, List.setIfInBounds_toArray, List.set_cons_zero, List.set_cons_succ]
  refine wpAnyH_take (i := 2) (v := ?_) rfl (by kernel_rfl) (by kernel_rfl) (by kernel_rfl) (fun _ _ _ h => h) (Or.inl ⟨by rfl, ?_⟩) HH.out ?_
  rotate_left
  · intro w hSw; go_simp; try with_reducible rfl
  change wpAnyH _ _ _ _ _ _ _ (Act.put _ (some 21) _) _
  simp only [Act.put, List.setIfInBounds_toArray, List.set_cons_zero, List.set_cons_succ]
  refine wpAnyH_take (i := 3) (v := ?_) rfl (by kernel_rfl) (by kernel_rfl) (by kernel_rfl) (fun _ _ _ h => h) (Or.inl ⟨by rfl, ?_⟩) HH.out ?_
  rotate_left
  · intro w hSw; go_simp; try with_reducible rfl
  change wpAnyH _ _ _ _ _ _ _ (Act.put _ (some 22) _) _
  simp only [Act.put, List.setIfInBounds_toArray, List.set_cons_zero, List.set_cons_succ]
  refine wpAnyH_take (i := 4) (v := ?_) rfl (by kernel_rfl) (by kernel_rfl) (by kernel_rfl) (fun _ _ _ h => h) (Or.inl ⟨by rfl, ?_⟩) HH.out ?_
  rotate_left
  · intro w hSw; go_simp; try with_reducible rfl
  change wpAnyH _ _ _ _ _ _ _ (Act.put _ (some 23) _) _
  simp only [Act.put, List.setIfInBounds_toArray, List.set_cons_zero, List.set_cons_succ]
  refine wpAnyH_take (i := 6) (v := ?_) rfl (by kernel_rfl) (by kernel_rfl) (by kernel_rfl) (fun _ _ _ h => h) (Or.inl ⟨by rfl, ?_⟩) HH.out ?_
  rotate_left
  · intro w hSw; go_simp; try with_reducible rfl
  change wpAnyH _ _ _ _ _ _ _ (Act.put _ (some 25) _) _
  simp only [Act.put, List.setIfInBounds_toArray, List.set_cons_zero, List.set_cons_succ]
  refine wpAnyH_take (i := 7) rfl (by kernel_rfl) (by kernel_rfl) (by kernel_rfl) (fun _ _ _ h => h) (yields_A (by rfl) rfl rfl (fun w hSw => (b5.ext hW0).mod hSw hBY) hself hok.self (by decide)) HH.out ?_
  change wpAnyH _ _ _ _ _ _ _ (Act.put _ (some 26) _) _
  simp only [Act.put, List.setIfInBounds_toArray, List.set_cons_zero, List.set_cons_succ]
  refine wpAnyH_ready (rs := [5]) (by kernel_rfl) (by simp) ?_
  refine AllReadyH.cons rfl (fun K hK => ?_) AllReadyH.nil
  refine step_any rfl (op_loadK rfl onet94e rfl ((h5.bY.ext (by (repeat (first | with_reducible exact Ext.refl _ | with_reducible assumption | refine Ext.trans ?_ (by with_reducible assumption) | refine Ext.alloc ?_ _ _ | refine Ext.drew ?_ | refine Ext.drewN ?_ _)))).cell (i := 6) (by decide)) ?_)
  refine hK.out _ _ HH.out (fun hHeld => ?_)
  clear hK K HH
  have HH : Hid (Mod (fun x => x = Y) W0 _) := hHeld
  clear hHeld
  change wpAnyH _ _ _ _ _ _ _ (Act.put _ (some 24) _) _
  simp only [Act.put, List.setIfInBounds_toArray, List.set_cons_zero, List.set_cons_succ]
  refine wpAnyH_ready (rs := [8]) (by kernel_rfl) (by simp) ?_
  refine AllReadyH.cons rfl (fun K hK => ?_) AllReadyH.nil
  go_simp
  go_at_call 137; refine (yWithAddr (Wd O B) (c5 6) _ f.self _ (h5.ext (by (repeat (first | with_reducible exact Ext.refl _ | with_reducible assumption | refine Ext.trans ?_ (by with_reducible assumption) | refine Ext.alloc ?_ _ _ | refine Ext.drew ?_ | refine Ext.drewN ?_ _)))).small (AddrL.ext (show AddrL (Wd O B) w5 (c5 6) _ from h5.wc.made) (by (repeat (first | with_reducible exact Ext.refl _ | with_reducible assumption | refine Ext.trans ?_ (by with_reducible assumption) | refine Ext.alloc ?_ _ _ | refine Ext.drew ?_ | refine Ext.drewN ?_ _)))) hok.self (Nat.le_trans h5.lim.made (by decide))).mono ?_; rintro e w6 ⟨mv, rfl, hmv, he⟩
  refine hK.out _ _ ?_ (fun hHeld => ?_)
  · first | exact HH.out.trans hmY | exact HH.out.trans_ext he | exact HH.out
  clear hK K HH
  have HH : Hid (Mod (fun x => x = Y) W0 _) := hHeld
  clear hHeld
  refine wpAnyH_take (i := 9) (v := ?_) rfl (by kernel_rfl) (by kernel_rfl) (by kernel_rfl) (fun _ _ _ h => h) (Or.inl ⟨by rfl, ?_⟩) HH.out ?_
  rotate_left
  · intro w hSw; go_simp; try with_reducible rfl
  change wpAnyH _ _ _ _ _ _ _ (Act.put _ (some 28) _) _
  simp only [Act.put, List.setIfInBounds_toArray, List.set_cons_zero, List.set_cons_succ]
  refine wpAnyH_take (i := 10) (v := ?_) rfl (by kernel_rfl) (by kernel_rfl) (by kernel_rfl) (fun _ _ _ h => h) (Or.inl ⟨by rfl, ?_⟩) HH.out ?_
  rotate_left
  · intro w hSw; go_simp; try with_reducible rfl
  change wpAnyH _ _ _ _ _ _ _ (Act.put _ (some 29) _) _
  simp only [Act.put, List.setIfInBounds_toArray, List.set_cons_zero, List.set_cons_succ]
  refine wpAnyH_take (i := 11) (v := ?_) rfl (by kernel_rfl) (by kernel_rfl) (by kernel_rfl) (fun _ _ _ h => h) (Or.inl ⟨by rfl, ?_⟩) HH.out ?_
  rotate_left
  · intro w hSw; go_simp; try with_reducible rfl
  change wpAnyH _ _ _ _ _ _ _ (Act.put _ (some 30) _) _
  simp only [Act.put, List.setIfInBounds_toArray, List.set_cons_zero, List.set_cons_succ]
  refine wpAnyH_ready (rs := [12]) (by kernel_rfl) (by simp) ?_
  refine AllReadyH.cons rfl (fun K hK => ?_) AllReadyH.nil
  refine step_any rfl (op_store1 rfl onet94e rfl rfl (addr_onec hmv) (h5.bY.ext (by (repeat (first | with_reducible exact Ext.refl _ | with_reducible assumption | refine Ext.trans ?_ (by with_reducible assumption) | refine Ext.alloc ?_ _ _ | refine Ext.drew ?_ | refine Ext.drewN ?_ _)))) (by decide) ?_)
  rintro W7 b7 m7
  refine hK.out _ _ ?_ (fun hHeld => ?_)
  · exact HH.out.trans m7
  clear hK K HH
  have HH : Hid (Mod (fun x => x = Y) W0 _) := hHeld
  clear hHeld
  change wpAnyH _ _ _ _ _ _ _ (Act.put _ none _) _
  simp only [Act.put, List.setIfInBounds_toArray, List.set_cons_zero, List.set_cons_succ]
  refine wpAnyH_done (by kernel_rfl) ?_ _
  have h7 := (h5.ext (by (repeat (first | with_reducible exact Ext.refl _ | with_reducible assumption | refine Ext.trans ?_ (by with_reducible assumption) | refine Ext.alloc ?_ _ _ | refine Ext.drew ?_ | refine Ext.drewN ?_ _)))).putMade f.self m7 b7 (AddrL.keep (AddrL.ext hmv (by (repeat (first | with_reducible exact Ext.refl _ | with_reducible assumption | refine Ext.trans ?_ (by with_reducible assumption) | refine Ext.alloc ?_ _ _ | refine Ext.drew ?_ | refine Ext.drewN ?_ _)))) m7 hsY) hl2 (YW.markMade_wf h5.wf _)
  have M7 : Mod (· = Y) W3 W7 := (M5.trans_ext hW0).trans HH.out
  have bb7 := b5.mod (((Mod.refl (· = Y) w5).trans_ext hW0).trans HH.out) hBY
  clear HH hW0 he
  go_upto_if 38 with (first | ((with_reducible (refine Veil.out ?_; apply wl_loadC onet5e)); (case hw => rfl); (case hx => rfl); (case hc => exact (bb7.cell (i := 0) (by decide)).trans (congrArg some hk0))))
  go_upto_region 6 with (fail)
  refine w_ext ?_
  rintro W0 hW0
  refine wp_region_held_drew (S := fun w' => Mod (fun x => x = Y) W0 w') (by kernel_rfl) (Mod.refl _ _).drew (fun hHeld => ?_)
  have HH : Hid (Mod (fun x => x = Y) W0 _) := hHeld
  clear hHeld
  refine wpAnyH_take (i := 0) (v := ?_) rfl (by kernel_rfl) (by kernel_rfl) (by kernel_rfl) (fun _ _ _ h => h) (Or.inl ⟨by rfl, ?_⟩) HH.out ?_
  rotate_left
  · intro w hSw; go_simp; try with_reducible rfl
  change wpAnyH _ _ _ _ _ _ _ (Act.put _ (some 39) _) _
  simp only [Act.put, List.setIfInBounds_toArray, List.set_cons_zero, List.set_cons_succ]
  refine wpAnyH_take (i := 1) (v := ?_) rfl (by kernel_rfl) (by kernel_rfl) (by kernel_rfl) (fun _ _ _ h => h) (Or.inl ⟨by rfl, ?_⟩) HH.out ?_
  rotate_left
  · intro w hSw; go_simp; try with_reducible rfl
  change wpAnyH _ _ _ _ _ _ _ (Act.put _ (some 40) _) _
  simp only [Act.put, List.setIfInBounds_toArray, List.set_cons_zero, List.set_cons_succ]
  refine wpAnyH_take (i := 2) (v := ?_) rfl (by kernel_rfl) (by kernel_rfl) (by kernel_rfl) (fun _ _ _ h => h) (Or.inl ⟨by rfl, ?_⟩) HH.out ?_
  rotate_left
  · intro w hSw; go_simp; try with_reducible rfl
  change wpAnyH _ _ _ _ _ _ _ (Act.put _ (some 41) _) _
  simp only [Act.put, List.setIfInBounds_toArray, List.set_cons_zero, List.set_cons_succ]
  refine wpAnyH_take (i := 3) (v := ?_) rfl (by kernel_rfl) (by kernel_rfl) (by kernel_rfl) (fun _ _ _ h => h) (Or.inl ⟨by rfl, ?_⟩) HH.out ?_
  rotate_left
  · intro w hSw; go_simp; try with_reducible rfl
  change wpAnyH _ _ _ _ _ _ _ (Act.put _ (some 42) _) _
  simp only [Act.put, List.setIfInBounds_toArray, List.set_cons_zero, List.set_cons_succ]
  refine wpAnyH_take (i := 4) rfl (by kernel_rfl) (by kernel_rfl) (by kernel_rfl) (fun _ _ _ h => h) (yields_A (by rfl) rfl rfl (fun w hSw => (bb7.ext hW0).mod hSw hBY) hcall hok.caller (by decide)) HH.out ?_
  change wpAnyH _ _ _ _ _ _ _ (Act.put _ (some 43) _) _
  simp only [Act.put, List.setIfInBounds_toArray, List.set_cons_zero, List.set_cons_succ]
  refine wpAnyH_take (i := 5) (v := ?_) rfl (by kernel_rfl) (by kernel_rfl) (by kernel_rfl) (fun _ _ _ h => h) (Or.inl ⟨by rfl, ?_⟩) HH.out ?_
  rotate_left
  · intro w hSw; go_simp; try with_reducible rfl
  change wpAnyH _ _ _ _ _ _ _ (Act.put _ (some 44) _) _
  simp only [Act.put, List.setIfInBounds_toArray, List.set_cons_zero, List.set_cons_succ]
  refine wpAnyH_take (i := 6) rfl (by kernel_rfl) (by kernel_rfl) (by kernel_rfl) (fun _ _ _ h => h) (yields_A (by rfl) rfl rfl (fun w hSw => (bb7.ext hW0).mod hSw hBY) hself hok.self (by decide)) HH.out ?_
  change wpAnyH _ _ _ _ _ _ _ (Act.put _ (some 45) _) _
  simp only [Act.put, List.setIfInBounds_toArray, List.set_cons_zero, List.set_cons_succ]
  refine wpAnyH_take (i := 7) (v := ?_) rfl (by kernel_rfl) (by kernel_rfl) (by kernel_rfl) (fun _ _ _ h => h) (Or.inl ⟨by rfl, ?_⟩) HH.out ?_
  rotate_left
  · intro w hSw; go_simp; try with_reducible rfl
  change wpAnyH _ _ _ _ _ _ _ (Act.put _ (some 46) _) _
  simp only [Act.put, List.setIfInBounds_toArray, List.set_cons_zero, List.set_cons_succ]
  refine wpAnyH_take (i := 8) rfl (by kernel_rfl) (by kernel_rfl) (by kernel_rfl) (fun _ _ _ h => h) (yieldsIf_load1 (by rfl) _ _ rfl _ _ rfl onet96e _ (fun w hSw => ((bb7.ext hW0).mod hSw hBY).cell (i := 5) (by decide))) HH.out ?_
  change wpAnyH _ _ _ _ _ _ _ (Act.put _ (some 47) _) _
  simp only [Act.put, List.setIfInBounds_toArray, List.set_cons_zero, List.set_cons_succ]
  refine wpAnyH_ready (rs := [9]) (by kernel_rfl) (by simp) ?_
  refine AllReadyH.cons rfl (fun K hK => ?_) AllReadyH.nil
  go_simp
  go_at_call 142; refine (zMove (h7.ext (by (repeat (first | with_reducible exact Ext.refl _ | with_reducible assumption | refine Ext.trans ?_ (by with_reducible assumption) | refine Ext.alloc ?_ _ _ | refine Ext.drew ?_ | refine Ext.drewN ?_ _)))) f.caller f.self hok.caller hok.self (dB 5) f.value (((hval.keep M7 hsY)).ext (by (repeat (first | with_reducible exact Ext.refl _ | with_reducible assumption | refine Ext.trans ?_ (by with_reducible assumption) | refine Ext.alloc ?_ _ _ | refine Ext.drew ?_ | refine Ext.drewN ?_ _)))) hok.value hl3 hl4).mono ?_; rintro e w8 ⟨c8, rfl, h8, hmY⟩
  refine hK.out _ _ ?_ (fun hHeld => ?_)
  · first | exact HH.out.trans hmY | exact HH.out.trans_ext he | exact HH.out
  clear hK K HH
  have HH : Hid (Mod (fun x => x = Y) W0 _) := hHeld
  clear hHeld
  refine wpAnyH_done (by kernel_rfl) ?_ _
  have M8 : Mod (· = Y) W3 w8 := (M7.trans_ext hW0).trans HH.out
  clear HH hW0
  go_upto_region 8 with ((with_reducible (refine Veil.out ?_; apply wl_storeC onet32e)); (case hx => rfl); (case hy => rfl); (case h1 => rfl); (case hB => exact h8.bY); (case hi => decide); rintro W9 b9 m9)
  have h9 := h8.putRet m9 (l := []) NL.nil b9
  have M9 : Mod (· = Y) W3 W9 := M8.trans m9
  have bb9 := b3.mod M9 hBY
  have hfr9 := hfr.keep M9 hsY (fun b hb => absurd hb id)
  obtain ⟨z, hz1, hz2⟩ := z147e
  refine w_ext ?_
  rintro W0 hW0
  refine wp_region_held_drew (S := fun w' => Mod (fun x => x = Y ∨ x = F) W0 w') (by kernel_rfl) (Mod.refl _ _).drew (fun hHeld => ?_)
  have HH : Hid (Mod (fun x => x = Y ∨ x = F) W0 _) := hHeld
  clear hHeld
  refine wpAnyH_take (i := 0) (v := ?_) rfl (by kernel_rfl) (by kernel_rfl) (by kernel_rfl) (fun _ _ _ h => h) (Or.inl ⟨by rfl, ?_⟩) HH.out ?_
  rotate_left
  · intro w hSw; go_simp; try with_reducible rfl
  change wpAnyH _ _ _ _ _ _ _ (Act.put _ (some 52) _) _
  simp only [Act.put, List.setIfInBounds_toArray, List.set_cons_zero, List.set_cons_succ]
  refine wpAnyH_take (i := 1) (v := ?_) rfl (by kernel_rfl) (by kernel_rfl) (by kernel_rfl) (fun _ _ _ h => h) (Or.inl ⟨by rfl, ?_⟩) HH.out ?_
  rotate_left
  · intro w hSw; go_simp; try with_reducible rfl
  change wpAnyH _ _ _ _ _ _ _ (Act.put _ (some 53) _) _
  simp only [Act.put, List.setIfInBounds_toArray, List.set_cons_zero, List.set_cons_succ]
  refine wpAnyH_take (i := 2) (v := ?_) rfl (by kernel_rfl) (by kernel_rfl) (by kernel_rfl) (fun _ _ _ h => h) (Or.inl ⟨by rfl, ?_⟩) HH.out ?_
  rotate_left
  · intro w hSw; go_simp; try with_reducible rfl
  change wpAnyH _ _ _ _ _ _ _ (Act.put _ (some 54) _) _
  simp only [Act.put, List.setIfInBounds_toArray, List.set_cons_zero, List.set_cons_succ]
  refine wpAnyH_take (i := 3) (v := ?_) rfl (by kernel_rfl) (by kernel_rfl) (by kernel_rfl) (fun _ _ _ h => h) (Or.inl ⟨by rfl, ?_⟩) HH.out ?_
  rotate_left
  · intro w hSw; go_simp; try with_reducible rfl
  change wpAnyH _ _ _ _ _ _ _ (Act.put _ (some 55) _) _
  simp only [Act.put, List.setIfInBounds_toArray, List.set_cons_zero, List.set_cons_succ]
  refine wpAnyH_take (i := 5) rfl (by kernel_rfl) (by kernel_rfl) (by kernel_rfl) (fun _ _ _ h => h) (yieldsRow rt147e (by rfl) rfl rfl (fun w hSw => (bb9.ext hW0).mod hSw (fun q => q.elim hBY hBF)) (by decide)) HH.out ?_
  change wpAnyH _ _ _ _ _ _ _ (Act.put _ (some 57) _) _
  simp only [Act.put, List.setIfInBounds_toArray, List.set_cons_zero, List.set_cons_succ]
  refine wpAnyH_ready (rs := [4, 6]) (by kernel_rfl) (by simp) ?_
  refine (AllReadyH.cons rfl (fun K hK => ?_) (AllReadyH.cons rfl (fun K hK => ?_) AllReadyH.nil))
  refine step_any rfl (op_loadK rfl onet101e rfl ((h9.bY.ext (by (repeat (first | with_reducible exact Ext.refl _ | with_reducible assumption | refine Ext.trans ?_ (by with_reducible assumption) | refine Ext.alloc ?_ _ _ | refine Ext.drew ?_ | refine Ext.drewN ?_ _)))).cell (i := 9) (by decide)) ?_)
  refine hK.out _ _ HH.out (fun hHeld => ?_)
  clear hK K HH
  have HH : Hid (Mod (fun x => x = Y ∨ x = F) W0 _) := hHeld
  clear hHeld
  change wpAnyH _ _ _ _ _ _ _ (Act.put _ (some 56) _) _
  simp only [Act.put, List.setIfInBounds_toArray, List.set_cons_zero, List.set_cons_succ]
  refine wpAnyH_ready (rs := [6]) (by kernel_rfl) (by simp) ?_
  refine AllReadyH.cons rfl (fun K hK => ?_) AllReadyH.nil
  refine step_any rfl (op_build1 156 Hvah.t156 z 60 rfl under101e info147e hz1 size147e hz2 (by decide) (by decide) (rowOf dB 0 60) (rowOf_size _ _ _) rfl ?_)
  rintro B9 W10 e10 r10 g10
  refine hK.out _ _ ?_ (fun hHeld => ?_)
  · exact HH.out.trans_ext e10
  clear hK K HH
  have HH : Hid (Mod (fun x => x = Y ∨ x = F) W0 _) := hHeld
  clear hHeld
  change wpAnyH _ _ _ _ _ _ _ (Act.put _ (some 58) _) _
  simp only [Act.put, List.setIfInBounds_toArray, List.set_cons_zero, List.set_cons_succ]
  refine wpAnyH_ready (rs := [7]) (by kernel_rfl) (by simp) ?_
  refine AllReadyH.cons rfl (fun K hK => ?_) AllReadyH.nil
  have h10 := h9.ext (show Ext W9 W10 by (repeat (first | with_reducible exact Ext.refl _ | with_reducible assumption | refine Ext.trans ?_ (by with_reducible assumption) | refine Ext.alloc ?_ _ _ | refine Ext.drew ?_ | refine Ext.drewN ?_ _)))
  refine step_appendV rfl _ _ 114 rfl 156 Hvah.t156 z 60 under101e info147e hz1 size147e hz2 bytes147e _ L.length F n d h10.fv (by omega) ⟨B9, 0, none⟩ 1 (rowOf dB 0 60).toList (by simp [rowOf_size]) r10 (fun u hu => hone60 u (by simpa using hu)) rfl rfl ?_
  rintro v' W11 b' d' hG
  have bY11 := grown_blk hG h10.bY h.ne
  have m11 : Mod (fun b => b = Y ∨ b = F) W10 W11 := by
    rcases hG.how with ⟨_, _, m⟩ | ⟨_, e⟩
    · exact m.sub (fun _ q => Or.inr q)
    · exact e.mod _
  refine hK.out _ _ ?_ (fun hHeld => ?_)
  · exact HH.out.trans m11
  clear hK K HH
  have HH : Hid (Mod (fun x => x = Y ∨ x = F) W0 _) := hHeld
  clear hHeld
  change wpAnyH _ _ _ _ _ _ _ (Act.put _ (some 59) _) _
  simp only [Act.put, List.setIfInBounds_toArray, List.set_cons_zero, List.set_cons_succ]
  refine wpAnyH_take (i := 8) (v := ?_) rfl (by kernel_rfl) (by kernel_rfl) (by kernel_rfl) (fun _ _ _ h => h) (Or.inl ⟨by rfl, ?_⟩) HH.out ?_
  rotate_left
  · intro w hSw; go_simp; try with_reducible rfl
  change wpAnyH _ _ _ _ _ _ _ (Act.put _ (some 60) _) _
  simp only [Act.put, List.setIfInBounds_toArray, List.set_cons_zero, List.set_cons_succ]
  refine wpAnyH_take (i := 9) (v := ?_) rfl (by kernel_rfl) (by kernel_rfl) (by kernel_rfl) (fun _ _ _ h => h) (Or.inl ⟨by rfl, ?_⟩) HH.out ?_
  rotate_left
  · intro w hSw; go_simp; try with_reducible rfl
  change wpAnyH _ _ _ _ _ _ _ (Act.put _ (some 61) _) _
  simp only [Act.put, List.setIfInBounds_toArray, List.set_cons_zero, List.set_cons_succ]
  refine wpAnyH_ready (rs := [10]) (by kernel_rfl) (by simp) ?_
  refine AllReadyH.cons rfl (fun K hK => ?_) AllReadyH.nil
  refine step_any rfl (op_store1 rfl onet101e rfl rfl (by obtain ⟨_, q⟩ := hG.some; rw [q]; rfl) bY11 (by decide) ?_)
  rintro W12 b12 m12
  refine hK.out _ _ ?_ (fun hHeld => ?_)
  · exact HH.out.trans (m12.sub (fun _ q => Or.inl q))
  clear hK K HH
  have HH : Hid (Mod (fun x => x = Y ∨ x = F) W0 _) := hHeld
  clear hHeld
  change wpAnyH _ _ _ _ _ _ _ (Act.put _ none _) _
  simp only [Act.put, List.setIfInBounds_toArray, List.set_cons_zero, List.set_cons_succ]
  refine wpAnyH_done (by kernel_rfl) ?_ _
  · obtain ⟨O', n', hZ, hOO, hM⟩ := h10.push (x := ⟨{ f with saved := st.now }, W, fun _ => False⟩) hG m12 b12 hfew (fun q => (hfr9.ext (show Ext W9 W10 by (repeat (first | with_reducible exact Ext.refl _ | with_reducible assumption | refine Ext.trans ?_ (by with_reducible assumption) | refine Ext.alloc ?_ _ _ | refine Ext.drew ?_ | refine Ext.drewN ?_ _)))).same (fun j hj => by rw [Nat.zero_add]; exact q j (dB j) (by rw [Array.getElem?_toList, rowOf_get, if_pos hj, Nat.zero_add]))) (fun b hb => hb)
    have hEnd : YEnt O TL w W12 Y F (((W.setNonce f.self 1).markMade f.self).move f.caller f.self f.value) start (st.enter f) tot (⟨{ f with saved := st.now }, W, fun _ => False⟩ :: L) := by
      have he : st.enter f = { st with now := (((st.now.setNonce f.self 1).markMade f.self).move f.caller f.self f.value), ret := [], frames := { f with saved := st.now } :: st.frames } := by simp [ASt.enter, hk, createsA]
      have hsz10 : w.heap.size ≤ W10.heap.size := Nat.le_trans E3.size (Nat.le_trans M9.size (Ext.size (show Ext W9 W10 by (repeat (first | with_reducible exact Ext.refl _ | with_reducible assumption | refine Ext.trans ?_ (by with_reducible assumption) | refine Ext.alloc ?_ _ _ | refine Ext.drew ?_ | refine Ext.drewN ?_ _)))))
      have hMM : Mod (fun b => b = Y ∨ b = F) w W12 := ((((E3.mod _).trans (M9.sub (fun _ q => Or.inl q))).trans_ext (show Ext W9 W10 by (repeat (first | with_reducible exact Ext.refl _ | with_reducible assumption | refine Ext.trans ?_ (by with_reducible assumption) | refine Ext.alloc ?_ _ _ | refine Ext.drew ?_ | refine Ext.drewN ?_ _))))).trans hM
      have hOO2 : ∀ b, b < w.heap.size → (O' b ↔ O b) := fun b hb => (hOO b (Nat.lt_of_lt_of_le hb hsz10)).trans ⟨fun q => q.elim id (fun q => by omega), Or.inl⟩
      rw [he]
      exact ⟨O', b', n', _, d', hZ, hOO2, hMM⟩
    clear hk
    go_wp2
    go_end0
    exact ⟨rfl, hEnd⟩
  refine step_any rfl (op_build1 156 Hvah.t156 z 60 rfl under101e info147e hz1 size147e hz2 (by decide) (by decide) (rowOf dB 0 60) (rowOf_size _ _ _) rfl ?_)
  rintro B9 W10 e10 r10 g10
  refine hK.out _ _ ?_ (fun hHeld => ?_)
  · exact HH.out.trans_ext e10
  clear hK K HH
  have HH : Hid (Mod (fun x => x = Y ∨ x = F) W0 _) := hHeld
  clear hHeld
  change wpAnyH _ _ _ _ _ _ _ (Act.put _ (some 58) _) _
  simp only [Act.put, List.setIfInBounds_toArray, List.set_cons_zero, List.set_cons_succ]
  refine wpAnyH_ready (rs := [4]) (by kernel_rfl) (by simp) ?_
  refine AllReadyH.cons rfl (fun K hK => ?_) AllReadyH.nil
  refine step_any rfl (op_loadK rfl onet101e rfl ((h9.bY.ext (by (repeat (first | with_reducible exact Ext.refl _ | with_reducible assumption | refine Ext.trans ?_ (by with_reducible assumption) | refine Ext.alloc ?_ _ _ | refine Ext.drew ?_ | refine Ext.drewN ?_ _)))).cell (i := 9) (by decide)) ?_)
  refine hK.out _ _ HH.out (fun hHeld => ?_)
  clear hK K HH
  have HH : Hid (Mod (fun x => x = Y ∨ x = F) W0 _) := hHeld
  clear hHeld
  change wpAnyH _ _ _ _ _ _ _ (Act.put _ (some 56) _) _
  simp only [Act.put, List.setIfInBounds_toArray, List.set_cons_zero, List.set_cons_succ]
  refine wpAnyH_ready (rs := [7]) (by kernel_rfl) (by simp) ?_
  refine AllReadyH.cons rfl (fun K hK => ?_) AllReadyH.nil
  have h10 := h9.ext (show Ext W9 W10 by (repeat (first | with_reducible exact Ext.refl _ | with_reducible assumption | refine Ext.trans ?_ (by with_reducible assumption) | refine Ext.alloc ?_ _ _ | refine Ext.drew ?_ | refine Ext.drewN ?_ _)))
  refine step_appendV rfl _ _ 114 rfl 156 Hvah.t156 z 60 under101e info147e hz1 size147e hz2 bytes147e _ L.length F n d h10.fv (by omega) ⟨B9, 0, none⟩ 1 (rowOf dB 0 60).toList (by simp [rowOf_size]) r10 (fun u hu => hone60 u (by simpa using hu)) rfl rfl ?_
  rintro v' W11 b' d' hG
  have bY11 := grown_blk hG h10.bY h.ne
  have m11 : Mod (fun b => b = Y ∨ b = F) W10 W11 := by
    rcases hG.how with ⟨_, _, m⟩ | ⟨_, e⟩
    · exact m.sub (fun _ q => Or.inr q)
    · exact e.mod _
  refine hK.out _ _ ?_ (fun hHeld => ?_)
  · exact HH.out.trans m11
  clear hK K HH
  have HH : Hid (Mod (fun x => x = Y ∨ x = F) W0 _) := hHeld
  clear hHeld
  change wpAnyH _ _ _ _ _ _ _ (Act.put _ (some 59) _) _
  simp only [Act.put, List.setIfInBounds_toArray, List.set_cons_zero, List.set_cons_succ]
  refine wpAnyH_take (i := 8) (v := ?_) rfl (by kernel_rfl) (by kernel_rfl) (by kernel_rfl) (fun _ _ _ h => h) (Or.inl ⟨by rfl, ?_⟩) HH.out ?_
  rotate_left
  · intro w hSw; go_simp; try with_reducible rfl
  change wpAnyH _ _ _ _ _ _ _ (Act.put _ (some 60) _) _
  simp only [Act.put, List.setIfInBounds_toArray, List.set_cons_zero, List.set_cons_succ]
  refine wpAnyH_take (i := 9) (v := ?_) rfl (by kernel_rfl) (by kernel_rfl) (by kernel_rfl) (fun _ _ _ h => h) (Or.inl ⟨by rfl, ?_⟩) HH.out ?_
  rotate_left
  · intro w hSw; go_simp; try with_reducible rfl
  change wpAnyH _ _ _ _ _ _ _ (Act.put _ (some 61) _) _
  simp only [Act.put, List.setIfInBounds_toArray, List.set_cons_zero, List.set_cons_succ]
  refine wpAnyH_ready (rs := [10]) (by kernel_rfl) (by simp) ?_
  refine AllReadyH.cons rfl (fun K hK => ?_) AllReadyH.nil
  refine step_any rfl (op_store1 rfl onet101e rfl rfl (by obtain ⟨_, q⟩ := hG.some; rw [q]; rfl) bY11 (by decide) ?_)
  rintro W12 b12 m12
  refine hK.out _ _ ?_ (fun hHeld => ?_)
  · exact HH.out.trans (m12.sub (fun _ q => Or.inl q))
  clear hK K HH
  have HH : Hid (Mod (fun x => x = Y ∨ x = F) W0 _) := hHeld
  clear hHeld
  change wpAnyH _ _ _ _ _ _ _ (Act.put _ none _) _
  simp only [Act.put, List.setIfInBounds_toArray, List.set_cons_zero, List.set_cons_succ]
  refine wpAnyH_done (by kernel_rfl) ?_ _
  · obtain ⟨O', n', hZ, hOO, hM⟩ := h10.push (x := ⟨{ f with saved := st.now }, W, fun _ => False⟩) hG m12 b12 hfew (fun q => (hfr9.ext (show Ext W9 W10 by (repeat (first | with_reducible exact Ext.refl _ | with_reducible assumption | refine Ext.trans ?_ (by with_reducible assumption) | refine Ext.alloc ?_ _ _ | refine Ext.drew ?_ | refine Ext.drewN ?_ _)))).same (fun j hj => by rw [Nat.zero_add]; exact q j (dB j) (by rw [Array.getElem?_toList, rowOf_get, if_pos hj, Nat.zero_add]))) (fun b hb => hb)
    have hEnd : YEnt O TL w W12 Y F (((W.setNonce f.self 1).markMade f.self).move f.caller f.self f.value) start (st.enter f) tot (⟨{ f with saved := st.now }, W, fun _ => False⟩ :: L) := by
      have he : st.enter f = { st with now := (((st.now.setNonce f.self 1).markMade f.self).move f.caller f.self f.value), ret := [], frames := { f with saved := st.now } :: st.frames } := by simp [ASt.enter, hk, createsA]
      have hsz10 : w.heap.size ≤ W10.heap.size := Nat.le_trans E3.size (Nat.le_trans M9.size (Ext.size (show Ext W9 W10 by (repeat (first | with_reducible exact Ext.refl _ | with_reducible assumption | refine Ext.trans ?_ (by with_reducible assumption) | refine Ext.alloc ?_ _ _ | refine Ext.drew ?_ | refine Ext.drewN ?_ _)))))
      have hMM : Mod (fun b => b = Y ∨ b = F) w W12 := ((((E3.mod _).trans (M9.sub (fun _ q => Or.inl q))).trans_ext (show Ext W9 W10 by (repeat (first | with_reducible exact Ext.refl _ | with_reducible assumption | refine Ext.trans ?_ (by with_reducible assumption) | refine Ext.alloc ?_ _ _ | refine Ext.drew ?_ | refine Ext.drewN ?_ _))))).trans hM
      have hOO2 : ∀ b, b < w.heap.size → (O' b ↔ O b) := fun b hb => (hOO b (Nat.lt_of_lt_of_le hb hsz10)).trans ⟨fun q => q.elim id (fun q => by omega), Or.inl⟩
      rw [he]
      exact ⟨O', b', n', _, d', hZ, hOO2, hMM⟩
    clear hk
    go_wp2
    go_end0
    exact ⟨rfl, hEnd⟩
set_option maxRecDepth 100000 in
set_option maxHeartbeats 6400000 in
theorem zEnter7 (HLG : ∀ {O T : Nat → Prop} {w : World} {v : Value} {l : List ALog}, Small O w → LogL T O w v l → l.length ≤ 100000 → Calls Hvah.prog 80 #[v] w fun e w' => ∃ r, e = .returned r ∧ GRow 141 22 (LgC O w') (fun b => ¬ O b) w' r l ∧ Full r ∧ Ext w w') (h : YZ O TL w Y F n c d W start st tot L) (fr : Array Value) (hsz : fr.size = 60) (hones : Ones fr) (f : AFrame) (hk : f.kind = 7) (hf : YFC O (fun _ => False) w (cf fr) 0 f) (hok : FOK f) (hsl : ∀ x ∈ W.accts, x.slots.length ≤ 90000) (hfew : L.length < 7) :
    Calls Hvah.prog 65 #[.pointer (some ⟨Y, 0, none⟩), .agg fr] w fun e w' => e = .returned (.tuple #[]) ∧ YEnt O TL w w' Y F W start (st.enter f) tot (⟨{ f with saved := st.now }, W, fun _ => False⟩ :: L) := by
  have hYl : Y < w.heap.size := h.bY.lt
  have hFl : F < w.heap.size := h.small F h.oF
  go_enter Hvah.func65, Hvah.ntmps65
  go_upto_region 1 with ((with_reducible (refine Veil.out ?_; apply wl_boxB)); (case hx => rfl); (case hn => exact hsz); rintro B W1 e1 b1 g1)
  have hBY : ¬ B = Y := by omega
  have hBF : ¬ B = F := by omega
  have h1 := h.wd e1 b1.lt g1
  obtain ⟨T, hT⟩ : ∃ T, LogL T (Wd O B) W1 (c 4) W.logs := h1.lg.elim (fun k => ⟨_, k⟩) (fun k => ⟨_, k.1⟩)
  have HC := fun W2 (q : Ext W1 W2) => yClone (w := W2) HLG (h1.ext q).small (h1.ext q).bY (h1.ext q).wc (GRow.ext hT q (fun _ _ _ k => k.ext q)) h1.lim hsl
  go_upto_region 2 with (first | (go_at_call 140; refine (HC _ (by (repeat (first | with_reducible exact Ext.refl _ | with_reducible assumption | refine Ext.trans ?_ (by with_reducible assumption) | refine Ext.alloc ?_ _ _ | refine Ext.drew ?_ | refine Ext.drewN ?_ _)))).mono ?_; rintro e w2 ⟨r, rfl, hr8, hro, hrw, hrl, hrf, e2⟩) | ((with_reducible (refine Veil.out ?_; apply wl_storeRow rt99e)); (case hx => rfl); (case hy => rfl); (case hr => exact hr8); (case h1 => exact hro); (case hB => exact b1.ext e2); (case hi => decide); rintro W3 b3 m3))
  have hfr := ye_frame h hf hok g1 e1 e2 m3 hr8 hrw hrl hrf
  have h3 : YZ (Wd O B) TL W3 Y F n c d W start st tot L := (h1.ext e2).keepS m3 (fun b hb q => hb (Or.inr q)) (fun q => hBY q.symm) (fun q => hBF q.symm) (fun x hx b hb q => by have := h.small b (h.tm x hx b hb).1; omega) (fun b hb q => by have := h.small b (h.tl b hb).1; omega)
  have M3 : Mod (· = B) w W3 := ((e1.trans e2).mod _).trans m3
  obtain ⟨dB, hdB⟩ : ∃ dB, dB = layv (cf fr) 52 r := ⟨_, rfl⟩
  rw [← hdB] at hfr b3
  have hone60 : Ones (rowOf dB 0 60) := ones_of (fun q hq => by
    rw [rowOf_size] at hq
    rw [cf_rowOf _ _ _ hq, Nat.zero_add, hdB]
    rcases Nat.lt_or_ge q 52 with k | k
    · rw [layv_out _ _ _ (Or.inl k)]; exact Ones.get hones (by omega)
    · have k2 := layv_in (cf fr) 52 r (j := q - 52) (by omega)
      rw [show 52 + (q - 52) = q by omega] at k2
      rw [k2]; exact Ones.get hro (by omega))
  have E3 : Ext w W3 := Ext.trans_mod (e1.trans e2) m3 (fun q hq => by have hq2 : q = B := hq; rw [hq2]; exact g1)
  have hk0 : dB 0 = .int .u8 7 := by have := hfr.fc.kind; simp only [hk] at this; exact this
  have hself : AAt dB 12 f.self := by have := hfr.fc.self; rwa [Nat.zero_add] at this
  have hcall : AAt dB 32 f.caller := by have := hfr.fc.caller; rwa [Nat.zero_add] at this
  have hsY : ∀ b, ¬ Wd O B b → ¬ b = Y := fun b hb q => hb (q ▸ h3.oY)
  clear HC hT hrw hrl hrf hf h1 hdB hones hro m3 b1
  go_upto_if 11 with (first | ((with_reducible (refine Veil.out ?_; apply wl_loadC onet5e)); (case hw => rfl); (case hx => rfl); (case hc => exact (b3.cell (i := 0) (by decide)).trans (congrArg some hk0))) | (go_at_call 141; refine (yCreates 7 (by decide)).mono ?_; rintro e w4 ⟨rfl, e4⟩; have e5 := e4.symm; subst e5))
  have M0 : Mod (· = Y) W3 W3 := Mod.refl _ _
  go_upto_if 38 with (first | ((with_reducible (refine Veil.out ?_; apply wl_loadC onet5e)); (case hw => rfl); (case hx => rfl); (case hc => exact (b3.cell (i := 0) (by decide)).trans (congrArg some hk0))))
  go_upto_region 8 with ((with_reducible (refine Veil.out ?_; apply wl_storeC onet32e)); (case hx => rfl); (case hy => rfl); (case h1 => rfl); (case hB => exact h3.bY); (case hi => decide); rintro W9 b9 m9)
  have h9 := h3.putRet m9 (l := []) NL.nil b9
  have M9 : Mod (· = Y) W3 W9 := M0.trans m9
  have bb9 := b3.mod M9 hBY
  have hfr9 := hfr.keep M9 hsY (fun b hb => absurd hb id)
  obtain ⟨z, hz1, hz2⟩ := z147e
  refine w_ext ?_
  rintro W0 hW0
  refine wp_region_held_drew (S := fun w' => Mod (fun x => x = Y ∨ x = F) W0 w') (by kernel_rfl) (Mod.refl _ _).drew (fun hHeld => ?_)
  have HH : Hid (Mod (fun x => x = Y ∨ x = F) W0 _) := hHeld
  clear hHeld
  refine wpAnyH_take (i := 0) (v := ?_) rfl (by kernel_rfl) (by kernel_rfl) (by kernel_rfl) (fun _ _ _ h => h) (Or.inl ⟨by rfl, ?_⟩) HH.out ?_
  rotate_left
  · intro w hSw; go_simp; try with_reducible rfl
  change wpAnyH _ _ _ _ _ _ _ (Act.put _ (some 52) _) _
  simp only [Act.put, List.setIfInBounds_toArray, List.set_cons_zero, List.set_cons_succ]
  refine wpAnyH_take (i := 1) (v := ?_) rfl (by kernel_rfl) (by kernel_rfl) (by kernel_rfl) (fun _ _ _ h => h) (Or.inl ⟨by rfl, ?_⟩) HH.out ?_
  rotate_left
  · intro w hSw; go_simp; try with_reducible rfl
  change wpAnyH _ _ _ _ _ _ _ (Act.put _ (some 53) _) _
  simp only [Act.put, List.setIfInBounds_toArray, List.set_cons_zero, List.set_cons_succ]
  refine wpAnyH_take (i := 2) (v := ?_) rfl (by kernel_rfl) (by kernel_rfl) (by kernel_rfl) (fun _ _ _ h => h) (Or.inl ⟨by rfl, ?_⟩) HH.out ?_
  rotate_left
  · intro w hSw; go_simp; try with_reducible rfl
  change wpAnyH _ _ _ _ _ _ _ (Act.put _ (some 54) _) _
  simp only [Act.put, List.setIfInBounds_toArray, List.set_cons_zero, List.set_cons_succ]
  refine wpAnyH_take (i := 3) (v := ?_) rfl (by kernel_rfl) (by kernel_rfl) (by kernel_rfl) (fun _ _ _ h => h) (Or.inl ⟨by rfl, ?_⟩) HH.out ?_
  rotate_left
  · intro w hSw; go_simp; try with_reducible rfl
  change wpAnyH _ _ _ _ _ _ _ (Act.put _ (some 55) _) _
  simp only [Act.put, List.setIfInBounds_toArray, List.set_cons_zero, List.set_cons_succ]
  refine wpAnyH_take (i := 5) rfl (by kernel_rfl) (by kernel_rfl) (by kernel_rfl) (fun _ _ _ h => h) (yieldsRow rt147e (by rfl) rfl rfl (fun w hSw => (bb9.ext hW0).mod hSw (fun q => q.elim hBY hBF)) (by decide)) HH.out ?_
  change wpAnyH _ _ _ _ _ _ _ (Act.put _ (some 57) _) _
  simp only [Act.put, List.setIfInBounds_toArray, List.set_cons_zero, List.set_cons_succ]
  refine wpAnyH_ready (rs := [4, 6]) (by kernel_rfl) (by simp) ?_
  refine (AllReadyH.cons rfl (fun K hK => ?_) (AllReadyH.cons rfl (fun K hK => ?_) AllReadyH.nil))
  refine step_any rfl (op_loadK rfl onet101e rfl ((h9.bY.ext (by (repeat (first | with_reducible exact Ext.refl _ | with_reducible assumption | refine Ext.trans ?_ (by with_reducible assumption) | refine Ext.alloc ?_ _ _ | refine Ext.drew ?_ | refine Ext.drewN ?_ _)))).cell (i := 9) (by decide)) ?_)
  refine hK.out _ _ HH.out (fun hHeld => ?_)
  clear hK K HH
  have HH : Hid (Mod (fun x => x = Y ∨ x = F) W0 _) := hHeld
  clear hHeld
  change wpAnyH _ _ _ _ _ _ _ (Act.put _ (some 56) _) _
  simp only [Act.put, List.setIfInBounds_toArray, List.set_cons_zero, List.set_cons_succ]
  refine wpAnyH_ready (rs := [6]) (by kernel_rfl) (by simp) ?_
  refine AllReadyH.cons rfl (fun K hK => ?_) AllReadyH.nil
  refine step_any rfl (op_build1 156 Hvah.t156 z 60 rfl under101e info147e hz1 size147e hz2 (by decide) (by decide) (rowOf dB 0 60) (rowOf_size _ _ _) rfl ?_)
  rintro B9 W10 e10 r10 g10
  refine hK.out _ _ ?_ (fun hHeld => ?_)
  · exact HH.out.trans_ext e10
  clear hK K HH
  have HH : Hid (Mod (fun x => x = Y ∨ x = F) W0 _) := hHeld
  clear hHeld
  change wpAnyH _ _ _ _ _ _ _ (Act.put _ (some 58) _) _
  simp only [Act.put, List.setIfInBounds_toArray, List.set_cons_zero, List.set_cons_succ]
  refine wpAnyH_ready (rs := [7]) (by kernel_rfl) (by simp) ?_
  refine AllReadyH.cons rfl (fun K hK => ?_) AllReadyH.nil
  have h10 := h9.ext (show Ext W9 W10 by (repeat (first | with_reducible exact Ext.refl _ | with_reducible assumption | refine Ext.trans ?_ (by with_reducible assumption) | refine Ext.alloc ?_ _ _ | refine Ext.drew ?_ | refine Ext.drewN ?_ _)))
  refine step_appendV rfl _ _ 114 rfl 156 Hvah.t156 z 60 under101e info147e hz1 size147e hz2 bytes147e _ L.length F n d h10.fv (by omega) ⟨B9, 0, none⟩ 1 (rowOf dB 0 60).toList (by simp [rowOf_size]) r10 (fun u hu => hone60 u (by simpa using hu)) rfl rfl ?_
  rintro v' W11 b' d' hG
  have bY11 := grown_blk hG h10.bY h.ne
  have m11 : Mod (fun b => b = Y ∨ b = F) W10 W11 := by
    rcases hG.how with ⟨_, _, m⟩ | ⟨_, e⟩
    · exact m.sub (fun _ q => Or.inr q)
    · exact e.mod _
  refine hK.out _ _ ?_ (fun hHeld => ?_)
  · exact HH.out.trans m11
  clear hK K HH
  have HH : Hid (Mod (fun x => x = Y ∨ x = F) W0 _) := hHeld
  clear hHeld
  change wpAnyH _ _ _ _ _ _ _ (Act.put _ (some 59) _) _
  simp only [Act.put, List.setIfInBounds_toArray, List.set_cons_zero, List.set_cons_succ]
  refine wpAnyH_take (i := 8) (v := ?_) rfl (by kernel_rfl) (by kernel_rfl) (by kernel_rfl) (fun _ _ _ h => h) (Or.inl ⟨by rfl, ?_⟩) HH.out ?_
  rotate_left
  · intro w hSw; go_simp; try with_reducible rfl
  change wpAnyH _ _ _ _ _ _ _ (Act.put _ (some 60) _) _
  simp only [Act.put, List.setIfInBounds_toArray, List.set_cons_zero, List.set_cons_succ]
  refine wpAnyH_take (i := 9) (v := ?_) rfl (by kernel_rfl) (by kernel_rfl) (by kernel_rfl) (fun _ _ _ h => h) (Or.inl ⟨by rfl, ?_⟩) HH.out ?_
  rotate_left
  · intro w hSw; go_simp; try with_reducible rfl
  change wpAnyH _ _ _ _ _ _ _ (Act.put _ (some 61) _) _
  simp only [Act.put, List.setIfInBounds_toArray, List.set_cons_zero, List.set_cons_succ]
  refine wpAnyH_ready (rs := [10]) (by kernel_rfl) (by simp) ?_
  refine AllReadyH.cons rfl (fun K hK => ?_) AllReadyH.nil
  refine step_any rfl (op_store1 rfl onet101e rfl rfl (by obtain ⟨_, q⟩ := hG.some; rw [q]; rfl) bY11 (by decide) ?_)
  rintro W12 b12 m12
  refine hK.out _ _ ?_ (fun hHeld => ?_)
  · exact HH.out.trans (m12.sub (fun _ q => Or.inl q))
  clear hK K HH
  have HH : Hid (Mod (fun x => x = Y ∨ x = F) W0 _) := hHeld
  clear hHeld
  change wpAnyH _ _ _ _ _ _ _ (Act.put _ none _) _
  simp only [Act.put, List.setIfInBounds_toArray, List.set_cons_zero, List.set_cons_succ]
  refine wpAnyH_done (by kernel_rfl) ?_ _
  · obtain ⟨O', n', hZ, hOO, hM⟩ := h10.push (x := ⟨{ f with saved := st.now }, W, fun _ => False⟩) hG m12 b12 hfew (fun q => (hfr9.ext (show Ext W9 W10 by (repeat (first | with_reducible exact Ext.refl _ | with_reducible assumption | refine Ext.trans ?_ (by with_reducible assumption) | refine Ext.alloc ?_ _ _ | refine Ext.drew ?_ | refine Ext.drewN ?_ _)))).same (fun j hj => by rw [Nat.zero_add]; exact q j (dB j) (by rw [Array.getElem?_toList, rowOf_get, if_pos hj, Nat.zero_add]))) (fun b hb => hb)
    have hEnd : YEnt O TL w W12 Y F W start (st.enter f) tot (⟨{ f with saved := st.now }, W, fun _ => False⟩ :: L) := by
      have he : st.enter f = { st with now := st.now, ret := [], frames := { f with saved := st.now } :: st.frames } := by simp [ASt.enter, hk, createsA]
      have hsz10 : w.heap.size ≤ W10.heap.size := Nat.le_trans E3.size (Nat.le_trans M9.size (Ext.size (show Ext W9 W10 by (repeat (first | with_reducible exact Ext.refl _ | with_reducible assumption | refine Ext.trans ?_ (by with_reducible assumption) | refine Ext.alloc ?_ _ _ | refine Ext.drew ?_ | refine Ext.drewN ?_ _)))))
      have hMM : Mod (fun b => b = Y ∨ b = F) w W12 := ((((E3.mod _).trans (M9.sub (fun _ q => Or.inl q))).trans_ext (show Ext W9 W10 by (repeat (first | with_reducible exact Ext.refl _ | with_reducible assumption | refine Ext.trans ?_ (by with_reducible assumption) | refine Ext.alloc ?_ _ _ | refine Ext.drew ?_ | refine Ext.drewN ?_ _))))).trans hM
      have hOO2 : ∀ b, b < w.heap.size → (O' b ↔ O b) := fun b hb => (hOO b (Nat.lt_of_lt_of_le hb hsz10)).trans ⟨fun q => q.elim id (fun q => by omega), Or.inl⟩
      rw [he]
      exact ⟨O', b', n', _, d', hZ, hOO2, hMM⟩
    clear hk
    go_wp2
    go_end0
    exact ⟨rfl, hEnd⟩
  refine step_any rfl (op_build1 156 Hvah.t156 z 60 rfl under101e info147e hz1 size147e hz2 (by decide) (by decide) (rowOf dB 0 60) (rowOf_size _ _ _) rfl ?_)
  rintro B9 W10 e10 r10 g10
  refine hK.out _ _ ?_ (fun hHeld => ?_)
  · exact HH.out.trans_ext e10
  clear hK K HH
  have HH : Hid (Mod (fun x => x = Y ∨ x = F) W0 _) := hHeld
  clear hHeld
  change wpAnyH _ _ _ _ _ _ _ (Act.put _ (some 58) _) _
  simp only [Act.put, List.setIfInBounds_toArray, List.set_cons_zero, List.set_cons_succ]
  refine wpAnyH_ready (rs := [4]) (by kernel_rfl) (by simp) ?_
  refine AllReadyH.cons rfl (fun K hK => ?_) AllReadyH.nil
  refine step_any rfl (op_loadK rfl onet101e rfl ((h9.bY.ext (by (repeat (first | with_reducible exact Ext.refl _ | with_reducible assumption | refine Ext.trans ?_ (by with_reducible assumption) | refine Ext.alloc ?_ _ _ | refine Ext.drew ?_ | refine Ext.drewN ?_ _)))).cell (i := 9) (by decide)) ?_)
  refine hK.out _ _ HH.out (fun hHeld => ?_)
  clear hK K HH
  have HH : Hid (Mod (fun x => x = Y ∨ x = F) W0 _) := hHeld
  clear hHeld
  change wpAnyH _ _ _ _ _ _ _ (Act.put _ (some 56) _) _
  simp only [Act.put, List.setIfInBounds_toArray, List.set_cons_zero, List.set_cons_succ]
  refine wpAnyH_ready (rs := [7]) (by kernel_rfl) (by simp) ?_
  refine AllReadyH.cons rfl (fun K hK => ?_) AllReadyH.nil
  have h10 := h9.ext (show Ext W9 W10 by (repeat (first | with_reducible exact Ext.refl _ | with_reducible assumption | refine Ext.trans ?_ (by with_reducible assumption) | refine Ext.alloc ?_ _ _ | refine Ext.drew ?_ | refine Ext.drewN ?_ _)))
  refine step_appendV rfl _ _ 114 rfl 156 Hvah.t156 z 60 under101e info147e hz1 size147e hz2 bytes147e _ L.length F n d h10.fv (by omega) ⟨B9, 0, none⟩ 1 (rowOf dB 0 60).toList (by simp [rowOf_size]) r10 (fun u hu => hone60 u (by simpa using hu)) rfl rfl ?_
  rintro v' W11 b' d' hG
  have bY11 := grown_blk hG h10.bY h.ne
  have m11 : Mod (fun b => b = Y ∨ b = F) W10 W11 := by
    rcases hG.how with ⟨_, _, m⟩ | ⟨_, e⟩
    · exact m.sub (fun _ q => Or.inr q)
    · exact e.mod _
  refine hK.out _ _ ?_ (fun hHeld => ?_)
  · exact HH.out.trans m11
  clear hK K HH
  have HH : Hid (Mod (fun x => x = Y ∨ x = F) W0 _) := hHeld
  clear hHeld
  change wpAnyH _ _ _ _ _ _ _ (Act.put _ (some 59) _) _
  simp only [Act.put, List.setIfInBounds_toArray, List.set_cons_zero, List.set_cons_succ]
  refine wpAnyH_take (i := 8) (v := ?_) rfl (by kernel_rfl) (by kernel_rfl) (by kernel_rfl) (fun _ _ _ h => h) (Or.inl ⟨by rfl, ?_⟩) HH.out ?_
  rotate_left
  · intro w hSw; go_simp; try with_reducible rfl
  change wpAnyH _ _ _ _ _ _ _ (Act.put _ (some 60) _) _
  simp only [Act.put, List.setIfInBounds_toArray, List.set_cons_zero, List.set_cons_succ]
  refine wpAnyH_take (i := 9) (v := ?_) rfl (by kernel_rfl) (by kernel_rfl) (by kernel_rfl) (fun _ _ _ h => h) (Or.inl ⟨by rfl, ?_⟩) HH.out ?_
  rotate_left
  · intro w hSw; go_simp; try with_reducible rfl
  change wpAnyH _ _ _ _ _ _ _ (Act.put _ (some 61) _) _
  simp only [Act.put, List.setIfInBounds_toArray, List.set_cons_zero, List.set_cons_succ]
  refine wpAnyH_ready (rs := [10]) (by kernel_rfl) (by simp) ?_
  refine AllReadyH.cons rfl (fun K hK => ?_) AllReadyH.nil
  refine step_any rfl (op_store1 rfl onet101e rfl rfl (by obtain ⟨_, q⟩ := hG.some; rw [q]; rfl) bY11 (by decide) ?_)
  rintro W12 b12 m12
  refine hK.out _ _ ?_ (fun hHeld => ?_)
  · exact HH.out.trans (m12.sub (fun _ q => Or.inl q))
  clear hK K HH
  have HH : Hid (Mod (fun x => x = Y ∨ x = F) W0 _) := hHeld
  clear hHeld
  change wpAnyH _ _ _ _ _ _ _ (Act.put _ none _) _
  simp only [Act.put, List.setIfInBounds_toArray, List.set_cons_zero, List.set_cons_succ]
  refine wpAnyH_done (by kernel_rfl) ?_ _
  · obtain ⟨O', n', hZ, hOO, hM⟩ := h10.push (x := ⟨{ f with saved := st.now }, W, fun _ => False⟩) hG m12 b12 hfew (fun q => (hfr9.ext (show Ext W9 W10 by (repeat (first | with_reducible exact Ext.refl _ | with_reducible assumption | refine Ext.trans ?_ (by with_reducible assumption) | refine Ext.alloc ?_ _ _ | refine Ext.drew ?_ | refine Ext.drewN ?_ _)))).same (fun j hj => by rw [Nat.zero_add]; exact q j (dB j) (by rw [Array.getElem?_toList, rowOf_get, if_pos hj, Nat.zero_add]))) (fun b hb => hb)
    have hEnd : YEnt O TL w W12 Y F W start (st.enter f) tot (⟨{ f with saved := st.now }, W, fun _ => False⟩ :: L) := by
      have he : st.enter f = { st with now := st.now, ret := [], frames := { f with saved := st.now } :: st.frames } := by simp [ASt.enter, hk, createsA]
      have hsz10 : w.heap.size ≤ W10.heap.size := Nat.le_trans E3.size (Nat.le_trans M9.size (Ext.size (show Ext W9 W10 by (repeat (first | with_reducible exact Ext.refl _ | with_reducible assumption | refine Ext.trans ?_ (by with_reducible assumption) | refine Ext.alloc ?_ _ _ | refine Ext.drew ?_ | refine Ext.drewN ?_ _)))))
      have hMM : Mod (fun b => b = Y ∨ b = F) w W12 := ((((E3.mod _).trans (M9.sub (fun _ q => Or.inl q))).trans_ext (show Ext W9 W10 by (repeat (first | with_reducible exact Ext.refl _ | with_reducible assumption | refine Ext.trans ?_ (by with_reducible assumption) | refine Ext.alloc ?_ _ _ | refine Ext.drew ?_ | refine Ext.drewN ?_ _))))).trans hM
      have hOO2 : ∀ b, b < w.heap.size → (O' b ↔ O b) := fun b hb => (hOO b (Nat.lt_of_lt_of_le hb hsz10)).trans ⟨fun q => q.elim id (fun q => by omega), Or.inl⟩
      rw [he]
      exact ⟨O', b', n', _, d', hZ, hOO2, hMM⟩
    clear hk
    go_wp2
    go_end0
    exact ⟨rfl, hEnd⟩
end
end Go.Proofs.YgvahwGreat
