import Derived.Test.YgvahwGreatYb1
import Derived.Test.YgvahwGreatYe
import Derived.Test.YgvahwGreatTi
import Derived.Test.YgvahwGreatYpR
import Derived.Test.YgvahwGreatYm3
namespace Go.Proofs.YgvahwGreat
open Go.RowKit
set_option linter.unusedSimpArgs false
/-- The frame of a call. -/
def bgF0 (w : AW) (t : ATx) (tg g : Nat) : AFrame := { kind := 0, pre := preA tg, static := false, pc := 0, gas := g, value := t.value, outOff := 0, outLen := 0, stack := [], mem := [], code := if preA tg = 0 then w.code tg else [], input := t.data, self := tg, caller := t.from_, saved := w }
/-- The frame of a creation. -/
def bgF1 (w : AW) (t : ATx) (tg g : Nat) : AFrame := { kind := 1, pre := 0, static := false, pc := 0, gas := g, value := t.value, outOff := 0, outLen := 0, stack := [], mem := [], code := t.data, input := [], self := tg, caller := t.from_, saved := w }
/-- How Begin ends. -/
def bgEnd (st : ASt) (t : ATx) (tg : Nat) : ASt :=
  if t.create then (if st.now.nonce tg ≠ 0 ∨ st.now.code tg ≠ [] then { st with ret := [], phase := 2, status := 12, left := 0 } else ({ st with ret := [], phase := 1 } : ASt).enter (bgF1 st.now t tg st.txGas))
  else ({ st with ret := [], phase := 1 } : ASt).enter (bgF0 st.now t tg st.txGas)
theorem NLx.keepN {O : Nat → Prop} {w w' : World} {v : Value} {l : List Nat} {Y B : Nat} (h : NLx O w v l) (m : Mod (fun b => b = Y ∨ b = B) w w') (hY : O Y) (hB : w.heap.size ≤ B) : NLx O w' v l := by
  obtain ⟨o, c, h1, h2, h3, h4, h5⟩ := h
  refine ⟨o, c, h1, h2, h3, h4, fun hl => ?_⟩
  obtain ⟨b, off, q1, q2, q3, q4⟩ := h5 hl
  exact ⟨b, off, q1, q2, Nat.lt_of_lt_of_le q3 m.size, fun i hi => (m.cell (p := ⟨b, off + i, none⟩) q3 (fun q => q.elim (fun q => q2 ((show b = Y from q) ▸ hY)) (fun q => by have q' : b = B := q; omega))).trans (q4 i hi)⟩
theorem Mod.anewB {F Y B : Nat} {w w' : World} (h : Mod (fun b => b = Y ∨ b = B) w w') (hB : w.heap.size ≤ B) : Mod (fun b => b = Y ∨ b = F) w w' :=
  Mod.trans' (Mod.refl _ _) h (fun b hb => hb.imp Or.inl (fun q => by rw [q]; exact hB) |>.elim (fun q => Or.inl q) (fun q => Or.inr q))
theorem bg0_code (w : AW) (t : ATx) (tg g : Nat) (h : preA tg = 0) : bgF0 w t tg g = { fr0 with kind := 0, gas := g, value := t.value, self := tg, caller := t.from_, saved := w, pre := preA tg, code := w.code tg, input := t.data } := by
  unfold bgF0; rw [if_pos h]; rfl
theorem bg0_none (w : AW) (t : ATx) (tg g : Nat) (h : preA tg ≠ 0) : bgF0 w t tg g = { fr0 with kind := 0, gas := g, value := t.value, self := tg, caller := t.from_, saved := w, pre := preA tg, input := t.data } := by
  unfold bgF0; rw [if_neg h]; rfl
theorem joinB3 {P Fc : Nat → World → Value → Prop} {G : Prop} (h : (∀ B W u, Fc B W u → P B W u) → G) (k : ∀ B W u, Fc B W u → P B W u) : G := h k
theorem onet5b : OneT 5 := oneT_of (by kernel_rfl) (by kernel_rfl)
theorem onet4b : OneT 4 := oneT_of (by kernel_rfl) (by kernel_rfl)
theorem onet32b : OneT 23 := oneT_of (by kernel_rfl) (by kernel_rfl)
theorem onet96b : OneT 109 := oneT_of (by kernel_rfl) (by kernel_rfl)
theorem rt147b : RowT 156 60 := rowT_of (by kernel_rfl) (by kernel_rfl)
section
variable {O Oz TL : Nat → Prop} {W : World} {Y F n BT B8 tg : Nat} {c d c8 : Nat → Value} {V : YW} {start : List (Nat × Nat × Nat)} {st : ASt} {tot : Nat} {r : Array Value} {t : ATx}
set_option maxRecDepth 100000 in
set_option maxHeartbeats 6400000 in
theorem bgTail {K : Act → World → Prop} {R : Ending → World → Prop} (u1 u2 u4 u6 u7 u9 u10 u11 u12 u13 u14 u15 u16 u17 u18 u19 u20 u21 u22 u23 u24 u25 u26 u27 u28 u29 u30 u31 u32 u33 u34 u35 u36 u37 u38 u39 u40 u41 u42 u43 u44 u45 u46 u47 u48 u49 u50 u51 u52 u53 u54 u55 u56 u57 u58 u59 u60 u61 u62 u63 u64 u65 u66 u67 u68 u69 u70 u71 u72 u73 u74 u75 u76 u77 u78 u79 u80 u81 u82 u83 u84 u85 u86 u87 u88 u89 u90 u91 u92 u93 u94 u95 u96 u97 u98 u99 u100 u101 u102 u103 u104 u105 u106 u107 u108 u109 u110 u111 u112 u113 u114 u115 u116 u117 u118 u119 u120 u121 u122 u123 u124 u125 u126 u127 u128 u129 u130 u131 u132 u133 u134 u135 u136 u137 u138 u139 u140 u141 u142 u143 u144 u145 u146 u147 u148 u149 u150 u151 u152 u153 u154 u155 u156 u157 u158 u159 u160 u161 u162 u163 u164 u165 u166 u167 u168 u169 u170 u171 u172 u173 u174 u175 u176 u177 u178 u179 u180 u181 u182 u183 u184 u185 u186 u187 u188 u189 u190 u191 u192 u193 u194 u195 u196 u197 u198 u199 u200 u201 u202 u203 u204 u205 u206 u207 u208 u209 u210 u211 u212 u213 u214 u215 u216 u217 u218 u219 u220 u221 u222 u223 u224 u225 u226 u227 u228 u229 u230 u231 u232 u233 u234 u235 u236 u237 u238 u239 u240 u241 u242 u243 u244 u245 u246 u247 u248 u249 u250 u251 u252 u253 u254 u255 u256 u257 u258 u259 u260 u261 u262 u263 u264 u265 u266 u267 u268 u269 u270 : Value) (HLG : ∀ {O T : Nat → Prop} {w : World} {v : Value} {l : List ALog}, Small O w → LogL T O w v l → l.length ≤ 100000 → Calls Hvah.prog 80 #[v] w fun e w' => ∃ r, e = .returned r ∧ GRow 141 22 (LgC O w') (fun b => ¬ O b) w' r l ∧ Full r ∧ Ext w w') (h : YZ O TL W Y F n c d V start st tot []) (bT : Blk W BT 174 40 (cf r)) (hT : TxC Oz W (cf r) t) (nTY : BT ≠ Y) (b8 : Blk W B8 20 31 c8) (a8 : AAt c8 0 tg) (htg : tg < 2 ^ 160) (n8Y : B8 ≠ Y) (hdl : t.data.length ≤ 140737488355328) (hYz : Oz Y)
    (hok0 : t.create = false → FOK (bgF0 st.now t tg st.txGas)) (hok1 : t.create = true → FOK (bgF1 st.now t tg st.txGas)) (hsl : ∀ x ∈ V.accts, x.slots.length ≤ 90000)
    (hl3 : YLim (V.setBal t.from_ ((V.acct t.from_).bal - t.value))) (hl4 : YLim (V.move t.from_ tg t.value)) (hm1 : YLim (V.setNonce tg 1)) (hm2 : YLim ((V.setNonce tg 1).markMade tg)) (hm3 : YLim (((V.setNonce tg 1).markMade tg).setBal t.from_ ((((V.setNonce tg 1).markMade tg).acct t.from_).bal - t.value))) (hm4 : YLim (((V.setNonce tg 1).markMade tg).move t.from_ tg t.value))
    (hQ : ∀ w' W' L', (∃ O' F' n' c' d', YZ O' TL w' Y F' n' c' d' W' start (bgEnd st t tg) tot L' ∧ (∀ b, b < W.heap.size → (O' b ↔ O b)) ∧ Mod (fun b => b = Y ∨ b = F) W w') → W'.siz ≤ V.siz + 3 → (∀ y ∈ L', y.sv = V) → R (.returned (.int .u8 (0 : Nat))) w')
    (hK : ∀ x y, Code.wp Hvah.prog (ltail 24 (bbody Hvah.f29)) (BQ R) x y → K x y) : Code.wp Hvah.prog (lhead (ltail 23 (bbody Hvah.f29))) (Exit.then K (BQ R)) { tmps := #[.pointer (some ⟨Y, 0, none⟩), u1, u2, .pointer (some ⟨BT, 0, none⟩), u4, .pointer (some ⟨Y, 0, none⟩), u6, u7, .pointer (some ⟨B8, 0, none⟩), u9, u10, u11, u12, u13, u14, u15, u16, u17, u18, u19, u20, u21, u22, u23, u24, u25, u26, u27, u28, u29, u30, u31, u32, u33, u34, u35, u36, u37, u38, u39, u40, u41, u42, u43, u44, u45, u46, u47, u48, u49, u50, u51, u52, u53, u54, u55, u56, u57, u58, u59, u60, u61, u62, u63, u64, u65, u66, u67, u68, u69, u70, u71, u72, u73, u74, u75, u76, u77, u78, u79, u80, u81, u82, u83, u84, u85, u86, u87, u88, u89, u90, u91, u92, u93, u94, u95, u96, u97, u98, u99, u100, u101, u102, u103, u104, u105, u106, u107, u108, u109, u110, u111, u112, u113, u114, u115, u116, u117, u118, u119, u120, u121, u122, u123, u124, u125, u126, u127, u128, u129, u130, u131, u132, u133, u134, u135, u136, u137, u138, u139, u140, u141, u142, u143, u144, u145, u146, u147, u148, u149, u150, u151, u152, u153, u154, u155, u156, u157, u158, u159, u160, u161, u162, u163, u164, u165, u166, u167, u168, u169, u170, u171, u172, u173, u174, u175, u176, u177, u178, u179, u180, u181, u182, u183, u184, u185, u186, u187, u188, u189, u190, u191, u192, u193, u194, u195, u196, u197, u198, u199, u200, u201, u202, u203, u204, u205, u206, u207, u208, u209, u210, u211, u212, u213, u214, u215, u216, u217, u218, u219, u220, u221, u222, u223, u224, u225, u226, u227, u228, u229, u230, u231, u232, u233, u234, u235, u236, u237, u238, u239, u240, u241, u242, u243, u244, u245, u246, u247, u248, u249, u250, u251, u252, u253, u254, u255, u256, u257, u258, u259, u260, u261, u262, u263, u264, u265, u266, u267, u268, u269, u270], defers := [] } W := by
  have hfl := hT.fLt
  have hcc : cf r 40 = .bool t.create := hT.create
  have hda := hT.data
  have hYl := h.bY.lt
  have hTl := bT.lt
  have hFl := h.small F h.oF
  have hvl := hT.vLt
  simp only [ltail, lhead, bbody, Hvah.f29] at hK ⊢
  unfold BQ at hK ⊢
  go_upto_region 45 with ((with_reducible (refine Veil.out ?_; apply wl_storeC onet32b)); (case hx => rfl); (case hy => rfl); (case h1 => rfl); (case hB => exact h.bY); (case hi => decide); rintro W1 b1 m1)
  have h1' := h.putRet m1 (l := []) ⟨none, 0, rfl, Nat.le_refl _, by decide, ⟨fun x hx => by simp at hx, fun q => absurd rfl q⟩⟩ b1
  obtain ⟨c1, h1⟩ : ∃ f, YZ O TL W1 Y F n f d V start { st with ret := [] } tot [] := ⟨_, h1'⟩
  have bT1 := bT.mod m1 nTY
  have b81 := b8.mod m1 n8Y
  have M1 : Mod (fun b => b = Y) W W1 := m1
  have tg1 : NV O W1 (c1 15) st.txGas := h1.tg
  have hv15 := nv_onez tg1
  have HVa := fun W' (hW : Ext W1 W') => nFromB (h1.small.ext hW) (bT1.ext hW) hT.value hvl (by decide)
  have HVb := fun B W' (hO : Small (Wd O B) W') (hW : Ext W1 W') => nFromB (O := Wd O B) hO (bT1.ext hW) hT.value hvl (by decide)
  clear h1' b1 h bT b8
  refine w_ext ?_
  rintro W0 hW0
  refine' joinB3 (P := _) (Fc := fun B W8 u => Ext W0 W8 ∧ W0.heap.size ≤ B ∧ ∃ dB, Blk W8 B 60 156 dB ∧ YFC (Wd O B) (fun _ => False) W8 dB 0 { fr0 with kind := 0, gas := st.txGas, value := t.value, self := tg, caller := t.from_, saved := st.now } ∧ (∀ j, j < 60 → (dB j).oneCell' = true)) (fun key => _) _
  rotate_left
  refine wp_region_held_drew (S := fun w' => Ext W0 w') (by kernel_rfl) (Ext.refl _).drew (fun hHeld => ?_)
  have HH : Hid (Ext W0 _) := hHeld
  clear hHeld
  refine wpAnyH_take (i := 0) (v := ?_) rfl (by kernel_rfl) (by kernel_rfl) (by kernel_rfl) (fun _ _ _ h => h) (Or.inl ⟨by rfl, ?_⟩) HH.out ?_
  rotate_left
  · intro w hSw; go_simp; try with_reducible rfl
  change wpAnyH _ _ _ _ _ _ _ (Act.put _ (some 216) _) _
  simp only [Act.put, List.setIfInBounds_toArray, List.set_cons_zero, List.set_cons_succ]
  refine wpAnyH_take (i := 1) (v := ?_) rfl (by kernel_rfl) (by kernel_rfl) (by kernel_rfl) (fun _ _ _ h => h) (Or.inl ⟨by rfl, ?_⟩) HH.out ?_
  rotate_left
  · intro w hSw; go_simp; try with_reducible rfl
  change wpAnyH _ _ _ _ _ _ _ (Act.put _ (some 217) _) _
  simp only [Act.put, List.setIfInBounds_toArray, List.set_cons_zero, List.set_cons_succ]
  refine wpAnyH_take (i := 2) (v := ?_) rfl (by kernel_rfl) (by kernel_rfl) (by kernel_rfl) (fun _ _ _ h => h) (Or.inl ⟨by rfl, ?_⟩) HH.out ?_
  rotate_left
  · intro w hSw; go_simp; try with_reducible rfl
  change wpAnyH _ _ _ _ _ _ _ (Act.put _ (some 218) _) _
  simp only [Act.put, List.setIfInBounds_toArray, List.set_cons_zero, List.set_cons_succ]
  refine wpAnyH_take (i := 3) rfl (by kernel_rfl) (by kernel_rfl) (by kernel_rfl) (fun _ _ _ h => h) (yieldsIf_load1 (by rfl) _ _ rfl _ _ rfl onet96b _ (fun w hSw => (h1.bY.ext (hW0.trans hSw)).cell (by decide))) HH.out ?_
  change wpAnyH _ _ _ _ _ _ _ (Act.put _ (some 219) _) _
  simp only [Act.put, List.setIfInBounds_toArray, List.set_cons_zero, List.set_cons_succ]
  refine wpAnyH_take (i := 4) (v := ?_) rfl (by kernel_rfl) (by kernel_rfl) (by kernel_rfl) (fun _ _ _ h => h) (Or.inl ⟨by rfl, ?_⟩) HH.out ?_
  rotate_left
  · intro w hSw; go_simp; try with_reducible rfl
  change wpAnyH _ _ _ _ _ _ _ (Act.put _ (some 220) _) _
  simp only [Act.put, List.setIfInBounds_toArray, List.set_cons_zero, List.set_cons_succ]
  refine wpAnyH_take (i := 5) (v := ?_) rfl (by kernel_rfl) (by kernel_rfl) (by kernel_rfl) (fun _ _ _ h => h) (Or.inl ⟨by rfl, ?_⟩) HH.out ?_
  rotate_left
  · intro w hSw; go_simp; try with_reducible rfl
  change wpAnyH _ _ _ _ _ _ _ (Act.put _ (some 221) _) _
  simp only [Act.put, List.setIfInBounds_toArray, List.set_cons_zero, List.set_cons_succ]
  refine wpAnyH_take (i := 7) rfl (by kernel_rfl) (by kernel_rfl) (by kernel_rfl) (fun _ _ _ h => h) (yields_A (by rfl) rfl rfl (fun w hSw => b81.ext (hW0.trans hSw)) a8 htg (by decide)) HH.out ?_
  change wpAnyH _ _ _ _ _ _ _ (Act.put _ (some 223) _) _
  simp only [Act.put, List.setIfInBounds_toArray, List.set_cons_zero, List.set_cons_succ]
  refine wpAnyH_take (i := 8) (v := ?_) rfl (by kernel_rfl) (by kernel_rfl) (by kernel_rfl) (fun _ _ _ h => h) (Or.inl ⟨by rfl, ?_⟩) HH.out ?_
  rotate_left
  · intro w hSw; go_simp; try with_reducible rfl
  change wpAnyH _ _ _ _ _ _ _ (Act.put _ (some 224) _) _
  simp only [Act.put, List.setIfInBounds_toArray, List.set_cons_zero, List.set_cons_succ]
  refine wpAnyH_take (i := 9) rfl (by kernel_rfl) (by kernel_rfl) (by kernel_rfl) (fun _ _ _ h => h) (yields_A (by rfl) rfl rfl (fun w hSw => bT1.ext (hW0.trans hSw)) hT.from_ hfl (by decide)) HH.out ?_
  change wpAnyH _ _ _ _ _ _ _ (Act.put _ (some 225) _) _
  simp only [Act.put, List.setIfInBounds_toArray, List.set_cons_zero, List.set_cons_succ]
  refine wpAnyH_ready (rs := [6, 11]) (by kernel_rfl) (by simp) ?_
  refine (AllReadyH.cons rfl (fun K hK => ?_) (AllReadyH.cons rfl (fun K hK => ?_) AllReadyH.nil))
  go_simp
  go_at_call 43; refine (HVa _ (by (repeat (first | with_reducible exact Ext.refl _ | with_reducible assumption | refine Ext.trans ?_ (by with_reducible assumption) | refine Ext.alloc ?_ _ _ | refine Ext.drew ?_ | refine Ext.drewN ?_ _)))).mono ?_; rintro e w5 ⟨rv, rfl, hrv, he⟩
  refine hK.out _ _ ?_ (fun hHeld => ?_)
  · first | exact HH.out.trans hmY | exact HH.out.trans he | exact HH.out
  clear hK K HH
  have HH : Hid (Ext W0 _) := hHeld
  clear hHeld
  refine wpAnyH_take (i := 10) rfl (by kernel_rfl) (by kernel_rfl) (by kernel_rfl) (fun _ _ _ h => h) (yields_build (ps := [(0, .int .u8 0), (4, c1 15), (5, rv), (12, .agg (av tg)), (13, .agg (av t.from_))]) (by rfl) rfl (b147E htg hfl hv15 hrv.one).1 (by simp [Act.eval])) HH.out ?_
  change wpAnyH _ _ _ _ _ _ _ (Act.put _ (some 226) _) _
  simp only [Act.put, List.setIfInBounds_toArray, List.set_cons_zero, List.set_cons_succ]
  refine wpAnyH_ready (rs := [11]) (by kernel_rfl) (by simp) ?_
  refine AllReadyH.cons rfl (fun K hK => ?_) AllReadyH.nil
  refine step_any rfl (op_alloc (n := 60) rfl z147q z147n ?_)
  rintro B Wb e7 b7 g7
  refine hK.out _ _ ?_ (fun hHeld => ?_)
  · exact HH.out.trans e7
  clear hK K HH
  have HH : Hid (Ext W0 _) := hHeld
  clear hHeld
  change wpAnyH _ _ _ _ _ _ _ (Act.put _ (some 17) _) _
  simp only [Act.put, List.setIfInBounds_toArray, List.set_cons_zero, List.set_cons_succ]
  refine wpAnyH_ready (rs := [12]) (by kernel_rfl) (by simp) ?_
  refine AllReadyH.cons rfl (fun K hK => ?_) AllReadyH.nil
  refine step_any rfl (op_storeRow rfl rt147b rfl rfl (b147E htg hfl hv15 hrv.one).2.1 (b147E htg hfl hv15 hrv.one).2.2.1 (b7.ext (by (repeat (first | with_reducible exact Ext.refl _ | with_reducible assumption | refine Ext.trans ?_ (by with_reducible assumption) | refine Ext.alloc ?_ _ _ | refine Ext.drew ?_ | refine Ext.drewN ?_ _)))) (by decide) ?_)
  rintro W8 b8 m8
  refine hK.out _ _ ?_ (fun hHeld => ?_)
  · exact Ext.trans_mod HH.out m8 (fun q hq => by have hq2 : q = B := hq; rw [hq2]; exact Nat.le_trans (Ext.size (by (repeat (first | with_reducible exact Ext.refl _ | with_reducible assumption | refine Ext.trans ?_ (by with_reducible assumption) | refine Ext.alloc ?_ _ _ | refine Ext.drew ?_ | refine Ext.drewN ?_ _)))) g7)
  clear hK K HH
  have HH : Hid (Ext W0 _) := hHeld
  clear hHeld
  change wpAnyH _ _ _ _ _ _ _ (Act.put _ none _) _
  simp only [Act.put, List.setIfInBounds_toArray, List.set_cons_zero, List.set_cons_succ]
  refine wpAnyH_done (by kernel_rfl) ?_ _
  (have hu8 : NV (Wd O B) W8 rv t.value := (by first | exact NV.keep (NV.ext (O := Wd O B) hrv (by (repeat (first | with_reducible exact Ext.refl _ | with_reducible assumption | refine Ext.trans ?_ (by with_reducible assumption) | refine Ext.alloc ?_ _ _ | refine Ext.drew ?_ | refine Ext.drewN ?_ _)))) m8 (fun x hx q => hx (Or.inr q)) | exact NV.keep ((NV.widen hrv (Nat.le_trans (Ext.size (by (repeat (first | with_reducible exact Ext.refl _ | with_reducible assumption | refine Ext.trans ?_ (by with_reducible assumption) | refine Ext.alloc ?_ _ _ | refine Ext.drew ?_ | refine Ext.drewN ?_ _)))) g7)).ext (by (repeat (first | with_reducible exact Ext.refl _ | with_reducible assumption | refine Ext.trans ?_ (by with_reducible assumption) | refine Ext.alloc ?_ _ _ | refine Ext.drew ?_ | refine Ext.drewN ?_ _)))) m8 (fun x hx q => hx (Or.inr q))); have hg8 : NV (Wd O B) W8 (c1 15) st.txGas := (NV.keep ((NV.widen tg1 (Nat.le_trans (Ext.size (by (repeat (first | with_reducible exact Ext.refl _ | with_reducible assumption | refine Ext.trans ?_ (by with_reducible assumption) | refine Ext.alloc ?_ _ _ | refine Ext.drew ?_ | refine Ext.drewN ?_ _)))) g7)).ext (by (repeat (first | with_reducible exact Ext.refl _ | with_reducible assumption | refine Ext.trans ?_ (by with_reducible assumption) | refine Ext.alloc ?_ _ _ | refine Ext.drew ?_ | refine Ext.drewN ?_ _)))) m8 (fun x hx q => hx (Or.inr q))); have hb := b147E htg hfl hv15 hrv.one; have hin : ∀ j, j < 60 → layv (cf z147r) 0 (b147Er Hvah.prog tg t.from_ (c1 15) rv) j = cf (b147Er Hvah.prog tg t.from_ (c1 15) rv) j := (fun j hj => by have := layv_in (cf z147r) 0 (b147Er Hvah.prog tg t.from_ (c1 15) rv) (j := j) (by rw [hb.2.1]; exact hj); rwa [Nat.zero_add] at this); exact key B W8 rv ⟨HH.out, Nat.le_trans (Ext.size (by (repeat (first | with_reducible exact Ext.refl _ | with_reducible assumption | refine Ext.trans ?_ (by with_reducible assumption) | refine Ext.alloc ?_ _ _ | refine Ext.drew ?_ | refine Ext.drewN ?_ _)))) g7, _, b8, (hb.2.2.2 (Wd O B) (fun _ => False) W8 _ _ st.now hg8 hu8).same htg hfl (fun j hj => by rw [Nat.zero_add]; exact hin j (by omega)), fun j hj => by rw [hin j hj]; exact hb.2.2.1.get (by rw [hb.2.1]; exact hj)⟩)
  refine step_any rfl (op_alloc (n := 60) rfl z147q z147n ?_)
  rintro B Wb e7 b7 g7
  refine hK.out _ _ ?_ (fun hHeld => ?_)
  · exact HH.out.trans e7
  clear hK K HH
  have HH : Hid (Ext W0 _) := hHeld
  clear hHeld
  change wpAnyH _ _ _ _ _ _ _ (Act.put _ (some 17) _) _
  simp only [Act.put, List.setIfInBounds_toArray, List.set_cons_zero, List.set_cons_succ]
  refine wpAnyH_ready (rs := [6]) (by kernel_rfl) (by simp) ?_
  refine AllReadyH.cons rfl (fun K hK => ?_) AllReadyH.nil
  go_simp
  go_at_call 43; refine (HVb B _ (Small.wdm h1.small (by (repeat (first | with_reducible exact Ext.refl _ | with_reducible assumption | refine Ext.trans ?_ (by with_reducible assumption) | refine Ext.alloc ?_ _ _ | refine Ext.drew ?_ | refine Ext.drewN ?_ _))) (b7.ext (by (repeat (first | with_reducible exact Ext.refl _ | with_reducible assumption | refine Ext.trans ?_ (by with_reducible assumption) | refine Ext.alloc ?_ _ _ | refine Ext.drew ?_ | refine Ext.drewN ?_ _))))) (by (repeat (first | with_reducible exact Ext.refl _ | with_reducible assumption | refine Ext.trans ?_ (by with_reducible assumption) | refine Ext.alloc ?_ _ _ | refine Ext.drew ?_ | refine Ext.drewN ?_ _)))).mono ?_; rintro e w5 ⟨rv, rfl, hrv, he⟩
  refine hK.out _ _ ?_ (fun hHeld => ?_)
  · first | exact HH.out.trans hmY | exact HH.out.trans he | exact HH.out
  clear hK K HH
  have HH : Hid (Ext W0 _) := hHeld
  clear hHeld
  refine wpAnyH_take (i := 10) rfl (by kernel_rfl) (by kernel_rfl) (by kernel_rfl) (fun _ _ _ h => h) (yields_build (ps := [(0, .int .u8 0), (4, c1 15), (5, rv), (12, .agg (av tg)), (13, .agg (av t.from_))]) (by rfl) rfl (b147E htg hfl hv15 hrv.one).1 (by simp [Act.eval])) HH.out ?_
  change wpAnyH _ _ _ _ _ _ _ (Act.put _ (some 226) _) _
  simp only [Act.put, List.setIfInBounds_toArray, List.set_cons_zero, List.set_cons_succ]
  refine wpAnyH_ready (rs := [12]) (by kernel_rfl) (by simp) ?_
  refine AllReadyH.cons rfl (fun K hK => ?_) AllReadyH.nil
  refine step_any rfl (op_storeRow rfl rt147b rfl rfl (b147E htg hfl hv15 hrv.one).2.1 (b147E htg hfl hv15 hrv.one).2.2.1 (b7.ext (by (repeat (first | with_reducible exact Ext.refl _ | with_reducible assumption | refine Ext.trans ?_ (by with_reducible assumption) | refine Ext.alloc ?_ _ _ | refine Ext.drew ?_ | refine Ext.drewN ?_ _)))) (by decide) ?_)
  rintro W8 b8 m8
  refine hK.out _ _ ?_ (fun hHeld => ?_)
  · exact Ext.trans_mod HH.out m8 (fun q hq => by have hq2 : q = B := hq; rw [hq2]; exact Nat.le_trans (Ext.size (by (repeat (first | with_reducible exact Ext.refl _ | with_reducible assumption | refine Ext.trans ?_ (by with_reducible assumption) | refine Ext.alloc ?_ _ _ | refine Ext.drew ?_ | refine Ext.drewN ?_ _)))) g7)
  clear hK K HH
  have HH : Hid (Ext W0 _) := hHeld
  clear hHeld
  change wpAnyH _ _ _ _ _ _ _ (Act.put _ none _) _
  simp only [Act.put, List.setIfInBounds_toArray, List.set_cons_zero, List.set_cons_succ]
  refine wpAnyH_done (by kernel_rfl) ?_ _
  (have hu8 : NV (Wd O B) W8 rv t.value := (by first | exact NV.keep (NV.ext (O := Wd O B) hrv (by (repeat (first | with_reducible exact Ext.refl _ | with_reducible assumption | refine Ext.trans ?_ (by with_reducible assumption) | refine Ext.alloc ?_ _ _ | refine Ext.drew ?_ | refine Ext.drewN ?_ _)))) m8 (fun x hx q => hx (Or.inr q)) | exact NV.keep ((NV.widen hrv (Nat.le_trans (Ext.size (by (repeat (first | with_reducible exact Ext.refl _ | with_reducible assumption | refine Ext.trans ?_ (by with_reducible assumption) | refine Ext.alloc ?_ _ _ | refine Ext.drew ?_ | refine Ext.drewN ?_ _)))) g7)).ext (by (repeat (first | with_reducible exact Ext.refl _ | with_reducible assumption | refine Ext.trans ?_ (by with_reducible assumption) | refine Ext.alloc ?_ _ _ | refine Ext.drew ?_ | refine Ext.drewN ?_ _)))) m8 (fun x hx q => hx (Or.inr q))); have hg8 : NV (Wd O B) W8 (c1 15) st.txGas := (NV.keep ((NV.widen tg1 (Nat.le_trans (Ext.size (by (repeat (first | with_reducible exact Ext.refl _ | with_reducible assumption | refine Ext.trans ?_ (by with_reducible assumption) | refine Ext.alloc ?_ _ _ | refine Ext.drew ?_ | refine Ext.drewN ?_ _)))) g7)).ext (by (repeat (first | with_reducible exact Ext.refl _ | with_reducible assumption | refine Ext.trans ?_ (by with_reducible assumption) | refine Ext.alloc ?_ _ _ | refine Ext.drew ?_ | refine Ext.drewN ?_ _)))) m8 (fun x hx q => hx (Or.inr q))); have hb := b147E htg hfl hv15 hrv.one; have hin : ∀ j, j < 60 → layv (cf z147r) 0 (b147Er Hvah.prog tg t.from_ (c1 15) rv) j = cf (b147Er Hvah.prog tg t.from_ (c1 15) rv) j := (fun j hj => by have := layv_in (cf z147r) 0 (b147Er Hvah.prog tg t.from_ (c1 15) rv) (j := j) (by rw [hb.2.1]; exact hj); rwa [Nat.zero_add] at this); exact key B W8 rv ⟨HH.out, Nat.le_trans (Ext.size (by (repeat (first | with_reducible exact Ext.refl _ | with_reducible assumption | refine Ext.trans ?_ (by with_reducible assumption) | refine Ext.alloc ?_ _ _ | refine Ext.drew ?_ | refine Ext.drewN ?_ _)))) g7, _, b8, (hb.2.2.2 (Wd O B) (fun _ => False) W8 _ _ st.now hg8 hu8).same htg hfl (fun j hj => by rw [Nat.zero_add]; exact hin j (by omega)), fun j hj => by rw [hin j hj]; exact hb.2.2.1.get (by rw [hb.2.1]; exact hj)⟩)
  rintro B W8 rv ⟨hE8, g8, dB, b8', f8, o8⟩
  have e8 : Ext W1 W8 := hW0.trans hE8
  have g8w : W1.heap.size ≤ B := Nat.le_trans hW0.size g8
  have z8 : ZB O TL W8 Y F n c1 d V start { st with ret := [] } tot B dB { fr0 with kind := 0, gas := st.txGas, value := t.value, self := tg, caller := t.from_, saved := st.now } :=
    ⟨h1.wd e8 b8'.lt g8w, b8', f8, htg, hfl, o8, fun q => by have := h1.bY.lt; omega, fun q => by have := h1.small F h1.oF; omega, fun b hb q => by have := h1.small b (h1.tl b hb).1; omega⟩
  have bT8 := bT1.ext e8
  have b88 := b81.ext e8
  have M8 := M1.trans_ext e8
  have g8W : W.heap.size ≤ B := Nat.le_trans M1.size g8w
  have nTB : BT ≠ B := fun q => by have := bT1.lt; omega
  have n8B : B8 ≠ B := fun q => by have := b81.lt; omega
  obtain ⟨cr, hcr⟩ : ∃ x, Hid (t.create = x) := ⟨_, rfl⟩
  rw [hcr.out] at hcc
  clear HVa HVb hE8 g8 b8' f8 o8 h1 bT1 b81 hW0 tg1 e8 M1
  go_upto_region 46 with (fail)
  cases cr with
  | false =>
    have hend : Hid (bgEnd st t tg = ({ st with ret := [], phase := 1 } : ASt).enter (bgF0 st.now t tg st.txGas)) := by
      show _ = _
      unfold bgEnd; rw [hcr.out]; rfl
    have hokE := hok0 hcr.out
    clear hok1 hok0
    go_upto_region 47 with ((with_reducible (refine Veil.out ?_; apply wl_loadC onet4b)); (case hw => rfl); (case hx => rfl); (case hc => exact (bT8.cell (i := 40) (by decide)).trans (congrArg some hcc)))
    go_upto_region 48 with (first | ((with_reducible (refine Veil.out ?_; apply wl_loadA)); (case hx => rfl); (case hB => exact b88); (case hA => exact a8); (case hs => exact htg); (case ho => decide)) | (go_at_call 63; refine (yNativeAt tg _ htg).mono ?_; rintro e w9 ⟨rfl, he9⟩) | ((with_reducible (refine Veil.out ?_; apply wl_storeC onet5b)); (case hx => rfl); (case hy => rfl); (case h1 => rfl); (case hB => exact z8.bB.ext he9); (case hi => decide); rintro W10 b10 m10))
    have z9 := z8.ext he9
    have z10 := z9.put rfl m10 b10 (z9.fc.boxPre htg hfl rfl) htg hfl
    have bT10 := (bT8.ext he9).mod m10 nTB
    have b810 := (b88.ext he9).mod m10 n8B
    have M10 : Mod (fun b => b = Y ∨ b = B) W W10 := ((M8.trans_ext he9).sub (fun b hb => Or.inl hb)).trans (m10.sub (fun b hb => Or.inr hb))
    obtain ⟨d10, z10', c10⟩ : ∃ f, ZB O TL W10 Y F n c1 d V start { st with ret := [] } tot B f { ({ fr0 with kind := 0, gas := st.txGas, value := t.value, self := tg, caller := t.from_, saved := st.now } : AFrame) with pre := preA tg } ∧ f 1 = .int .u8 (preA tg : Nat) := ⟨_, z10, updv_same _ _ _⟩
    replace z10 := z10'
    clear z10'
    have hd10 : NLx Oz W10 (cf r 107) t.data := NLx.keepN hda M10 hYz g8W
    clear z9 z8 b10 bT8 b88 M8 m10 he9
    obtain ⟨pr, hpr⟩ : ∃ x, Hid (preA tg = x) := ⟨_, rfl⟩
    rw [hpr.out] at c10
    rcases Nat.eq_zero_or_pos pr with zp | zp
    · have zpi : (pr : Int) = 0 := by omega
      go_upto_region 49 with ((with_reducible (refine Veil.out ?_; apply wl_loadC onet5b)); (case hw => rfl); (case hx => rfl); (case hc => exact (z10.bB.cell (i := 1) (by decide)).trans (congrArg some c10)))
      refine w_ext ?_
      rintro W0 hW0
      refine wp_region_held_drew (S := fun w' => Mod (fun x => x = B) W0 w') (by kernel_rfl) (Mod.refl _ _).drew (fun hHeld => ?_)
      have HH : Hid (Mod (fun x => x = B) W0 _) := hHeld
      clear hHeld
      refine wpAnyH_take (i := 0) (v := ?_) rfl (by kernel_rfl) (by kernel_rfl) (by kernel_rfl) (fun _ _ _ h => h) (Or.inl ⟨by rfl, ?_⟩) HH.out ?_
      rotate_left
      · intro w hSw; go_simp; try with_reducible rfl
      change wpAnyH _ _ _ _ _ _ _ (Act.put _ (some 236) _) _
      simp only [Act.put, List.setIfInBounds_toArray, List.set_cons_zero, List.set_cons_succ]
      refine wpAnyH_take (i := 1) (v := ?_) rfl (by kernel_rfl) (by kernel_rfl) (by kernel_rfl) (fun _ _ _ h => h) (Or.inl ⟨by rfl, ?_⟩) HH.out ?_
      rotate_left
      · intro w hSw; go_simp; try with_reducible rfl
      change wpAnyH _ _ _ _ _ _ _ (Act.put _ (some 237) _) _
      simp only [Act.put, List.setIfInBounds_toArray, List.set_cons_zero, List.set_cons_succ]
      refine wpAnyH_take (i := 2) (v := ?_) rfl (by kernel_rfl) (by kernel_rfl) (by kernel_rfl) (fun _ _ _ h => h) (Or.inl ⟨by rfl, ?_⟩) HH.out ?_
      rotate_left
      · intro w hSw; go_simp; try with_reducible rfl
      change wpAnyH _ _ _ _ _ _ _ (Act.put _ (some 238) _) _
      simp only [Act.put, List.setIfInBounds_toArray, List.set_cons_zero, List.set_cons_succ]
      refine wpAnyH_take (i := 3) rfl (by kernel_rfl) (by kernel_rfl) (by kernel_rfl) (fun _ _ _ h => h) (yields_A (by rfl) rfl rfl (fun w hSw => (b810.ext hW0).mod hSw (fun e => n8B e)) a8 htg (by decide)) HH.out ?_
      change wpAnyH _ _ _ _ _ _ _ (Act.put _ (some 239) _) _
      simp only [Act.put, List.setIfInBounds_toArray, List.set_cons_zero, List.set_cons_succ]
      refine wpAnyH_ready (rs := [4]) (by kernel_rfl) (by simp) ?_
      refine AllReadyH.cons rfl (fun K hK => ?_) AllReadyH.nil
      go_simp
      go_at_call 53; refine (zAccY (z10.z.ext (by (repeat (first | with_reducible exact Ext.refl _ | with_reducible assumption | refine Ext.trans ?_ (by with_reducible assumption) | refine Ext.alloc ?_ _ _ | refine Ext.drew ?_ | refine Ext.drewN ?_ _)))) tg htg).mono ?_; rintro e w11 ⟨u1, u2, u3, u4, rfl, hp, hag, he⟩; obtain ⟨f1, f2, f3, f4, gs, go⟩ := hag
      refine hK.out _ _ ?_ (fun hHeld => ?_)
      · first | exact HH.out.trans hmY | exact HH.out.trans_ext he | exact HH.out
      clear hK K HH
      have HH : Hid (Mod (fun x => x = B) W0 _) := hHeld
      clear hHeld
      refine wpAnyH_take (i := 5) (v := ?_) rfl (by kernel_rfl) (by kernel_rfl) (by kernel_rfl) (fun _ _ _ h => h) (Or.inl ⟨by rfl, ?_⟩) HH.out ?_
      rotate_left
      · intro w hSw; go_simp; try with_reducible rfl
      change wpAnyH _ _ _ _ _ _ _ (Act.put _ (some 241) _) _
      simp only [Act.put, List.setIfInBounds_toArray, List.set_cons_zero, List.set_cons_succ]
      refine wpAnyH_ready (rs := [6]) (by kernel_rfl) (by simp) ?_
      refine AllReadyH.cons rfl (fun K hK => ?_) AllReadyH.nil
      go_simp
      go_at_call 36; refine (yBytesOf2 (O := Wd O B) (z10.z.small.ext (by (repeat (first | with_reducible exact Ext.refl _ | with_reducible assumption | refine Ext.trans ?_ (by with_reducible assumption) | refine Ext.alloc ?_ _ _ | refine Ext.drew ?_ | refine Ext.drewN ?_ _)))) (NL.ext hp.code (by (repeat (first | with_reducible exact Ext.refl _ | with_reducible assumption | refine Ext.trans ?_ (by with_reducible assumption) | refine Ext.alloc ?_ _ _ | refine Ext.drew ?_ | refine Ext.drewN ?_ _))))).mono ?_; rintro e w12 ⟨rc, rfl, hrc, he⟩
      refine hK.out _ _ ?_ (fun hHeld => ?_)
      · first | exact HH.out.trans hmY | exact HH.out.trans_ext he | exact HH.out
      clear hK K HH
      have HH : Hid (Mod (fun x => x = B) W0 _) := hHeld
      clear hHeld
      refine wpAnyH_take (i := 7) (v := ?_) rfl (by kernel_rfl) (by kernel_rfl) (by kernel_rfl) (fun _ _ _ h => h) (Or.inl ⟨by rfl, ?_⟩) HH.out ?_
      rotate_left
      · intro w hSw; go_simp; try with_reducible rfl
      change wpAnyH _ _ _ _ _ _ _ (Act.put _ (some 243) _) _
      simp only [Act.put, List.setIfInBounds_toArray, List.set_cons_zero, List.set_cons_succ]
      refine wpAnyH_ready (rs := [8]) (by kernel_rfl) (by simp) ?_
      refine AllReadyH.cons rfl (fun K hK => ?_) AllReadyH.nil
      refine step_any rfl (op_store1 rfl onet32b rfl rfl (nl_onez hrc) (z10.bB.ext (by (repeat (first | with_reducible exact Ext.refl _ | with_reducible assumption | refine Ext.trans ?_ (by with_reducible assumption) | refine Ext.alloc ?_ _ _ | refine Ext.drew ?_ | refine Ext.drewN ?_ _)))) (by decide) ?_)
      rintro W13 b13 m13
      have e12 : Ext W10 w12 := by (repeat (first | with_reducible exact Ext.refl _ | with_reducible assumption | refine Ext.trans ?_ (by with_reducible assumption) | refine Ext.alloc ?_ _ _ | refine Ext.drew ?_ | refine Ext.drewN ?_ _))
      refine hK.out _ _ (HH.out.trans m13) (fun hHeld => ?_)
      clear hK K HH
      have HH : Hid (Mod (fun x => x = B) W0 _) := hHeld
      clear hHeld
      change wpAnyH _ _ _ _ _ _ _ (Act.put _ none _) _
      simp only [Act.put, List.setIfInBounds_toArray, List.set_cons_zero, List.set_cons_succ]
      refine wpAnyH_done (by kernel_rfl) ?_ _
      have z12 := z10.ext e12
      have z13 := z12.put (nl_onez hrc) m13 b13 (z12.fc.boxCode htg hfl hrc) htg hfl
      have bT13 := (bT10.ext e12).mod m13 nTB
      have M13 : Mod (fun b => b = Y ∨ b = B) W W13 := (M10.trans_ext e12).trans (m13.sub (fun b hb => Or.inr hb))
      have hd13 : NLx Oz W13 (cf r 107) t.data := NLx.keepN hda M13 hYz g8W
      go_upto_region 50 with (fail)
      go_upto_region 58 with (first | ((with_reducible (refine Veil.out ?_; apply wl_loadC onet32b)); (case hw => rfl); (case hx => rfl); (case hc => exact (bT13.cell (i := 107) (by decide)))) | (go_at_call 36; refine (yBytesOfX (O := Wd O B) z13.z.small hd13 hdl).mono ?_; rintro e wq ⟨rq, rfl, hrq, heq⟩) | ((with_reducible (refine Veil.out ?_; apply wl_storeC onet32b)); (case hx => rfl); (case hy => rfl); (case h1 => exact nl_onez hrq); (case hB => exact z13.bB.ext heq); (case hi => decide); rintro WN bN mN))
      have z14 := z13.ext heq
      have z15 := z14.put (nl_onez hrq) mN bN (z14.fc.boxInput htg hfl hrq) htg hfl
      have ME : Mod (fun b => b = Y ∨ b = B) W WN := (M13.trans_ext heq).trans (mN.sub (fun b hb => Or.inr hb))
      obtain ⟨dE, zE⟩ : ∃ f, ZB O TL WN Y F n c1 d V start { st with ret := [] } tot B f (bgF0 st.now t tg st.txGas) := ⟨_, by
        have e9 : bgF0 st.now t tg st.txGas = _ := bg0_code st.now t tg st.txGas (hpr.out.trans zp)
        rw [e9]; exact (show (V.acct tg).code = st.now.code tg by rw [z15.z.now]; rfl) ▸ z15⟩
      clear z13 z14 z15 z12 z10
      go_upto_region 59 with ((with_reducible (refine Veil.out ?_; apply wl_storeC onet5b)); (case hx => rfl); (case hy => rfl); (case h1 => rfl); (case hB => exact zE.z.bY); (case hi => decide); rintro WP bP mP)
      have hP := zE.z.putPhase 1 (by decide) mP bP
      have zP := zE.world hP mP
      have MP := ME.trans (mP.sub (fun b hb => Or.inl hb))
      have HEn := zEnter0 HLG zP.z (rowOf dE 0 60) (rowOf_size _ _ _) zP.ones _ rfl zP.row hokE hsl (by simp) hl3 hl4
      go_upto_region 60 with (first | ((with_reducible (refine Veil.out ?_; apply wl_loadRow rt147b)); (case hx => rfl); (case hB => exact zP.bB); (case hi => decide)) | (go_at_call 65; refine HEn.mono ?_; rintro e wN ⟨rfl, ON, FN, nN, cN, dN, hN, hON, mN⟩))
      go_wp2
      show R (.returned (.int .u8 (0 : Nat))) _
      refine hQ _ _ _ ⟨ON, FN, nN, cN, dN, by rw [hend.out]; exact hN, fun b hb => ?_, ?_⟩ (Nat.le_trans (siz_move V t.from_ tg t.value).2.1 (by omega)) (fun y hy => by simp only [List.mem_singleton] at hy; rw [hy])
      · have hb2 : b < WP.heap.size := Nat.lt_of_lt_of_le hb MP.size
        exact (hON b hb2).trans ⟨fun q => q.elim id (fun q => by omega), Or.inl⟩
      · exact Mod.trans' (MP.anewB g8W) mN (fun b hb => Or.inl hb)
    · have zpi : ¬ (pr : Int) = 0 := by omega
      have zpd : decide ((pr : Int) = 0) = false := decide_eq_false zpi
      go_upto_region 50 with ((with_reducible (refine Veil.out ?_; apply wl_loadC onet5b)); (case hw => rfl); (case hx => rfl); (case hc => exact (z10.bB.cell (i := 1) (by decide)).trans (congrArg some c10)))
      go_upto_region 58 with (first | ((with_reducible (refine Veil.out ?_; apply wl_loadC onet32b)); (case hw => rfl); (case hx => rfl); (case hc => exact (bT10.cell (i := 107) (by decide)))) | (go_at_call 36; refine (yBytesOfX (O := Wd O B) z10.z.small hd10 hdl).mono ?_; rintro e wq ⟨rq, rfl, hrq, heq⟩) | ((with_reducible (refine Veil.out ?_; apply wl_storeC onet32b)); (case hx => rfl); (case hy => rfl); (case h1 => exact nl_onez hrq); (case hB => exact z10.bB.ext heq); (case hi => decide); rintro WN bN mN))
      have z14 := z10.ext heq
      have z15 := z14.put (nl_onez hrq) mN bN (z14.fc.boxInput htg hfl hrq) htg hfl
      have ME : Mod (fun b => b = Y ∨ b = B) W WN := (M10.trans_ext heq).trans (mN.sub (fun b hb => Or.inr hb))
      obtain ⟨dE, zE⟩ : ∃ f, ZB O TL WN Y F n c1 d V start { st with ret := [] } tot B f (bgF0 st.now t tg st.txGas) := ⟨_, by
        have e9 : bgF0 st.now t tg st.txGas = _ := bg0_none st.now t tg st.txGas (by rw [hpr.out]; omega)
        rw [e9]; exact z15⟩
      clear z14 z15 z10
      go_upto_region 59 with ((with_reducible (refine Veil.out ?_; apply wl_storeC onet5b)); (case hx => rfl); (case hy => rfl); (case h1 => rfl); (case hB => exact zE.z.bY); (case hi => decide); rintro WP bP mP)
      have hP := zE.z.putPhase 1 (by decide) mP bP
      have zP := zE.world hP mP
      have MP := ME.trans (mP.sub (fun b hb => Or.inl hb))
      have HEn := zEnter0 HLG zP.z (rowOf dE 0 60) (rowOf_size _ _ _) zP.ones _ rfl zP.row hokE hsl (by simp) hl3 hl4
      go_upto_region 60 with (first | ((with_reducible (refine Veil.out ?_; apply wl_loadRow rt147b)); (case hx => rfl); (case hB => exact zP.bB); (case hi => decide)) | (go_at_call 65; refine HEn.mono ?_; rintro e wN ⟨rfl, ON, FN, nN, cN, dN, hN, hON, mN⟩))
      go_wp2
      show R (.returned (.int .u8 (0 : Nat))) _
      refine hQ _ _ _ ⟨ON, FN, nN, cN, dN, by rw [hend.out]; exact hN, fun b hb => ?_, ?_⟩ (Nat.le_trans (siz_move V t.from_ tg t.value).2.1 (by omega)) (fun y hy => by simp only [List.mem_singleton] at hy; rw [hy])
      · have hb2 : b < WP.heap.size := Nat.lt_of_lt_of_le hb MP.size
        exact (hON b hb2).trans ⟨fun q => q.elim id (fun q => by omega), Or.inl⟩
      · exact Mod.trans' (MP.anewB g8W) mN (fun b hb => Or.inl hb)
  | true =>
    have hokE := hok1 hcr.out
    clear hok1 hok0
    go_upto_region 51 with ((with_reducible (refine Veil.out ?_; apply wl_loadC onet4b)); (case hw => rfl); (case hx => rfl); (case hc => exact (bT8.cell (i := 40) (by decide)).trans (congrArg some hcc)))
    go_upto_region 52 with ((with_reducible (refine Veil.out ?_; apply wl_storeC onet5b)); (case hx => rfl); (case hy => rfl); (case h1 => rfl); (case hB => exact z8.bB); (case hi => decide); rintro W10 b10 m10)
    have z10 := z8.put rfl m10 b10 (z8.fc.boxKind (x := 1) htg hfl rfl) htg hfl
    have bT10 := bT8.mod m10 nTB
    have b810 := b88.mod m10 n8B
    have M10 : Mod (fun b => b = Y ∨ b = B) W W10 := (M8.sub (fun b hb => Or.inl hb)).trans (m10.sub (fun b hb => Or.inr hb))
    have hd10 : NLx Oz W10 (cf r 107) t.data := NLx.keepN hda M10 hYz g8W
    clear z8 bT8 b88 M8 b10 m10
    go_upto_region 53 with (first | ((with_reducible (refine Veil.out ?_; apply wl_loadC onet32b)); (case hw => rfl); (case hx => rfl); (case hc => exact (bT10.cell (i := 107) (by decide)))) | (go_at_call 36; refine (yBytesOfX (O := Wd O B) z10.z.small hd10 hdl).mono ?_; rintro e wq ⟨rq, rfl, hrq, heq⟩) | ((with_reducible (refine Veil.out ?_; apply wl_storeC onet32b)); (case hx => rfl); (case hy => rfl); (case h1 => exact nl_onez hrq); (case hB => exact z10.bB.ext heq); (case hi => decide); rintro WN bN mN))
    have z14 := z10.ext heq
    have z15 := z14.put (nl_onez hrq) mN bN (z14.fc.boxCode htg hfl hrq) htg hfl
    have ME : Mod (fun b => b = Y ∨ b = B) W WN := (M10.trans_ext heq).trans (mN.sub (fun b hb => Or.inr hb))
    have b8N := (b810.ext heq).mod mN n8B
    obtain ⟨dE, zE⟩ : ∃ f, ZB O TL WN Y F n c1 d V start { st with ret := [] } tot B f (bgF1 st.now t tg st.txGas) := ⟨_, z15⟩
    clear z14 z15 z10 bN mN heq hrq M10 b810
    have HTk := yTaken (zE.top hokE) tg htg
    have hnow : ({ st with ret := [] } : ASt).now = st.now := rfl
    rw [hnow] at HTk
    by_cases hk : st.now.nonce tg = 0 ∧ st.now.code tg = []
    · rw [decide_eq_true hk] at HTk
      have hend : Hid (bgEnd st t tg = ({ st with ret := [], phase := 1 } : ASt).enter (bgF1 st.now t tg st.txGas)) := by
        show _ = _
        unfold bgEnd; rw [hcr.out, if_pos rfl, if_neg (fun q => q.elim (fun q => q hk.1) (fun q => q hk.2))]
      clear hk
      go_upto_region 58 with (first | ((with_reducible (refine Veil.out ?_; apply wl_loadA)); (case hx => rfl); (case hB => exact b8N); (case hA => exact a8); (case hs => exact htg); (case ho => decide)) | (go_at_call 64; refine HTk.mono ?_; rintro e w16 ⟨rfl, he16⟩))
      replace zE := zE.ext he16
      replace ME := ME.trans_ext he16
      go_upto_region 59 with ((with_reducible (refine Veil.out ?_; apply wl_storeC onet5b)); (case hx => rfl); (case hy => rfl); (case h1 => rfl); (case hB => exact zE.z.bY); (case hi => decide); rintro WP bP mP)
      have hP := zE.z.putPhase 1 (by decide) mP bP
      have zP := zE.world hP mP
      have MP := ME.trans (mP.sub (fun b hb => Or.inl hb))
      have HEn := zEnter1 HLG zP.z (rowOf dE 0 60) (rowOf_size _ _ _) zP.ones _ rfl zP.row hokE hsl (by simp) hm1 hm2 hm3 hm4
      go_upto_region 60 with (first | ((with_reducible (refine Veil.out ?_; apply wl_loadRow rt147b)); (case hx => rfl); (case hB => exact zP.bB); (case hi => decide)) | (go_at_call 65; refine HEn.mono ?_; rintro e wN ⟨rfl, ON, FN, nN, cN, dN, hN, hON, mN⟩))
      go_wp2
      show R (.returned (.int .u8 (0 : Nat))) _
      refine hQ _ _ _ ⟨ON, FN, nN, cN, dN, by rw [hend.out]; exact hN, fun b hb => ?_, ?_⟩ (Nat.le_trans (siz_move ((V.setNonce tg 1).markMade tg) t.from_ tg t.value).2.1 (by have a1 := (siz_setNonce V tg 1).1; have a2 := siz_markMade (V.setNonce tg 1) tg; omega)) (fun y hy => by simp only [List.mem_singleton] at hy; rw [hy])
      · have hb2 : b < WP.heap.size := Nat.lt_of_lt_of_le hb MP.size
        exact (hON b hb2).trans ⟨fun q => q.elim id (fun q => by omega), Or.inl⟩
      · exact Mod.trans' (MP.anewB g8W) mN (fun b hb => Or.inl hb)
    · rw [decide_eq_false hk] at HTk
      have hend : Hid (bgEnd st t tg = { st with ret := [], phase := 2, status := 12, left := 0 }) := by
        show _ = _
        unfold bgEnd
        rw [hcr.out, if_pos rfl, if_pos]
        by_cases q : st.now.nonce tg = 0
        · exact Or.inr (fun q2 => hk ⟨q, q2⟩)
        · exact Or.inl q
      clear hk
      go_upto_region 54 with (first | ((with_reducible (refine Veil.out ?_; apply wl_loadA)); (case hx => rfl); (case hB => exact b8N); (case hA => exact a8); (case hs => exact htg); (case ho => decide)) | (go_at_call 64; refine HTk.mono ?_; rintro e w16 ⟨rfl, he16⟩))
      replace zE := zE.ext he16
      replace ME := ME.trans_ext he16
      go_upto_region 55 with ((with_reducible (refine Veil.out ?_; apply wl_storeC onet5b)); (case hx => rfl); (case hy => rfl); (case h1 => rfl); (case hB => exact zE.z.bY); (case hi => decide); rintro W17 b17 m17)
      go_upto_region 56 with ((with_reducible (refine Veil.out ?_; apply wl_storeC onet5b)); (case hx => rfl); (case hy => rfl); (case h1 => rfl); (case hB => exact b17); (case hi => decide); rintro W18 b18 m18)
      go_upto_region 57 with ((with_reducible (refine Veil.out ?_; apply wl_storeC onet96b)); (case hx => rfl); (case hy => rfl); (case h1 => rfl); (case hB => exact b18); (case hi => decide); rintro W19 b19 m19)
      have mE : Mod (· = Y) w16 W19 := (m17.trans m18).trans m19
      have hE := zE.z.putEnd (s := 12) (g := 0) mE b19 NV.nil
      go_wp2
      show R (.returned (.int .u8 (0 : Nat))) _
      refine hQ _ V [] ⟨_, _, _, _, _, by rw [hend.out]; exact hE, fun b hb => ?_, ?_⟩ (by omega) (fun y hy => by cases hy)
      · exact ⟨fun q => q.elim id (fun q => by omega), Or.inl⟩
      · exact Mod.trans' (ME.anewB g8W) mE (fun b hb => Or.inl (Or.inl hb))
end
end Go.Proofs.YgvahwGreat
