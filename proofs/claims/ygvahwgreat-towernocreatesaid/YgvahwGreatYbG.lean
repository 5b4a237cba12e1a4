import Derived.Test.YgvahwGreatYb9
import Derived.Test.YgvahwGreatYa
import Derived.Test.YgvahwGreatId
import Derived.Test.YgvahwGreatYi0
namespace Go.Proofs.YgvahwGreat
open Go.RowKit
set_option linter.unusedSimpArgs false
theorem joinB2x {P Fc : World → Value → Value → Prop} {G : Prop} (h : (∀ W u v, Fc W u v → P W u v) → G) (k : ∀ W u v, Fc W u v → P W u v) : G := h k
section
variable {O : Nat → Prop} {W19 : World} {Y BT BA B8 tg bl T ap1 md : Nat} {c c19 cA cx : Nat → Value} {W : YW} {st : ASt} {tot : Nat} {r : Array Value} {t : ATx}
set_option maxRecDepth 100000 in
set_option maxHeartbeats 6400000 in
theorem bgGas {K : Act → World → Prop} {R : Ending → World → Prop} (u1 u2 u4 u6 u9 u10 u11 u12 u13 u14 u15 u16 u17 u18 u19 u20 u21 u22 u23 u24 u25 u26 u27 u28 u29 u30 u31 u32 u33 u34 u35 u36 u37 u38 u39 u40 u41 u42 u43 u44 u45 u46 u47 u48 u49 u50 u51 u52 u53 u54 u55 u56 u57 u58 u59 u60 u61 u62 u63 u64 u65 u66 u67 u68 u69 u70 u71 u72 u73 u74 u75 u76 u77 u78 u79 u80 u81 u82 u83 u84 u85 u86 u87 u88 u89 u90 u91 u92 u93 u94 u95 u96 u97 u98 u99 u100 u101 u102 u103 u104 u105 u106 u107 u108 u109 u110 u111 u112 u113 u114 u115 u116 u117 u118 u119 u120 u121 u122 u123 u124 u125 u126 u127 u128 u129 u130 u131 u132 u133 u134 u135 u136 u137 u138 u139 u140 u141 u142 u143 u144 u145 u146 u147 u148 u149 u150 u151 u152 u153 u154 u155 u156 u157 u158 u159 u160 u161 u162 u163 u164 u165 u166 u167 u168 u169 u170 u171 u172 u173 u174 u175 u176 u177 u178 u179 u180 u181 u182 u183 u184 u185 u186 u187 u188 u189 u190 u191 u192 u193 u194 u195 u196 u197 u198 u199 u200 u201 u202 u203 u204 u205 u206 u207 u208 u209 u210 u211 u212 u213 u214 u215 u216 u217 u218 u219 u220 u221 u222 u223 u224 u225 u226 u227 u228 u229 u230 u231 u232 u233 u234 u235 u236 u237 u238 u239 u240 u241 u242 u243 u244 u245 u246 u247 u248 u249 u250 u251 u252 u253 u254 u255 u256 u257 u258 u259 u260 u261 u262 u263 u264 u265 u266 u267 u268 u269 u270 : Value) (HLG : ∀ {O T : Nat → Prop} {w : World} {v : Value} {l : List ALog}, Small O w → LogL T O w v l → l.length ≤ 100000 → Calls Hvah.prog 80 #[v] w fun e w' => ∃ r, e = .returned r ∧ GRow 141 22 (LgC O w') (fun b => ¬ O b) w' r l ∧ Full r ∧ Ext w w') (b19 : Blk W19 Y 179 118 c19) (hrow : rowOf (cf r) 0 174 = r) (hr : r.size = 174) (hv : VOK st t) (hlok : t.access.length ≤ 16 ∧ keysN t.access ≤ 64) (sm19 : Small O W19) (env19 : EnvC O W19 c19 59 st.env) (hrg19 : NV O W19 (c19 14) t.gas) (bT19 : Blk W19 BT 174 40 (cf r)) (hT19 : TxC O W19 (cf r) t) (nTY : BT ≠ Y) (bA19 : Blk W19 BA 24 121 cA) (n119 : NV O W19 (cA 20) t.nonce) (n219 : NV O W19 (cA 21) bl) (nAY : BA ≠ Y) (bx19 : Blk W19 B8 20 31 cx) (ax : AAt cx 0 tg) (htgl : tg < 2 ^ 160) (n8Y : B8 ≠ Y) (hOY : O Y)
    (hZ1 : ∀ W' c', Mod (· = Y) W19 W' → Blk W' Y 179 118 c' → NV O W' (c' 15) (t.gas - t.intrinsic) → NV O W' (c' 17) (st.priceOf t) → AAt c' 19 t.from_ → c' 8 = .slice none 0 0 → (∀ j, j ≠ 8 → j ≠ 15 → j ≠ 17 → (j < 19 ∨ 39 ≤ j) → c' j = c19 j) → YZ O (fun _ => False) W' Y BT 0 c' c19 W [] ({ st with orig := lookT [], frames := [], ret := [], applied := ap1, limit := t.gas, txGas := t.gas - t.intrinsic, price := st.priceOf t, origin := t.from_, made := md } : ASt) tot [])
    (hsz : W.siz ≤ 70000) (hTl : T < P256) (hnn : t.nonce < 18446744073709551615) (hbP : bl < P256)
    (hw1 : WInv T 0 st.now.slot (W.setNonce t.from_ (t.nonce + 1)).abs) (hw2 : WInv T 0 st.now.slot ((W.setNonce t.from_ (t.nonce + 1)).setBal t.from_ (bl - t.gas * st.priceOf t)).abs)
    (hQ : ∀ w' W' L', (∃ O' F' n' c' d', YZ O' (fun _ => False) w' Y F' n' c' d' W' (startL W.accts) (bgEnd ({ ({ st with orig := lookT [], frames := [], ret := [], applied := ap1, limit := t.gas, txGas := t.gas - t.intrinsic, price := st.priceOf t, origin := t.from_, made := md } : ASt) with orig := lookT (startL W.accts), now := (((((((st.now.setNonce t.from_ (t.nonce + 1)).setBal t.from_ (bl - t.gas * st.priceOf t)).warm t.from_).warm st.env.coinbase).warm tg).warm 4).warm 5).warmList t.access } : ASt) t tg) tot L' ∧ (∀ b, b < W19.heap.size → (O' b ↔ O b)) ∧ Mod (fun b => b = Y ∨ b = BT) W19 w') → W'.siz ≤ W.siz + 100 → (∀ y ∈ L', y.sv.siz ≤ W.siz + 100) → R (.returned (.int .u8 (0 : Nat))) w')
    (hK : ∀ x y, Code.wp Hvah.prog (ltail 11 (bbody Hvah.f29)) (BQ R) x y → K x y) : Code.wp Hvah.prog (lhead (ltail 10 (bbody Hvah.f29))) (Exit.then K (BQ R)) { tmps := #[.pointer (some ⟨Y, 0, none⟩), u1, u2, .pointer (some ⟨BT, 0, none⟩), u4, .pointer (some ⟨Y, 0, none⟩), u6, .pointer (some ⟨BA, 0, none⟩), .pointer (some ⟨B8, 0, none⟩), u9, u10, u11, u12, u13, u14, u15, u16, u17, u18, u19, u20, u21, u22, u23, u24, u25, u26, u27, u28, u29, u30, u31, u32, u33, u34, u35, u36, u37, u38, u39, u40, u41, u42, u43, u44, u45, u46, u47, u48, u49, u50, u51, u52, u53, u54, u55, u56, u57, u58, u59, u60, u61, u62, u63, u64, u65, u66, u67, u68, u69, u70, u71, u72, u73, u74, u75, u76, u77, u78, u79, u80, u81, u82, u83, u84, u85, u86, u87, u88, u89, u90, u91, u92, u93, u94, u95, u96, u97, u98, u99, u100, u101, u102, u103, u104, u105, u106, u107, u108, u109, u110, u111, u112, u113, u114, u115, u116, u117, u118, u119, u120, u121, u122, u123, u124, u125, u126, u127, u128, u129, u130, u131, u132, u133, u134, u135, u136, u137, u138, u139, u140, u141, u142, u143, u144, u145, u146, u147, u148, u149, u150, u151, u152, u153, u154, u155, u156, u157, u158, u159, u160, u161, u162, u163, u164, u165, u166, u167, u168, u169, u170, u171, u172, u173, u174, u175, u176, u177, u178, u179, u180, u181, u182, u183, u184, u185, u186, u187, u188, u189, u190, u191, u192, u193, u194, u195, u196, u197, u198, u199, u200, u201, u202, u203, u204, u205, u206, u207, u208, u209, u210, u211, u212, u213, u214, u215, u216, u217, u218, u219, u220, u221, u222, u223, u224, u225, u226, u227, u228, u229, u230, u231, u232, u233, u234, u235, u236, u237, u238, u239, u240, u241, u242, u243, u244, u245, u246, u247, u248, u249, u250, u251, u252, u253, u254, u255, u256, u257, u258, u259, u260, u261, u262, u263, u264, u265, u266, u267, u268, u269, u270], defers := [] } W19 := by
  have hsY : ∀ b, ¬ O b → ¬ b = Y := fun b hb q => hb (q ▸ hOY)
  have hfl := hT19.fLt
  have hfr := hT19.from_
  simp only [ltail, lhead, bbody, Hvah.f29] at hK ⊢
  unfold BQ at hK ⊢
  have HIn := fun W' (hW : Ext W19 W') => yIntrinsic (sm19.ext hW) hr (hT19.ext hW) hv.data hlok.1 hlok.2
  have K14 : ∀ W', Ext W19 W' → W'.cell? ⟨Y, 14, none⟩ = some (c19 14) := fun W' hW => (b19.ext hW).cell (by decide)
  refine w_ext ?_
  rintro W0 hW0
  refine' joinB2x (P := _) (Fc := fun W20 ra rb => ∃ wb, Ext W19 wb ∧ NV O wb rb (t.gas - t.intrinsic) ∧ Blk W20 Y 179 118 (updv c19 15 rb) ∧ Mod (· = Y) wb W20) (fun key => _) _
  rotate_left
  refine wp_region_held_drew (S := fun w' => Mod (fun x => x = Y) W0 w') (by kernel_rfl) (Mod.refl _ _).drew (fun hHeld => ?_)
  have HH : Hid (Mod (fun x => x = Y) W0 _) := hHeld
  clear hHeld
  refine wpAnyH_take (i := 0) (v := ?_) rfl (by kernel_rfl) (by kernel_rfl) (by kernel_rfl) (fun _ _ _ h => h) (Or.inl ⟨by rfl, ?_⟩) HH.out ?_
  rotate_left
  · intro w hSw; go_simp; try with_reducible rfl
  change wpAnyH _ _ _ _ _ _ _ (Act.put _ (some 66) _) _
  simp only [Act.put, List.setIfInBounds_toArray, List.set_cons_zero, List.set_cons_succ]
  refine wpAnyH_take (i := 1) (v := ?_) rfl (by kernel_rfl) (by kernel_rfl) (by kernel_rfl) (fun _ _ _ h => h) (Or.inl ⟨by rfl, ?_⟩) HH.out ?_
  rotate_left
  · intro w hSw; go_simp; try with_reducible rfl
  change wpAnyH _ _ _ _ _ _ _ (Act.put _ (some 67) _) _
  simp only [Act.put, List.setIfInBounds_toArray, List.set_cons_zero, List.set_cons_succ]
  refine wpAnyH_take (i := 2) (v := ?_) rfl (by kernel_rfl) (by kernel_rfl) (by kernel_rfl) (fun _ _ _ h => h) (Or.inl ⟨by rfl, ?_⟩) HH.out ?_
  rotate_left
  · intro w hSw; go_simp; try with_reducible rfl
  change wpAnyH _ _ _ _ _ _ _ (Act.put _ (some 68) _) _
  simp only [Act.put, List.setIfInBounds_toArray, List.set_cons_zero, List.set_cons_succ]
  refine wpAnyH_take (i := 3) (v := ?_) rfl (by kernel_rfl) (by kernel_rfl) (by kernel_rfl) (fun _ _ _ h => h) (Or.inl ⟨by rfl, ?_⟩) HH.out ?_
  rotate_left
  · intro w hSw; go_simp; try with_reducible rfl
  change wpAnyH _ _ _ _ _ _ _ (Act.put _ (some 69) _) _
  simp only [Act.put, List.setIfInBounds_toArray, List.set_cons_zero, List.set_cons_succ]
  refine wpAnyH_take (i := 5) rfl (by kernel_rfl) (by kernel_rfl) (by kernel_rfl) (fun _ _ _ h => h) (yieldsRowE rt35y (by rfl) rfl rfl (fun w hSw => (bT19.ext hW0).mod hSw (fun e => nTY e)) (by decide) hrow) HH.out ?_
  change wpAnyH _ _ _ _ _ _ _ (Act.put _ (some 71) _) _
  simp only [Act.put, List.setIfInBounds_toArray, List.set_cons_zero, List.set_cons_succ]
  refine wpAnyH_ready (rs := [4, 6]) (by kernel_rfl) (by simp) ?_
  refine (AllReadyH.cons rfl (fun K hK => ?_) (AllReadyH.cons rfl (fun K hK => ?_) AllReadyH.nil))
  refine step_any rfl (op_loadK rfl onet96b rfl (K14 _ (by (repeat (first | with_reducible exact Ext.refl _ | with_reducible assumption | refine Ext.trans ?_ (by with_reducible assumption) | refine Ext.alloc ?_ _ _ | refine Ext.drew ?_ | refine Ext.drewN ?_ _)))) ?_)
  refine hK.out _ _ HH.out (fun hHeld => ?_)
  clear hK K HH
  have HH : Hid (Mod (fun x => x = Y) W0 _) := hHeld
  clear hHeld
  change wpAnyH _ _ _ _ _ _ _ (Act.put _ (some 70) _) _
  simp only [Act.put, List.setIfInBounds_toArray, List.set_cons_zero, List.set_cons_succ]
  refine wpAnyH_ready (rs := [6]) (by kernel_rfl) (by simp) ?_
  refine AllReadyH.cons rfl (fun K hK => ?_) AllReadyH.nil
  go_simp
  go_at_call 56; refine (HIn _ (by (repeat (first | with_reducible exact Ext.refl _ | with_reducible assumption | refine Ext.trans ?_ (by with_reducible assumption) | refine Ext.alloc ?_ _ _ | refine Ext.drew ?_ | refine Ext.drewN ?_ _)))).mono ?_; rintro e wa ⟨ra, rfl, hra, he⟩
  refine hK.out _ _ ?_ (fun hHeld => ?_)
  · first | exact HH.out.trans hmY | exact HH.out.trans_ext he | exact HH.out
  clear hK K HH
  have HH : Hid (Mod (fun x => x = Y) W0 _) := hHeld
  clear hHeld
  refine wpAnyH_ready (rs := [7]) (by kernel_rfl) (by simp) ?_
  refine AllReadyH.cons rfl (fun K hK => ?_) AllReadyH.nil
  go_simp
  go_at_call 55; refine (nLess O _ _ _ _ _ (sm19.ext (by (repeat (first | with_reducible exact Ext.refl _ | with_reducible assumption | refine Ext.trans ?_ (by with_reducible assumption) | refine Ext.alloc ?_ _ _ | refine Ext.drew ?_ | refine Ext.drewN ?_ _)))) (hrg19.ext (by (repeat (first | with_reducible exact Ext.refl _ | with_reducible assumption | refine Ext.trans ?_ (by with_reducible assumption) | refine Ext.alloc ?_ _ _ | refine Ext.drew ?_ | refine Ext.drewN ?_ _)))) (hra.ext (by (repeat (first | with_reducible exact Ext.refl _ | with_reducible assumption | refine Ext.trans ?_ (by with_reducible assumption) | refine Ext.alloc ?_ _ _ | refine Ext.drew ?_ | refine Ext.drewN ?_ _))))).mono ?_; rintro e wb ⟨rb, rfl, hrb, he⟩
  refine hK.out _ _ ?_ (fun hHeld => ?_)
  · first | exact HH.out.trans hmY | exact HH.out.trans_ext he | exact HH.out
  clear hK K HH
  have HH : Hid (Mod (fun x => x = Y) W0 _) := hHeld
  clear hHeld
  refine wpAnyH_take (i := 8) (v := ?_) rfl (by kernel_rfl) (by kernel_rfl) (by kernel_rfl) (fun _ _ _ h => h) (Or.inl ⟨by rfl, ?_⟩) HH.out ?_
  rotate_left
  · intro w hSw; go_simp; try with_reducible rfl
  change wpAnyH _ _ _ _ _ _ _ (Act.put _ (some 74) _) _
  simp only [Act.put, List.setIfInBounds_toArray, List.set_cons_zero, List.set_cons_succ]
  refine wpAnyH_take (i := 9) (v := ?_) rfl (by kernel_rfl) (by kernel_rfl) (by kernel_rfl) (fun _ _ _ h => h) (Or.inl ⟨by rfl, ?_⟩) HH.out ?_
  rotate_left
  · intro w hSw; go_simp; try with_reducible rfl
  change wpAnyH _ _ _ _ _ _ _ (Act.put _ (some 75) _) _
  simp only [Act.put, List.setIfInBounds_toArray, List.set_cons_zero, List.set_cons_succ]
  refine wpAnyH_ready (rs := [10]) (by kernel_rfl) (by simp) ?_
  refine AllReadyH.cons rfl (fun K hK => ?_) AllReadyH.nil
  refine step_any rfl (op_store1 rfl onet96b rfl rfl (nv_onez hrb) (b19.ext (by (repeat (first | with_reducible exact Ext.refl _ | with_reducible assumption | refine Ext.trans ?_ (by with_reducible assumption) | refine Ext.alloc ?_ _ _ | refine Ext.drew ?_ | refine Ext.drewN ?_ _)))) (by decide) ?_)
  rintro W20 b20 m20
  have e20 : Ext W19 wb := by (repeat (first | with_reducible exact Ext.refl _ | with_reducible assumption | refine Ext.trans ?_ (by with_reducible assumption) | refine Ext.alloc ?_ _ _ | refine Ext.drew ?_ | refine Ext.drewN ?_ _))
  refine hK.out _ _ (HH.out.trans m20) (fun hHeld => ?_)
  clear hK K HH
  have HH : Hid (Mod (fun x => x = Y) W0 _) := hHeld
  clear hHeld
  change wpAnyH _ _ _ _ _ _ _ (Act.put _ none _) _
  simp only [Act.put, List.setIfInBounds_toArray, List.set_cons_zero, List.set_cons_succ]
  refine wpAnyH_done (by kernel_rfl) ?_ _
  exact key W20 ra rb ⟨wb, e20, hrb, b20, m20⟩
  go_simp
  go_at_call 56; refine (HIn _ (by (repeat (first | with_reducible exact Ext.refl _ | with_reducible assumption | refine Ext.trans ?_ (by with_reducible assumption) | refine Ext.alloc ?_ _ _ | refine Ext.drew ?_ | refine Ext.drewN ?_ _)))).mono ?_; rintro e wa ⟨ra, rfl, hra, he⟩
  refine hK.out _ _ ?_ (fun hHeld => ?_)
  · first | exact HH.out.trans hmY | exact HH.out.trans_ext he | exact HH.out
  clear hK K HH
  have HH : Hid (Mod (fun x => x = Y) W0 _) := hHeld
  clear hHeld
  refine wpAnyH_ready (rs := [4]) (by kernel_rfl) (by simp) ?_
  refine AllReadyH.cons rfl (fun K hK => ?_) AllReadyH.nil
  refine step_any rfl (op_loadK rfl onet96b rfl (K14 _ (by (repeat (first | with_reducible exact Ext.refl _ | with_reducible assumption | refine Ext.trans ?_ (by with_reducible assumption) | refine Ext.alloc ?_ _ _ | refine Ext.drew ?_ | refine Ext.drewN ?_ _)))) ?_)
  refine hK.out _ _ HH.out (fun hHeld => ?_)
  clear hK K HH
  have HH : Hid (Mod (fun x => x = Y) W0 _) := hHeld
  clear hHeld
  change wpAnyH _ _ _ _ _ _ _ (Act.put _ (some 70) _) _
  simp only [Act.put, List.setIfInBounds_toArray, List.set_cons_zero, List.set_cons_succ]
  refine wpAnyH_ready (rs := [7]) (by kernel_rfl) (by simp) ?_
  refine AllReadyH.cons rfl (fun K hK => ?_) AllReadyH.nil
  go_simp
  go_at_call 55; refine (nLess O _ _ _ _ _ (sm19.ext (by (repeat (first | with_reducible exact Ext.refl _ | with_reducible assumption | refine Ext.trans ?_ (by with_reducible assumption) | refine Ext.alloc ?_ _ _ | refine Ext.drew ?_ | refine Ext.drewN ?_ _)))) (hrg19.ext (by (repeat (first | with_reducible exact Ext.refl _ | with_reducible assumption | refine Ext.trans ?_ (by with_reducible assumption) | refine Ext.alloc ?_ _ _ | refine Ext.drew ?_ | refine Ext.drewN ?_ _)))) (hra.ext (by (repeat (first | with_reducible exact Ext.refl _ | with_reducible assumption | refine Ext.trans ?_ (by with_reducible assumption) | refine Ext.alloc ?_ _ _ | refine Ext.drew ?_ | refine Ext.drewN ?_ _))))).mono ?_; rintro e wb ⟨rb, rfl, hrb, he⟩
  refine hK.out _ _ ?_ (fun hHeld => ?_)
  · first | exact HH.out.trans hmY | exact HH.out.trans_ext he | exact HH.out
  clear hK K HH
  have HH : Hid (Mod (fun x => x = Y) W0 _) := hHeld
  clear hHeld
  refine wpAnyH_take (i := 8) (v := ?_) rfl (by kernel_rfl) (by kernel_rfl) (by kernel_rfl) (fun _ _ _ h => h) (Or.inl ⟨by rfl, ?_⟩) HH.out ?_
  rotate_left
  · intro w hSw; go_simp; try with_reducible rfl
  change wpAnyH _ _ _ _ _ _ _ (Act.put _ (some 74) _) _
  simp only [Act.put, List.setIfInBounds_toArray, List.set_cons_zero, List.set_cons_succ]
  refine wpAnyH_take (i := 9) (v := ?_) rfl (by kernel_rfl) (by kernel_rfl) (by kernel_rfl) (fun _ _ _ h => h) (Or.inl ⟨by rfl, ?_⟩) HH.out ?_
  rotate_left
  · intro w hSw; go_simp; try with_reducible rfl
  change wpAnyH _ _ _ _ _ _ _ (Act.put _ (some 75) _) _
  simp only [Act.put, List.setIfInBounds_toArray, List.set_cons_zero, List.set_cons_succ]
  refine wpAnyH_ready (rs := [10]) (by kernel_rfl) (by simp) ?_
  refine AllReadyH.cons rfl (fun K hK => ?_) AllReadyH.nil
  refine step_any rfl (op_store1 rfl onet96b rfl rfl (nv_onez hrb) (b19.ext (by (repeat (first | with_reducible exact Ext.refl _ | with_reducible assumption | refine Ext.trans ?_ (by with_reducible assumption) | refine Ext.alloc ?_ _ _ | refine Ext.drew ?_ | refine Ext.drewN ?_ _)))) (by decide) ?_)
  rintro W20 b20 m20
  have e20 : Ext W19 wb := by (repeat (first | with_reducible exact Ext.refl _ | with_reducible assumption | refine Ext.trans ?_ (by with_reducible assumption) | refine Ext.alloc ?_ _ _ | refine Ext.drew ?_ | refine Ext.drewN ?_ _))
  refine hK.out _ _ (HH.out.trans m20) (fun hHeld => ?_)
  clear hK K HH
  have HH : Hid (Mod (fun x => x = Y) W0 _) := hHeld
  clear hHeld
  change wpAnyH _ _ _ _ _ _ _ (Act.put _ none _) _
  simp only [Act.put, List.setIfInBounds_toArray, List.set_cons_zero, List.set_cons_succ]
  refine wpAnyH_done (by kernel_rfl) ?_ _
  exact key W20 ra rb ⟨wb, e20, hrb, b20, m20⟩
  rintro W20 ra rb ⟨wb, e20, hrb, b20, m20⟩
  obtain ⟨c20, b20', k20, s20⟩ : ∃ f, Blk W20 Y 179 118 f ∧ (∀ j, j ≠ 15 → f j = c19 j) ∧ Hid (f 15 = rb) := ⟨_, b20, fun j hj => updv_ne _ _ hj, updv_same _ _ _⟩
  replace b20 := b20'
  clear b20'
  have m20' : Mod (· = Y) W19 W20 := (e20.mod _).trans m20
  have hrb20 : NV O W20 (c20 15) (t.gas - t.intrinsic) := by rw [s20.out]; exact hrb.keep m20 hsY
  have bT20 := bT19.mod m20' nTY
  have bA20 := bA19.mod m20' nAY
  have bx20 := bx19.mod m20' n8Y
  have n120 := n119.keep m20' hsY
  have n220 := n219.keep m20' hsY
  have hT20 : TxC O W20 (cf r) t := hT19.keepb m20' hOY
  have sm20 : Small O W20 := fun b hb => Nat.lt_of_lt_of_le (sm19 b hb) m20'.size
  have env20 : EnvC O W20 c20 59 st.env := env19.same (fun j hj _ => k20 j (by omega)) (fun _ _ q => q.keep m20' hsY)
  have HPr := fun W' (hW : Ext W20 W') => yPrice (sm20.ext hW) (b20.ext hW) (env20.ext hW) hr (hT20.ext hW)
  clear hrb m20 e20 n119 n219 bT19 bA19 bx19 hT19 sm19 env19 b19 HIn K14 hrg19 hW0
  go_upto_region 15 with (fail)
  go_upto_region 16 with (first | ((with_reducible (refine Veil.out ?_; apply wl_loadRow rt35y)); (case hx => rfl); (case hB => exact bT20); (case hi => decide); rw [hrow]) | (go_at_call 57; refine (HPr _ (by (repeat (first | with_reducible exact Ext.refl _ | with_reducible assumption | refine Ext.trans ?_ (by with_reducible assumption) | refine Ext.alloc ?_ _ _ | refine Ext.drew ?_ | refine Ext.drewN ?_ _)))).mono ?_; rintro e w21 ⟨rp, rfl, hrp, he21⟩) | ((with_reducible (refine Veil.out ?_; apply wl_storeC onet96b)); (case hx => rfl); (case hy => rfl); (case h1 => exact nv_onez hrp); (case hB => exact b20.ext he21); (case hi => decide); rintro W22 b22 m22))
  obtain ⟨c22, b22', k22, s22⟩ : ∃ f, Blk W22 Y 179 118 f ∧ (∀ j, j ≠ 17 → f j = c20 j) ∧ Hid (f 17 = rp) := ⟨_, b22, fun j hj => updv_ne _ _ hj, updv_same _ _ _⟩
  replace b22 := b22'
  clear b22'
  go_upto_region 17 with (first | ((with_reducible (refine Veil.out ?_; apply wl_loadA)); (case hx => rfl); (case hB => exact (bT20.ext he21).mod m22 nTY); (case hA => exact hfr); (case hs => exact hfl); (case ho => decide)) | ((with_reducible (refine Veil.out ?_; apply wl_storeA)); (case hx => rfl); (case hy => rfl); (case hv => exact hfl); (case hB => exact b22); (case hi => decide); rintro W23 c23 b23 a23 k23 m23))
  have m23' : Mod (· = Y) W20 W23 := ((he21.mod _).trans m22).trans m23
  have mrp : Mod (· = Y) w21 W23 := m22.trans m23
  have bT23 := bT20.mod m23' nTY
  have bA23 := bA20.mod m23' nAY
  have bx23 := bx20.mod m23' n8Y
  have n123 := n120.keep m23' hsY
  have n223 := n220.keep m23' hsY
  have hT23 : TxC O W23 (cf r) t := hT20.keepb m23' hOY
  have hpp : st.env.baseFee + min t.tipF (t.most - st.env.baseFee) = st.priceOf t := rfl
  rw [hpp] at hrp
  have p17 : NV O W23 (c23 17) (st.priceOf t) := by rw [k23 17 (by decide), s22.out]; exact hrp.keep mrp hsY
  have p15 : NV O W23 (c23 15) (t.gas - t.intrinsic) := by rw [k23 15 (by decide), k22 15 (by decide)]; exact hrb20.keep m23' hsY
  have mA : Mod (· = Y) W19 W23 := m20'.trans m23'
  have hZ0 : ∀ W', Mod (· = Y) W23 W' → Blk W' Y 179 118 (updv c23 8 (.slice none 0 0)) → YZ O (fun _ => False) W' Y BT 0 (updv c23 8 (.slice none 0 0)) c19 W [] ({ st with orig := lookT [], frames := [], ret := [], applied := ap1, limit := t.gas, txGas := t.gas - t.intrinsic, price := st.priceOf t, origin := t.from_, made := md } : ASt) tot [] := fun W' m hB => by
    refine hZ1 W' _ (mA.trans m) hB ?_ ?_ ?_ (updv_same _ _ _) (fun j q1 q2 q3 q4 => ?_)
    · rw [updv_ne _ _ (by decide)]; exact p15.keep m hsY
    · rw [updv_ne _ _ (by decide)]; exact p17.keep m hsY
    · exact a23.same hfl (fun j hj => updv_ne _ _ (by omega))
    · rw [updv_ne _ _ q1, k23 j (by omega), k22 j q3, k20 j q2]
  have hg1 := hv.gas
  have hg2 : t.gas - t.intrinsic ≤ 1048576 := by omega
  clear m22 m23 m20' m23' mrp bT20 bA20 bx20 n120 n220 hT20 sm20 env20 b20 b22 HPr he21 hrp hrb20 a23 k23 k22 k20 s20 s22 hZ1 p15 p17
  go_upto_region 17 with (fail)
  refine bgStart (T := T) (og := st.now.slot) _ _ _ _ _ _ _ _ _ _ _ _ _ _ _ _ _ _ _ _ _ _ _ _ _ _ _ _ _ _ _ _ _ _ _ _ _ _ _ _ _ _ _ _ _ _ _ _ _ _ _ _ _ _ _ _ _ _ _ _ _ _ _ _ _ _ _ _ _ _ _ _ _ _ _ _ _ _ _ _ _ _ _ _ _ _ _ _ _ _ _ _ _ _ _ _ _ _ _ _ _ _ _ _ _ _ _ _ _ _ _ _ _ _ _ _ _ _ _ _ _ _ _ _ _ _ _ _ _ _ _ _ _ _ _ _ _ _ _ _ _ _ _ _ _ _ _ _ _ _ _ _ _ _ _ _ _ _ _ _ _ _ _ _ _ _ _ _ _ _ _ _ _ _ _ _ _ _ _ _ _ _ _ _ _ _ _ _ _ _ _ _ _ _ _ _ _ _ _ _ _ _ _ _ _ _ _ _ _ _ _ _ _ _ _ _ _ _ _ _ _ _ _ _ _ _ _ _ _ _ _ _ _ _ _ _ _ _ _ _ _ _ _ _ _ _ _ _ _ _ _ _ _ _ _ _ _ _ _ _ _ _ _ _ _ _ HLG b23 hZ0 bT23 hT23 nTY bA23 n123 n223 nAY bx23 ax htgl n8Y hOY hsz hTl hnn hbP hg1 hg2 hv.init hv.data hlok.1 hlok.2 hw1 hw2 ?_ (by assumption)
  intro w' W' L' hfin hs1 hs2
  obtain ⟨O', F', n', c', d', q1, q2, q3⟩ := hfin
  exact hQ w' W' L' ⟨O', F', n', c', d', q1, fun b hb => q2 b (Nat.lt_of_lt_of_le hb mA.size), (mA.sub (fun b hb => Or.inl hb)).trans q3⟩ hs1 hs2
end
end Go.Proofs.YgvahwGreat
