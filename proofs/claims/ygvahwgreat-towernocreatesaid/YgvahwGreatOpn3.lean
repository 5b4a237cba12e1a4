import Derived.Test.YgvahwGreatOpn2
import Derived.Test.YgvahwGreatOhA
import Derived.Test.YgvahwGreatOhC
import Derived.Test.YgvahwGreatYpR
import Derived.Test.YgvahwGreatMu
import Derived.Test.YgvahwGreatNx1
import Derived.Test.YgvahwGreatEa
import Derived.Test.YgvahwGreatIb
import Derived.Test.YgvahwGreatOc
import Derived.Test.YgvahwGreatIve
namespace Go.Proofs.YgvahwGreat
open Go.RowKit
set_option linter.unusedSimpArgs false
theorem oneO26 : OneT 24 := oneT_of (by kernel_rfl) (by kernel_rfl)
theorem oneO5 : OneT 5 := oneT_of (by kernel_rfl) (by kernel_rfl)
theorem oneO4 : OneT 4 := oneT_of (by kernel_rfl) (by kernel_rfl)
theorem oneO32 : OneT 23 := oneT_of (by kernel_rfl) (by kernel_rfl)
theorem oneO60 : OneT 73 := oneT_of (by kernel_rfl) (by kernel_rfl)
theorem oneO21 : OneT 21 := oneT_of (by kernel_rfl) (by kernel_rfl)
section
variable {own : Nat → Nat} {W : World} {g BT B8 tg : Nat} {ns : Int} {c c8 : Nat → Value} {V : EV} {st : ASt} {stale : List Nat} {r : Array Value} {t : ATx}
set_option maxRecDepth 100000 in
set_option maxHeartbeats 6400000 in
theorem opTail {K : Act → World → Prop} {R : Ending → World → Prop} (u1 u2 u4 u5 u6 u7 u8 u9 u12 u13 u14 u15 u16 u17 u18 u19 u20 u21 u22 u23 u24 u25 u26 u27 u28 u29 u30 u31 u32 u33 u34 u35 u36 u37 u38 u39 u40 u41 u42 u43 u44 u45 u46 u47 u48 u49 u50 u51 u52 u53 u54 u55 u56 u57 u58 u59 u60 u61 u62 u63 u64 u65 u66 u67 u68 u69 u70 u71 u72 u73 u74 u75 u76 u77 u78 u79 u80 u81 u82 u83 u84 u85 u86 u87 u88 u89 u90 u91 u92 u93 u94 u95 u96 u97 u98 u99 u100 u101 u102 u103 u104 u105 u106 u107 u108 u109 u110 u111 u112 u113 u114 u115 u116 u117 u118 u119 u120 u121 u122 u123 u124 u125 u126 u127 u128 u129 u130 u131 u132 u133 u134 u135 u136 u137 u138 u139 u140 u141 u142 u143 u144 u145 u146 u147 u148 u149 u150 u151 u152 u153 u154 u155 u156 u157 u158 u159 u160 u161 u162 u163 u164 u165 u166 u167 u168 u169 u170 u171 u172 u173 u174 u175 u176 u177 u178 u179 u180 u181 u182 u183 u184 u185 u186 u187 u188 u189 u190 u191 u192 u193 u194 u195 u196 u197 u198 u199 u200 u201 u202 u203 u204 u205 u206 u207 u208 u209 u210 u211 u212 u213 u214 u215 u216 u217 u218 u219 u220 u221 u222 u223 u224 u225 u226 u227 u228 u229 u230 u231 u232 : Value) (h : MRep own W g c V st [] stale) (hf : st.frames = []) (ktg : c 2408 = .int .u64 (st.txGas : Nat)) (bT : Blk W BT 174 40 (cf r)) (hT : TxC (Mu own) W (cf r) t) (b8 : Blk W B8 20 31 c8) (a8 : AAt c8 0 tg) (htg : tg < 2 ^ 160) (hr : Room V 5) (hdl : t.data.length ≤ 140737488355328)
    (hok0 : t.create = false → FOK (opF0 st.now t tg st.txGas)) (hok1 : t.create = true → FOK (opF1 st.now t tg st.txGas))
    (hle0 : t.create = false → t.value ≤ st.now.bal t.from_) (hov0 : t.create = false → t.value ≠ 0 → (st.now.setBal t.from_ (st.now.bal t.from_ - t.value)).bal tg + t.value < P256)
    (hle1 : t.create = true → t.value ≤ ((st.now.setNonce tg 1).markMade tg).bal t.from_) (hov1 : t.create = true → t.value ≠ 0 → (((st.now.setNonce tg 1).markMade tg).setBal t.from_ (((st.now.setNonce tg 1).markMade tg).bal t.from_ - t.value)).bal tg + t.value < P256)
    (hQ : ∀ w', (∃ own' c' V' sn', MRep own' w' g c' V' (opEnd st t tg) sn' stale ∧ MStep own W own' w' ∧ V.Grew V' 5 5 0 0 0 1) → R (.returned (.int .u8 (0 : Nat))) w')
    (hK : ∀ x y, Code.wp Hvah.prog (otail 26 (obody Hvah.f45)) (OQ R) x y → K x y) : Code.wp Hvah.prog (ohead (otail 25 (obody Hvah.f45))) (Exit.then K (OQ R)) { tmps := #[.pointer (some ⟨g, 0, none⟩), u1, u2, .pointer (some ⟨BT, 0, none⟩), u4, u5, u6, u7, u8, u9, .int .i32 ns, .pointer (some ⟨B8, 0, none⟩), u12, u13, u14, u15, u16, u17, u18, u19, u20, u21, u22, u23, u24, u25, u26, u27, u28, u29, u30, u31, u32, u33, u34, u35, u36, u37, u38, u39, u40, u41, u42, u43, u44, u45, u46, u47, u48, u49, u50, u51, u52, u53, u54, u55, u56, u57, u58, u59, u60, u61, u62, u63, u64, u65, u66, u67, u68, u69, u70, u71, u72, u73, u74, u75, u76, u77, u78, u79, u80, u81, u82, u83, u84, u85, u86, u87, u88, u89, u90, u91, u92, u93, u94, u95, u96, u97, u98, u99, u100, u101, u102, u103, u104, u105, u106, u107, u108, u109, u110, u111, u112, u113, u114, u115, u116, u117, u118, u119, u120, u121, u122, u123, u124, u125, u126, u127, u128, u129, u130, u131, u132, u133, u134, u135, u136, u137, u138, u139, u140, u141, u142, u143, u144, u145, u146, u147, u148, u149, u150, u151, u152, u153, u154, u155, u156, u157, u158, u159, u160, u161, u162, u163, u164, u165, u166, u167, u168, u169, u170, u171, u172, u173, u174, u175, u176, u177, u178, u179, u180, u181, u182, u183, u184, u185, u186, u187, u188, u189, u190, u191, u192, u193, u194, u195, u196, u197, u198, u199, u200, u201, u202, u203, u204, u205, u206, u207, u208, u209, u210, u211, u212, u213, u214, u215, u216, u217, u218, u219, u220, u221, u222, u223, u224, u225, u226, u227, u228, u229, u230, u231, u232], defers := [] } W := by
  have hfl := hT.fLt
  have hcc : cf r 40 = .bool t.create := hT.create
  have hda := hT.data
  have hfrm := hT.from_
  have hval := hT.value
  have hvl := hT.vLt
  have hTl := bT.lt
  have h8l := b8.lt
  have hgl := h.v.blk.lt
  obtain ⟨r72, hq1, hq2, hq3⟩ := b72o (gs := st.txGas) (v := t.value) htg hfl
  have hones : Ones r72 := ones_of (fun i hi => (hq2 (fun _ => False) W (cf r72) (fun _ _ => rfl)).ones i (by rw [hq1] at hi; exact hi))
  have hEB := fun W' (hW : Ext W W') => (h.ext hW).v.blk
  clear hT
  simp only [otail, ohead, obody, Hvah.f45] at hK ⊢
  unfold OQ at hK ⊢
  refine w_ext ?_
  rintro W0 hW0
  refine' joinQ (P := _) (Fc := fun B12 W14 => Ext W0 W14 ∧ Blk W14 B12 65 85 (layv (cf z72a) 0 r72) ∧ W0.heap.size ≤ B12) (fun key => _) _
  rotate_left
  refine wp_region_held_drew (S := fun w' => Ext W0 w') (by kernel_rfl) (Ext.refl _).drew (fun hHeld => ?_)
  have HH : Hid (Ext W0 _) := hHeld
  clear hHeld
  refine wpAnyH_take (i := 0) (v := ?_) rfl (by kernel_rfl) (by kernel_rfl) (by kernel_rfl) (fun _ _ _ h => h) (Or.inl ⟨by rfl, ?_⟩) HH.out ?_
  rotate_left
  · intro w hSw; go_simp; try with_reducible rfl
  change wpAnyH _ _ _ _ _ _ _ (Act.put _ (some 171) _) _
  simp only [Act.put, List.setIfInBounds_toArray, List.set_cons_zero, List.set_cons_succ]
  refine wpAnyH_take (i := 1) (v := ?_) rfl (by kernel_rfl) (by kernel_rfl) (by kernel_rfl) (fun _ _ _ h => h) (Or.inl ⟨by rfl, ?_⟩) HH.out ?_
  rotate_left
  · intro w hSw; go_simp; try with_reducible rfl
  change wpAnyH _ _ _ _ _ _ _ (Act.put _ (some 172) _) _
  simp only [Act.put, List.setIfInBounds_toArray, List.set_cons_zero, List.set_cons_succ]
  refine wpAnyH_take (i := 2) (v := ?_) rfl (by kernel_rfl) (by kernel_rfl) (by kernel_rfl) (fun _ _ _ h => h) (Or.inl ⟨by rfl, ?_⟩) HH.out ?_
  rotate_left
  · intro w hSw; go_simp; try with_reducible rfl
  change wpAnyH _ _ _ _ _ _ _ (Act.put _ (some 173) _) _
  simp only [Act.put, List.setIfInBounds_toArray, List.set_cons_zero, List.set_cons_succ]
  refine wpAnyH_take (i := 3) rfl (by kernel_rfl) (by kernel_rfl) (by kernel_rfl) (fun _ _ _ h => h) (yieldsIf_load1 (by rfl) _ _ rfl _ _ rfl oneO26 _ (fun w hSw => by rw [(hEB _ (hW0.trans hSw)).cell (by decide), ktg])) HH.out ?_
  change wpAnyH _ _ _ _ _ _ _ (Act.put _ (some 174) _) _
  simp only [Act.put, List.setIfInBounds_toArray, List.set_cons_zero, List.set_cons_succ]
  refine wpAnyH_take (i := 4) rfl (by kernel_rfl) (by kernel_rfl) (by kernel_rfl) (fun _ _ _ h => h) (yields_A (by rfl) rfl rfl (fun w hSw => b8.ext (hW0.trans hSw)) a8 htg (by decide)) HH.out ?_
  change wpAnyH _ _ _ _ _ _ _ (Act.put _ (some 175) _) _
  simp only [Act.put, List.setIfInBounds_toArray, List.set_cons_zero, List.set_cons_succ]
  refine wpAnyH_take (i := 5) (v := ?_) rfl (by kernel_rfl) (by kernel_rfl) (by kernel_rfl) (fun _ _ _ h => h) (Or.inl ⟨by rfl, ?_⟩) HH.out ?_
  rotate_left
  · intro w hSw; go_simp; try with_reducible rfl
  change wpAnyH _ _ _ _ _ _ _ (Act.put _ (some 176) _) _
  simp only [Act.put, List.setIfInBounds_toArray, List.set_cons_zero, List.set_cons_succ]
  refine wpAnyH_take (i := 6) rfl (by kernel_rfl) (by kernel_rfl) (by kernel_rfl) (fun _ _ _ h => h) (yields_A (by rfl) rfl rfl (fun w hSw => bT.ext (hW0.trans hSw)) hfrm hfl (by decide)) HH.out ?_
  change wpAnyH _ _ _ _ _ _ _ (Act.put _ (some 177) _) _
  simp only [Act.put, List.setIfInBounds_toArray, List.set_cons_zero, List.set_cons_succ]
  refine wpAnyH_take (i := 7) (v := ?_) rfl (by kernel_rfl) (by kernel_rfl) (by kernel_rfl) (fun _ _ _ h => h) (Or.inl ⟨by rfl, ?_⟩) HH.out ?_
  rotate_left
  · intro w hSw; go_simp; try with_reducible rfl
  change wpAnyH _ _ _ _ _ _ _ (Act.put _ (some 178) _) _
  simp only [Act.put, List.setIfInBounds_toArray, List.set_cons_zero, List.set_cons_succ]
  refine wpAnyH_take (i := 8) rfl (by kernel_rfl) (by kernel_rfl) (by kernel_rfl) (fun _ _ _ h => h) (yields_B (by rfl) rfl rfl (fun w hSw => bT.ext (hW0.trans hSw)) hval hvl (by decide)) HH.out ?_
  change wpAnyH _ _ _ _ _ _ _ (Act.put _ (some 179) _) _
  simp only [Act.put, List.setIfInBounds_toArray, List.set_cons_zero, List.set_cons_succ]
  refine wpAnyH_ready (rs := [9, 11]) (by kernel_rfl) (by simp) ?_
  refine (AllReadyH.cons rfl (fun K hK => ?_) (AllReadyH.cons rfl (fun K hK => ?_) AllReadyH.nil))
  go_simp
  go_at_call 92; refine (uFromB hvl _).mono ?_; rintro e w9 ⟨rfl, he⟩
  refine hK.out _ _ ?_ (fun hHeld => ?_)
  · first | exact HH.out.trans hmY | exact HH.out.trans he | exact HH.out
  clear hK K HH
  have HH : Hid (Ext W0 _) := hHeld
  clear hHeld
  refine wpAnyH_take (i := 10) rfl (by kernel_rfl) (by kernel_rfl) (by kernel_rfl) (fun _ _ _ h => h) (yields_build (ps := [(0, .int .u8 0), (7, .int .u64 (st.txGas : Nat)), (9, .agg (av tg)), (10, .agg (av t.from_)), (11, wv t.value)]) (by rfl) rfl hq3 (by simp [Act.eval])) HH.out ?_
  change wpAnyH _ _ _ _ _ _ _ (Act.put _ (some 181) _) _
  simp only [Act.put, List.setIfInBounds_toArray, List.set_cons_zero, List.set_cons_succ]
  refine wpAnyH_ready (rs := [11]) (by kernel_rfl) (by simp) ?_
  refine AllReadyH.cons rfl (fun K hK => ?_) AllReadyH.nil
  refine step_any rfl (op_alloc rfl z72 z72s ?_)
  rintro B12 W13 e13 b13 g13
  refine hK.out _ _ ?_ (fun hHeld => ?_)
  · exact HH.out.trans e13
  clear hK K HH
  have HH : Hid (Ext W0 _) := hHeld
  clear hHeld
  change wpAnyH _ _ _ _ _ _ _ (Act.put _ (some 12) _) _
  simp only [Act.put, List.setIfInBounds_toArray, List.set_cons_zero, List.set_cons_succ]
  refine wpAnyH_ready (rs := [12]) (by kernel_rfl) (by simp) ?_
  refine AllReadyH.cons rfl (fun K hK => ?_) AllReadyH.nil
  refine step_any rfl (op_storeRow rfl rt72 rfl rfl hq1 hones (b13.ext (by (repeat (first | with_reducible exact Ext.refl _ | with_reducible assumption | refine Ext.trans ?_ (by with_reducible assumption) | refine Ext.alloc ?_ _ _ | refine Ext.drew ?_ | refine Ext.drewN ?_ _)))) (by decide) ?_)
  rintro W14 b14 m14
  refine hK.out _ _ ?_ (fun hHeld => ?_)
  · exact Ext.trans_mod HH.out m14 (fun q hq => by have hq2 : q = B12 := hq; rw [hq2]; exact Nat.le_trans (Ext.size (by (repeat (first | with_reducible exact Ext.refl _ | with_reducible assumption | refine Ext.trans ?_ (by with_reducible assumption) | refine Ext.alloc ?_ _ _ | refine Ext.drew ?_ | refine Ext.drewN ?_ _)))) g13)
  clear hK K HH
  have HH : Hid (Ext W0 _) := hHeld
  clear hHeld
  change wpAnyH _ _ _ _ _ _ _ (Act.put _ none _) _
  simp only [Act.put, List.setIfInBounds_toArray, List.set_cons_zero, List.set_cons_succ]
  refine wpAnyH_done (by kernel_rfl) ?_ _
  exact key B12 W14 ⟨HH.out, b14, Nat.le_trans (Ext.size (by (repeat (first | with_reducible exact Ext.refl _ | with_reducible assumption | refine Ext.trans ?_ (by with_reducible assumption) | refine Ext.alloc ?_ _ _ | refine Ext.drew ?_ | refine Ext.drewN ?_ _)))) g13⟩
  refine step_any rfl (op_alloc rfl z72 z72s ?_)
  rintro B12 W13 e13 b13 g13
  refine hK.out _ _ ?_ (fun hHeld => ?_)
  · exact HH.out.trans e13
  clear hK K HH
  have HH : Hid (Ext W0 _) := hHeld
  clear hHeld
  change wpAnyH _ _ _ _ _ _ _ (Act.put _ (some 12) _) _
  simp only [Act.put, List.setIfInBounds_toArray, List.set_cons_zero, List.set_cons_succ]
  refine wpAnyH_ready (rs := [9]) (by kernel_rfl) (by simp) ?_
  refine AllReadyH.cons rfl (fun K hK => ?_) AllReadyH.nil
  go_simp
  go_at_call 92; refine (uFromB hvl _).mono ?_; rintro e w9 ⟨rfl, he⟩
  refine hK.out _ _ ?_ (fun hHeld => ?_)
  · first | exact HH.out.trans hmY | exact HH.out.trans he | exact HH.out
  clear hK K HH
  have HH : Hid (Ext W0 _) := hHeld
  clear hHeld
  refine wpAnyH_take (i := 10) rfl (by kernel_rfl) (by kernel_rfl) (by kernel_rfl) (fun _ _ _ h => h) (yields_build (ps := [(0, .int .u8 0), (7, .int .u64 (st.txGas : Nat)), (9, .agg (av tg)), (10, .agg (av t.from_)), (11, wv t.value)]) (by rfl) rfl hq3 (by simp [Act.eval])) HH.out ?_
  change wpAnyH _ _ _ _ _ _ _ (Act.put _ (some 181) _) _
  simp only [Act.put, List.setIfInBounds_toArray, List.set_cons_zero, List.set_cons_succ]
  refine wpAnyH_ready (rs := [12]) (by kernel_rfl) (by simp) ?_
  refine AllReadyH.cons rfl (fun K hK => ?_) AllReadyH.nil
  refine step_any rfl (op_storeRow rfl rt72 rfl rfl hq1 hones (b13.ext (by (repeat (first | with_reducible exact Ext.refl _ | with_reducible assumption | refine Ext.trans ?_ (by with_reducible assumption) | refine Ext.alloc ?_ _ _ | refine Ext.drew ?_ | refine Ext.drewN ?_ _)))) (by decide) ?_)
  rintro W14 b14 m14
  refine hK.out _ _ ?_ (fun hHeld => ?_)
  · exact Ext.trans_mod HH.out m14 (fun q hq => by have hq2 : q = B12 := hq; rw [hq2]; exact Nat.le_trans (Ext.size (by (repeat (first | with_reducible exact Ext.refl _ | with_reducible assumption | refine Ext.trans ?_ (by with_reducible assumption) | refine Ext.alloc ?_ _ _ | refine Ext.drew ?_ | refine Ext.drewN ?_ _)))) g13)
  clear hK K HH
  have HH : Hid (Ext W0 _) := hHeld
  clear hHeld
  change wpAnyH _ _ _ _ _ _ _ (Act.put _ none _) _
  simp only [Act.put, List.setIfInBounds_toArray, List.set_cons_zero, List.set_cons_succ]
  refine wpAnyH_done (by kernel_rfl) ?_ _
  exact key B12 W14 ⟨HH.out, b14, Nat.le_trans (Ext.size (by (repeat (first | with_reducible exact Ext.refl _ | with_reducible assumption | refine Ext.trans ?_ (by with_reducible assumption) | refine Ext.alloc ?_ _ _ | refine Ext.drew ?_ | refine Ext.drewN ?_ _)))) g13⟩
  rintro B12 W14 ⟨hEe, b14, gB0⟩
  obtain ⟨d1, hd1'⟩ : ∃ z, Hid (layv (cf z72a) 0 r72 = z) := ⟨_, rfl⟩
  rw [hd1'.out] at b14
  have hE14 : Ext W W14 := hW0.trans hEe
  have gB : W.heap.size ≤ B12 := Nat.le_trans hW0.size gB0
  have hbuf := h.bufOld gB
  obtain ⟨own7, o7B, o7k, o7n, h7⟩ := h.reserve hE14 gB b14.lt
  have s7 : MStep own W own7 W14 := ⟨o7k, hE14.mod _⟩
  have hda7 : NLx (Mu own7) W14 (cf r 107) t.data := (hda.reoS (fun b hb q => by
    have q2 : own7 b ≠ 0 := q
    rw [o7k b hb] at q2
    exact q2)).ext hE14
  have C14 : ChC (Mu own7) W14 d1 0 0 st.txGas tg t.from_ t.value false [] [] := hq2 _ _ _ (fun i hi => by
    rw [← hd1'.out]
    have := layv_in (cf z72a) 0 r72 (j := i) (by rw [hq1]; exact hi)
    rw [Nat.zero_add] at this
    exact this)
  have bT14 := bT.ext hE14
  have b814 := b8.ext hE14
  have hneg : ∀ b, ¬ Mu own7 b → ¬ b = B12 := fun b hb q => hb (by rw [q]; show own7 B12 ≠ 0; rw [o7B]; decide)
  have nTB : BT ≠ B12 := fun q => by omega
  have n8B : B8 ≠ B12 := fun q => by omega
  have ngB : g ≠ B12 := fun q => by omega
  obtain ⟨cr, hcr⟩ : ∃ x, Hid (t.create = x) := ⟨_, rfl⟩
  rw [hcr.out] at hcc
  clear hEe gB0 hEB hW0 h bT b8 hq1 hq2 hq3 hones hd1' hda hE14 hfrm hval
  go_upto_region 30 with (fail)
  cases cr with
  | false =>
    have hend : Hid (opEnd st t tg = ({ st with phase := 1 } : ASt).enter (opF0 st.now t tg st.txGas)) := by
      show _ = _
      unfold opEnd; rw [hcr.out]; rfl
    have hokE := hok0 hcr.out
    have hleE := hle0 hcr.out
    have hovE := hov0 hcr.out
    clear hok1 hok0 hle0 hle1 hov0 hov1
    go_upto_region 31 with ((with_reducible (refine Veil.out ?_; apply wl_loadC oneO4)); (case hw => rfl); (case hx => rfl); (case hc => exact (bT14.cell (i := 40) (by decide)).trans (congrArg some hcc)))
    go_upto_region 32 with (first | ((with_reducible (refine Veil.out ?_; apply wl_loadA)); (case hx => rfl); (case hB => exact b814); (case hA => exact a8); (case hs => exact htg); (case ho => decide)) | (go_at_call 111; refine (mNativeAt tg _ htg).mono ?_; rintro e w9 ⟨rfl, he9⟩) | ((with_reducible (refine Veil.out ?_; apply wl_storeC oneO5)); (case hx => rfl); (case hy => rfl); (case h1 => rfl); (case hB => exact b14.ext he9); (case hi => decide); rintro W11 b11 m11))
    have M11 : Mod (fun x => x = B12) W14 W11 := (he9.mod _).trans m11
    have h11 := h7.apart o7B M11 hbuf
    have bT11 := bT14.mod M11 nTB
    have b811 := b814.mod M11 n8B
    have C11 := (C14.nl (O' := Mu own7) (w' := W11) (fun v l q => q.keep M11 hneg)).setPre (preA tg)
    have hda11 := hda7.keepS M11 hneg
    obtain ⟨d11, b11', C11', k11⟩ : ∃ f, Blk W11 B12 65 85 f ∧ ChC (Mu own7) W11 f 0 (preA tg) st.txGas tg t.from_ t.value false [] [] ∧ f 2 = .int .u8 (preA tg : Nat) := ⟨_, b11, C11, updv_same _ _ _⟩
    clear b11 C11
    have b11 := b11'
    have C11 := C11'
    clear b11' C11' b14 C14 h7 bT14 b814 hda7 m11 he9
    obtain ⟨pa, hpa⟩ : ∃ x, Hid (preA tg = x) := ⟨_, rfl⟩
    rw [hpa.out] at k11
    have hptr := h11.m.ptr
    have ecd : (V.acct tg).code = st.now.code tg := by rw [← h11.abs]; rfl
    have HCd := fun W' (hW : Ext W11 W') => vCode (h11.ext hW).v htg
    rw [ecd] at HCd
    go_upto_if 190 with ((with_reducible (refine Veil.out ?_; apply wl_loadC oneO5)); (case hw => rfl); (case hx => rfl); (case hc => exact (b11.cell (i := 2) (by decide)).trans (congrArg some k11)))
    go_cut [] (fun wx => ∃ d, Blk wx B12 65 85 d ∧ ChC (Mu own7) wx d 0 (preA tg) st.txGas tg t.from_ t.value false (if preA tg = 0 then st.now.code tg else []) [] ∧ Mod (fun x => x = B12) W11 wx)
    case first =>
      by_cases hp : pa = 0
      · have zp : ((pa : Int) == 0) = true := by simp [hp]
        have zpd : decide ((pa : Int) = 0) = true := by simp [hp]
        replace hp := (show Hid _ from hp)
        go_upto_region 33 with (fail)
        refine w_ext ?_
        rintro W0 hW0
        refine wp_region_held_drew (S := fun w' => Mod (fun x => x = B12) W0 w') (by kernel_rfl) (Mod.refl _ _).drew (fun hHeld => ?_)
        have HH : Hid (Mod (fun x => x = B12) W0 _) := hHeld
        clear hHeld
        refine wpAnyH_take (i := 0) (v := ?_) rfl (by kernel_rfl) (by kernel_rfl) (by kernel_rfl) (fun _ _ _ h => h) (Or.inl ⟨by rfl, ?_⟩) HH.out ?_
        rotate_left
        · intro w hSw; go_simp; try with_reducible rfl
        change wpAnyH _ _ _ _ _ _ _ (Act.put _ (some 191) _) _
        simp only [Act.put, List.setIfInBounds_toArray, List.set_cons_zero, List.set_cons_succ]
        refine wpAnyH_take (i := 1) (v := ?_) rfl (by kernel_rfl) (by kernel_rfl) (by kernel_rfl) (fun _ _ _ h => h) (Or.inl ⟨by rfl, ?_⟩) HH.out ?_
        rotate_left
        · intro w hSw; go_simp; try with_reducible rfl
        change wpAnyH _ _ _ _ _ _ _ (Act.put _ (some 192) _) _
        simp only [Act.put, List.setIfInBounds_toArray, List.set_cons_zero, List.set_cons_succ]
        refine wpAnyH_take (i := 2) (v := ?_) rfl (by kernel_rfl) (by kernel_rfl) (by kernel_rfl) (fun _ _ _ h => h) (Or.inl ⟨by rfl, ?_⟩) HH.out ?_
        rotate_left
        · intro w hSw; go_simp; try with_reducible rfl
        change wpAnyH _ _ _ _ _ _ _ (Act.put _ (some 193) _) _
        simp only [Act.put, List.setIfInBounds_toArray, List.set_cons_zero, List.set_cons_succ]
        refine wpAnyH_take (i := 3) rfl (by kernel_rfl) (by kernel_rfl) (by kernel_rfl) (fun _ _ _ h => h) (yieldsIf_load1 (by rfl) _ _ rfl _ _ rfl oneO60 _ (fun w hSw => by rw [((h11.v.blk.ext hW0).mod hSw ngB).cell (by decide), hptr])) HH.out ?_
        change wpAnyH _ _ _ _ _ _ _ (Act.put _ (some 194) _) _
        simp only [Act.put, List.setIfInBounds_toArray, List.set_cons_zero, List.set_cons_succ]
        refine wpAnyH_take (i := 4) rfl (by kernel_rfl) (by kernel_rfl) (by kernel_rfl) (fun _ _ _ h => h) (yields_A (by rfl) rfl rfl (fun w hSw => (b811.ext hW0).mod hSw n8B) a8 htg (by decide)) HH.out ?_
        change wpAnyH _ _ _ _ _ _ _ (Act.put _ (some 195) _) _
        simp only [Act.put, List.setIfInBounds_toArray, List.set_cons_zero, List.set_cons_succ]
        refine wpAnyH_ready (rs := [5]) (by kernel_rfl) (by simp) ?_
        refine AllReadyH.cons rfl (fun K hK => ?_) AllReadyH.nil
        go_simp
        go_at_call 112; refine (HCd _ (hW0.trans (by (repeat (first | with_reducible exact Ext.refl _ | with_reducible assumption | refine Ext.trans ?_ (by with_reducible assumption) | refine Ext.alloc ?_ _ _ | refine Ext.drew ?_ | refine Ext.drewN ?_ _))))).mono ?_; rintro e w12 ⟨rc, rfl, hrc, he⟩
        have e12 : Ext W11 w12 := hW0.trans (by (repeat (first | with_reducible exact Ext.refl _ | with_reducible assumption | refine Ext.trans ?_ (by with_reducible assumption) | refine Ext.alloc ?_ _ _ | refine Ext.drew ?_ | refine Ext.drewN ?_ _)))
        refine hK.out _ _ ?_ (fun hHeld => ?_)
        · first | exact HH.out.trans hmY | exact HH.out.trans_ext he | exact HH.out
        clear hK K HH
        have HH : Hid (Mod (fun x => x = B12) W0 _) := hHeld
        clear hHeld
        refine wpAnyH_take (i := 6) (v := ?_) rfl (by kernel_rfl) (by kernel_rfl) (by kernel_rfl) (fun _ _ _ h => h) (Or.inl ⟨by rfl, ?_⟩) HH.out ?_
        rotate_left
        · intro w hSw; go_simp; try with_reducible rfl
        change wpAnyH _ _ _ _ _ _ _ (Act.put _ (some 197) _) _
        simp only [Act.put, List.setIfInBounds_toArray, List.set_cons_zero, List.set_cons_succ]
        refine wpAnyH_ready (rs := [7]) (by kernel_rfl) (by simp) ?_
        refine AllReadyH.cons rfl (fun K hK => ?_) AllReadyH.nil
        refine step_any rfl (op_store1 rfl oneO32 rfl rfl hrc.one (b11.ext e12) (by decide) ?_)
        rintro W13 b13 m13
        refine hK.out _ _ (HH.out.trans m13) (fun hHeld => ?_)
        clear hK K HH
        have HH : Hid (Mod (fun x => x = B12) W0 _) := hHeld
        clear hHeld
        change wpAnyH _ _ _ _ _ _ _ (Act.put _ none _) _
        simp only [Act.put, List.setIfInBounds_toArray, List.set_cons_zero, List.set_cons_succ]
        refine wpAnyH_done (by kernel_rfl) ?_ _
        go_wp2
        go_meet
        case rel =>
          have C12 := ((C11.ext e12).setCode hrc)
          exact ⟨_, b13, by rw [if_pos (hpa.out.trans hp.out)]; exact C12.nl (fun v l q => q.keep m13 hneg), (e12.mod _).trans m13⟩
      · have zp : ((pa : Int) == 0) = false := by simp; omega
        have zpd : decide ((pa : Int) = 0) = false := decide_eq_false (by omega)
        replace hp := (show Hid _ from hp)
        go_wp2
        go_meet
        case rel =>
          exact ⟨d11, b11, by rw [if_neg (by rw [hpa.out]; exact hp.out)]; exact C11, Mod.refl _ _⟩
    case rest =>
    obtain ⟨W15, e9⟩ : ∃ X, X = wc := ⟨_, rfl⟩
    subst e9
    obtain ⟨d15, b15, C15, m15⟩ := hcut
    have h15 := h11.apart o7B m15 hbuf
    have bT15 := bT11.mod m15 nTB
    have hda15 := hda11.keepS m15 hneg
    have HCo := fun W' (hW : Ext W15 W') => eCopiedX (Mu own7) (Mu own7) _ _ _ (h15.ext hW).v.small (hda15.ext hW) hdl
    clear HCd b11 C11 b811 bT11 hda11
    go_upto_region 35 with (first | ((with_reducible (refine Veil.out ?_; apply wl_loadC oneO32)); (case hw => rfl); (case hx => rfl); (case hc => exact (bT15.cell (i := 107) (by decide)))) | (go_at_call 113; refine (HCo _ (by (repeat (first | with_reducible exact Ext.refl _ | with_reducible assumption | refine Ext.trans ?_ (by with_reducible assumption) | refine Ext.alloc ?_ _ _ | refine Ext.drew ?_ | refine Ext.drewN ?_ _)))).mono ?_; rintro e w16 ⟨rq, rfl, hrq, he16⟩) | ((with_reducible (refine Veil.out ?_; apply wl_storeC oneO32)); (case hx => rfl); (case hy => rfl); (case h1 => exact hrq.one); (case hB => exact b15.ext he16); (case hi => decide); rintro W17 b17 m17))
    have M17 : Mod (fun x => x = B12) W15 W17 := (he16.mod _).trans m17
    have h17 := h15.apart o7B M17 hbuf
    have C17 := ((C15.ext he16).setInput hrq).nl (O' := Mu own7) (w' := W17) (fun v l q => q.keep m17 hneg)
    have hFR := C17.row (f := opF0 st.now t tg st.txGas) rfl hokE
    have HEn := mEnterC h17 hFR hr (by rw [hf]; decide) rfl (by simp [opF0]) (by simp [opF0]) hleE hovE
    have s17 : MStep own W own7 W17 := s7.trans ⟨fun _ _ => rfl, ((M11.trans m15).trans M17).sub (fun b hb => by have hb2 : b = B12 := hb; rw [hb2, o7B]; decide)⟩
    clear HCo b15 C15 h15 h11 M11 m15 M17 bT15 hda15
    go_wp2_with (first | ((with_reducible (refine Veil.out ?_; apply wl_loadRow rt72)); (case hx => rfl); (case hB => exact b17); (case hi => decide)) | (go_at_call 114; refine HEn.mono ?_; rintro e w18 ⟨rfl, own18, c18, h18, s18⟩))
    rw [hend.out]
    exact ⟨own18, c18, _, _, h18, s17.trans s18, ((grew_snap V).trans (grew_moveI _ _ _ _)).le (by decide) (by decide) (by decide) (by decide) (by decide) (by decide)⟩
  | true =>
    have HTk := fun W' (hW : Ext W14 W') => mTaken (h7.ext hW) tg htg
    by_cases htk : st.now.nonce tg = 0 ∧ st.now.code tg = []
    · have hend : Hid (opEnd st t tg = ({ st with phase := 1 } : ASt).enter (opF1 st.now t tg st.txGas)) := by
        show _ = _
        unfold opEnd; rw [hcr.out, if_pos rfl, if_neg (by rw [htk.1, htk.2]; simp)]
      have hokE := hok1 hcr.out
      have hleE := hle1 hcr.out
      have hovE := hov1 hcr.out
      clear hok1 hok0 hle0 hle1 hov0 hov1
      rw [decide_eq_true htk, Bool.not_true] at HTk
      replace htk := (show Hid _ from htk)
      go_upto_region 37 with ((with_reducible (refine Veil.out ?_; apply wl_loadC oneO4)); (case hw => rfl); (case hx => rfl); (case hc => exact (bT14.cell (i := 40) (by decide)).trans (congrArg some hcc)))
      go_upto_region 43 with (first | ((with_reducible (refine Veil.out ?_; apply wl_loadA)); (case hx => rfl); (case hB => exact b814); (case hA => exact a8); (case hs => exact htg); (case ho => decide)) | (go_at_call 115; refine (HTk _ (by (repeat (first | with_reducible exact Ext.refl _ | with_reducible assumption | refine Ext.trans ?_ (by with_reducible assumption) | refine Ext.alloc ?_ _ _ | refine Ext.drew ?_ | refine Ext.drewN ?_ _)))).mono ?_; rintro e w9 ⟨rfl, he9⟩))
      go_upto_region 44 with ((with_reducible (refine Veil.out ?_; apply wl_storeC oneO5)); (case hx => rfl); (case hy => rfl); (case h1 => rfl); (case hB => exact b14.ext he9); (case hi => decide); rintro W11 b11 m11)
      have M11 : Mod (fun x => x = B12) W14 W11 := (he9.mod _).trans m11
      have h11 := h7.apart o7B M11 hbuf
      have bT11 := bT14.mod M11 nTB
      have C11 := (C14.nl (O' := Mu own7) (w' := W11) (fun v l q => q.keep M11 hneg)).setKind 1
      have hda11 := hda7.keepS M11 hneg
      obtain ⟨d11, b11', C11'⟩ : ∃ f, Blk W11 B12 65 85 f ∧ ChC (Mu own7) W11 f 1 0 st.txGas tg t.from_ t.value false [] [] := ⟨_, b11, C11⟩
      clear b11 C11
      have HCo := fun W' (hW : Ext W11 W') => eCopiedX (Mu own7) (Mu own7) _ _ _ (h11.ext hW).v.small (hda11.ext hW) hdl
      clear HTk b14 C14 h7 bT14 b814 hda7 m11 he9
      go_upto_region 45 with (first | ((with_reducible (refine Veil.out ?_; apply wl_loadC oneO32)); (case hw => rfl); (case hx => rfl); (case hc => exact (bT11.cell (i := 107) (by decide)))) | (go_at_call 113; refine (HCo _ (by (repeat (first | with_reducible exact Ext.refl _ | with_reducible assumption | refine Ext.trans ?_ (by with_reducible assumption) | refine Ext.alloc ?_ _ _ | refine Ext.drew ?_ | refine Ext.drewN ?_ _)))).mono ?_; rintro e w16 ⟨rq, rfl, hrq, he16⟩) | ((with_reducible (refine Veil.out ?_; apply wl_storeC oneO32)); (case hx => rfl); (case hy => rfl); (case h1 => exact hrq.one); (case hB => exact b11'.ext he16); (case hi => decide); rintro W17 b17 m17))
      have M17 : Mod (fun x => x = B12) W11 W17 := (he16.mod _).trans m17
      have h17 := h11.apart o7B M17 hbuf
      have C17 := ((C11'.ext he16).setCode hrq).nl (O' := Mu own7) (w' := W17) (fun v l q => q.keep m17 hneg)
      have hFR := C17.row (f := opF1 st.now t tg st.txGas) rfl hokE
      have HEn := mEnterA h17 hFR hr (by rw [hf]; decide) rfl hleE hovE
      have s17 : MStep own W own7 W17 := s7.trans ⟨fun _ _ => rfl, (M11.trans M17).sub (fun b hb => by have hb2 : b = B12 := hb; rw [hb2, o7B]; decide)⟩
      clear HCo b11' C11' h11 M11 M17 bT11 hda11
      go_wp2_with (first | ((with_reducible (refine Veil.out ?_; apply wl_loadRow rt72)); (case hx => rfl); (case hB => exact b17); (case hi => decide)) | (go_at_call 114; refine HEn.mono ?_; rintro e w18 ⟨rfl, own18, c18, h18, s18⟩))
      rw [hend.out]
      exact ⟨own18, c18, _, _, h18, s17.trans s18, ((((grew_snap V).trans (grew_opA _ _ _ _)).trans (grew_opA _ _ _ _)).trans (grew_moveI _ _ _ _)).le (by decide) (by decide) (by decide) (by decide) (by decide) (by decide)⟩
    · have hend : Hid (opEnd st t tg = { st with frames := [], phase := 2, status := 12, left := 0 }) := by
        show _ = _
        unfold opEnd; rw [hcr.out, if_pos rfl, if_pos (by
          by_cases q : st.now.nonce tg = 0
          · exact Or.inr (fun q2 => htk ⟨q, q2⟩)
          · exact Or.inl q), hf]
      clear hok1 hok0 hle0 hle1 hov0 hov1
      rw [decide_eq_false htk, Bool.not_false] at HTk
      replace htk := (show Hid _ from htk)
      go_upto_region 37 with ((with_reducible (refine Veil.out ?_; apply wl_loadC oneO4)); (case hw => rfl); (case hx => rfl); (case hc => exact (bT14.cell (i := 40) (by decide)).trans (congrArg some hcc)))
      go_upto_region 38 with (first | ((with_reducible (refine Veil.out ?_; apply wl_loadA)); (case hx => rfl); (case hB => exact b814); (case hA => exact a8); (case hs => exact htg); (case ho => decide)) | (go_at_call 115; refine (HTk _ (by (repeat (first | with_reducible exact Ext.refl _ | with_reducible assumption | refine Ext.trans ?_ (by with_reducible assumption) | refine Ext.alloc ?_ _ _ | refine Ext.drew ?_ | refine Ext.drewN ?_ _)))).mono ?_; rintro e w9 ⟨rfl, he9⟩))
      have h9 := h7.ext he9
      have s9 : MStep own W own7 w9 := s7.trans (MStep.ext he9)
      have bg := h9.v.blk
      clear HTk h7 b14 C14 bT14 b814 hda7 he9
      go_upto_region 39 with ((with_reducible (refine Veil.out ?_; apply wl_storeC oneO5)); (case hx => rfl); (case hy => rfl); (case h1 => rfl); (case hB => exact bg); (case hi => decide); rintro W11 b11 m11)
      go_upto_region 40 with ((with_reducible (refine Veil.out ?_; apply wl_storeC oneO5)); (case hx => rfl); (case hy => rfl); (case h1 => rfl); (case hB => exact b11); (case hi => decide); rintro W12 b12 m12)
      go_upto_region 41 with ((with_reducible (refine Veil.out ?_; apply wl_storeC oneO26)); (case hx => rfl); (case hy => rfl); (case h1 => rfl); (case hB => exact b12); (case hi => decide); rintro W13 b13 m13)
      go_upto_region 42 with ((with_reducible (refine Veil.out ?_; apply wl_storeC oneO21)); (case hx => rfl); (case hy => rfl); (case h1 => rfl); (case hB => exact b13); (case hi => decide); rintro W15 b15 m15)
      obtain ⟨h18, s18⟩ := h9.ended2 (lf := 0) (sts := 12) hf (((m11.trans m12).trans m13).trans m15) b15 (fun i q1 q2 q3 q4 => by rw [updv_ne _ _ q2, updv_ne _ _ q1, updv_ne _ _ q4, updv_ne _ _ q3]) (by rw [updv_ne _ _ (by decide), updv_ne _ _ (by decide), updv_ne _ _ (by decide), updv_same]; rfl) (by rw [updv_ne _ _ (by decide), updv_ne _ _ (by decide), updv_same]; rfl) (by decide) (by rw [updv_ne _ _ (by decide), updv_same]; rfl) (by decide)
      go_wp2
      rw [hend.out]
      exact ⟨own7, _, _, _, h18, s9.trans s18, (EV.Grew.refl V).le (by decide) (by decide) (by decide) (by decide) (by decide) (by decide)⟩
end
end Go.Proofs.YgvahwGreat
