import Derived.Test.YgvahwGreatOpn4
import Derived.Test.YgvahwGreatEb
namespace Go.Proofs.YgvahwGreat
open Go.RowKit
set_option linter.unusedSimpArgs false
theorem oneO33 : OneT 38 := oneT_of (by kernel_rfl) (by kernel_rfl)
theorem b25o (k : Nat) (hk : k = 4 ∨ k = 5) : ∀ w, (Instr.build 31 ([(19, .int .u8 (k : Nat))] : List (Nat × Value)).toArray).run Hvah.prog w = .ok (.agg (av k)) w := by
  rcases hk with rfl | rfl
  · intro w; kernel_rfl
  · intro w; kernel_rfl
theorem yieldsS_W {S : World → Prop} {ops : Array Oper} {o : Oper} {a : Act} {x : Operand} {b i y n : Nat} {tt : TypeId} (hw : Region.wanted o (yielded ops a.tmps) = true) (hop : o.op = .load 79 x) (hx : a.eval x = .pointer (some ⟨b, i, none⟩)) (hB : ∀ w, S w → ∃ d, Blk w b n tt d ∧ WAt d i y) (hi : i + 4 ≤ n) : YieldsIf Hvah.prog ops S o (wv y) a := by
  obtain ⟨d, h1, h2⟩ := rt66.desc
  exact yieldsIf_load_mid hw 79 x hop b i hx (wvA y).toList d (fun w h j v hv => by
    obtain ⟨d', q1, q2⟩ := hB w h
    exact q2.rowIn q1 hi j v (by simpa using hv)) h1 h2 (by rw [rt66.size]; rfl)
theorem SV.wat {own : Nat → Nat} {g : Nat} {c : Nat → Value} {W0 w' : World} (h : SV own g c W0 w') {i y : Nat} (hi : i + 4 ≤ 2435) (hW : WAt c i y) : ∃ d, Blk w' g 27024 105 d ∧ WAt d i y := by
  obtain ⟨o, d, k, b⟩ := h
  exact ⟨d, b, ⟨(k.far _ (Or.inl (by omega))).trans hW.c0, (k.far _ (Or.inl (by omega))).trans hW.c1, (k.far _ (Or.inl (by omega))).trans hW.c2, (k.far _ (Or.inl (by omega))).trans hW.c3⟩⟩
section
variable {own : Nat → Nat} {W : World} {g BT B8 tg hd : Nat} {ns : Int} {c c8 : Nat → Value} {V : EV} {st : ASt} {stale : List Nat} {r : Array Value} {t : ATx}
set_option maxRecDepth 100000 in
set_option maxHeartbeats 6400000 in
theorem opMid {K : Act → World → Prop} {R : Ending → World → Prop} (u1 u2 u4 u5 u6 u7 u8 u9 u12 u13 u14 u15 u16 u17 u18 u19 u20 u21 u22 u23 u24 u25 u26 u27 u28 u29 u30 u31 u32 u33 u34 u35 u36 u37 u38 u39 u40 u41 u42 u43 u44 u45 u46 u47 u48 u49 u50 u51 u52 u53 u54 u55 u56 u57 u58 u59 u60 u61 u62 u63 u64 u65 u66 u67 u68 u69 u70 u71 u72 u73 u74 u75 u76 u77 u78 u79 u80 u81 u82 u83 u84 u85 u86 u87 u88 u89 u90 u91 u92 u93 u94 u95 u96 u97 u98 u99 u100 u101 u102 u103 u104 u105 u106 u107 u108 u109 u110 u111 u112 u113 u114 u115 u116 u117 u118 u119 u120 u121 u122 u123 u124 u125 u126 u127 u128 u129 u130 u131 u132 u133 u134 u135 u136 u137 u138 u139 u140 u141 u142 u143 u144 u145 u146 u147 u148 u149 u150 u151 u152 u153 u154 u155 u156 u157 u158 u159 u160 u161 u162 u163 u164 u165 u166 u167 u168 u169 u170 u171 u172 u173 u174 u175 u176 u177 u178 u179 u180 u181 u182 u183 u184 u185 u186 u187 u188 u189 u190 u191 u192 u193 u194 u195 u196 u197 u198 u199 u200 u201 u202 u203 u204 u205 u206 u207 u208 u209 u210 u211 u212 u213 u214 u215 u216 u217 u218 u219 u220 u221 u222 u223 u224 u225 u226 u227 u228 u229 u230 u231 u232 : Value) (o : OS own W g c V st stale BT B8 r t c8) (hf : st.frames = []) (ktg : c 2408 = .int .u64 (st.txGas : Nat)) (khd : WAt c 2409 hd) (hhl : hd < P256) (hhe : hd ≤ st.now.bal t.from_) (a8 : AAt c8 0 tg) (htg : tg < 2 ^ 160) (hr : Room V (12 + (t.access.length + keysN t.access))) (hnn : t.nonce < 18446744073709551615) (hlen : t.access.length ≤ 16) (hkey : keysN t.access ≤ 64) (hdl : t.data.length ≤ 140737488355328)
    (hok0 : t.create = false → FOK (opF0 ((((((((st.now.setNonce t.from_ (t.nonce + 1)).setBal t.from_ (st.now.bal t.from_ - hd)).warm t.from_).warm st.env.coinbase).warm tg).warm 4).warm 5).warmList t.access) t tg st.txGas)) (hok1 : t.create = true → FOK (opF1 ((((((((st.now.setNonce t.from_ (t.nonce + 1)).setBal t.from_ (st.now.bal t.from_ - hd)).warm t.from_).warm st.env.coinbase).warm tg).warm 4).warm 5).warmList t.access) t tg st.txGas))
    (hle0 : t.create = false → t.value ≤ ((((((((st.now.setNonce t.from_ (t.nonce + 1)).setBal t.from_ (st.now.bal t.from_ - hd)).warm t.from_).warm st.env.coinbase).warm tg).warm 4).warm 5).warmList t.access).bal t.from_) (hov0 : t.create = false → t.value ≠ 0 → (((((((((st.now.setNonce t.from_ (t.nonce + 1)).setBal t.from_ (st.now.bal t.from_ - hd)).warm t.from_).warm st.env.coinbase).warm tg).warm 4).warm 5).warmList t.access).setBal t.from_ (((((((((st.now.setNonce t.from_ (t.nonce + 1)).setBal t.from_ (st.now.bal t.from_ - hd)).warm t.from_).warm st.env.coinbase).warm tg).warm 4).warm 5).warmList t.access).bal t.from_ - t.value)).bal tg + t.value < P256)
    (hle1 : t.create = true → t.value ≤ ((((((((((st.now.setNonce t.from_ (t.nonce + 1)).setBal t.from_ (st.now.bal t.from_ - hd)).warm t.from_).warm st.env.coinbase).warm tg).warm 4).warm 5).warmList t.access).setNonce tg 1).markMade tg).bal t.from_) (hov1 : t.create = true → t.value ≠ 0 → (((((((((((st.now.setNonce t.from_ (t.nonce + 1)).setBal t.from_ (st.now.bal t.from_ - hd)).warm t.from_).warm st.env.coinbase).warm tg).warm 4).warm 5).warmList t.access).setNonce tg 1).markMade tg).setBal t.from_ (((((((((((st.now.setNonce t.from_ (t.nonce + 1)).setBal t.from_ (st.now.bal t.from_ - hd)).warm t.from_).warm st.env.coinbase).warm tg).warm 4).warm 5).warmList t.access).setNonce tg 1).markMade tg).bal t.from_ - t.value)).bal tg + t.value < P256)
    (hQ : ∀ w', (∃ own' c' V' sn', MRep own' w' g c' V' (opEnd { st with now := ((((((((st.now.setNonce t.from_ (t.nonce + 1)).setBal t.from_ (st.now.bal t.from_ - hd)).warm t.from_).warm st.env.coinbase).warm tg).warm 4).warm 5).warmList t.access) } t tg) sn' stale ∧ MStep own W own' w' ∧ V.Grew V' (12 + (t.access.length + keysN t.access)) (12 + (t.access.length + keysN t.access)) (keysN t.access) 0 0 1) → R (.returned (.int .u8 (0 : Nat))) w')
    (hK : ∀ x y, Code.wp Hvah.prog (otail 18 (obody Hvah.f45)) (OQ R) x y → K x y) : Code.wp Hvah.prog (ohead (otail 17 (obody Hvah.f45))) (Exit.then K (OQ R)) { tmps := #[.pointer (some ⟨g, 0, none⟩), u1, u2, .pointer (some ⟨BT, 0, none⟩), u4, u5, u6, u7, u8, u9, .int .i32 ns, .pointer (some ⟨B8, 0, none⟩), u12, u13, u14, u15, u16, u17, u18, u19, u20, u21, u22, u23, u24, u25, u26, u27, u28, u29, u30, u31, u32, u33, u34, u35, u36, u37, u38, u39, u40, u41, u42, u43, u44, u45, u46, u47, u48, u49, u50, u51, u52, u53, u54, u55, u56, u57, u58, u59, u60, u61, u62, u63, u64, u65, u66, u67, u68, u69, u70, u71, u72, u73, u74, u75, u76, u77, u78, u79, u80, u81, u82, u83, u84, u85, u86, u87, u88, u89, u90, u91, u92, u93, u94, u95, u96, u97, u98, u99, u100, u101, u102, u103, u104, u105, u106, u107, u108, u109, u110, u111, u112, u113, u114, u115, u116, u117, u118, u119, u120, u121, u122, u123, u124, u125, u126, u127, u128, u129, u130, u131, u132, u133, u134, u135, u136, u137, u138, u139, u140, u141, u142, u143, u144, u145, u146, u147, u148, u149, u150, u151, u152, u153, u154, u155, u156, u157, u158, u159, u160, u161, u162, u163, u164, u165, u166, u167, u168, u169, u170, u171, u172, u173, u174, u175, u176, u177, u178, u179, u180, u181, u182, u183, u184, u185, u186, u187, u188, u189, u190, u191, u192, u193, u194, u195, u196, u197, u198, u199, u200, u201, u202, u203, u204, u205, u206, u207, u208, u209, u210, u211, u212, u213, u214, u215, u216, u217, u218, u219, u220, u221, u222, u223, u224, u225, u226, u227, u228, u229, u230, u231, u232], defers := [] } W := by
  obtain ⟨N, hN⟩ : ∃ z, Hid (t.access.length + keysN t.access = z) := ⟨_, rfl⟩
  obtain ⟨nn, hnne⟩ : ∃ z, Hid (t.nonce + 1 = z) := ⟨_, rfl⟩
  have hnnl : nn < 18446744073709551616 := by have := hnne.out; omega
  have w1 : IntKind.u64.wrap ((t.nonce : Int) + 1) = (nn : Int) := by rw [IntKind.wrap_u64, ← hnne.out]; omega
  have hbl : st.now.bal t.from_ < P256 := by rw [← o.h.abs]; exact o.h.v.balLt t.from_
  obtain ⟨bl, hble⟩ : ∃ z, Hid (st.now.bal t.from_ = z) := ⟨_, rfl⟩
  rw [hble.out] at hbl hhe
  obtain ⟨nb, hnbe⟩ : ∃ z, Hid (bl - hd = z) := ⟨_, rfl⟩
  have hnbl : nb < P256 := by have := hnbe.out; omega
  have HSb : ∀ W, Calls Hvah.prog 107 #[wv bl, wv hd] W fun e w' => e = .returned (wv nb) ∧ Ext W w' := fun W => by
    have q := uSub bl hd W hbl hhl
    rw [show (bl + P256 - hd) % P256 = nb by rw [show bl + P256 - hd = (bl - hd) + P256 by omega, Nat.add_mod_right, hnbe.out]; exact Nat.mod_eq_of_lt hnbl] at q
    exact q
  rw [hN.out] at hr
  have HP := fun W' (hW : Ext W W') => mPutNonce (n := 11 + N) (o.h.ext hW) (hr.le (by omega)) t.from_ o.hT.fLt nn hnnl
  have knon := o.hT.nonce
  have hQ' : Hid (∀ w', (∃ own' c' V' sn', MRep own' w' g c' V' (opEnd { st with now := ((((((((st.now.setNonce t.from_ (t.nonce + 1)).setBal t.from_ (st.now.bal t.from_ - hd)).warm t.from_).warm st.env.coinbase).warm tg).warm 4).warm 5).warmList t.access) } t tg) sn' stale ∧ MStep own W own' w' ∧ V.Grew V' (12 + (t.access.length + keysN t.access)) (12 + (t.access.length + keysN t.access)) (keysN t.access) 0 0 1) → R (.returned (.int .u8 (0 : Nat))) w') := hQ
  clear hQ
  simp only [otail, ohead, obody, Hvah.f45] at hK ⊢
  unfold OQ at hK ⊢
  refine w_ext ?_
  rintro W0 hW0
  refine wp_region_held_drew (S := fun w' => SV own g c W0 w') (by kernel_rfl) (SV.start (o.h.v.blk.ext hW0) (Ext.refl _).drew) (fun hHeld => ?_)
  have HH : Hid (SV own g c W0 _) := hHeld
  clear hHeld
  refine wpAnyH_take (i := 0) (v := ?_) rfl (by kernel_rfl) (by kernel_rfl) (by kernel_rfl) (fun _ _ _ h => h) (Or.inl ⟨by rfl, ?_⟩) HH.out ?_
  rotate_left
  · intro w hSw; go_simp; try with_reducible rfl
  change wpAnyH _ _ _ _ _ _ _ (Act.put _ (some 100) _) _
  simp only [Act.put, List.setIfInBounds_toArray, List.set_cons_zero, List.set_cons_succ]
  refine wpAnyH_take (i := 1) (v := ?_) rfl (by kernel_rfl) (by kernel_rfl) (by kernel_rfl) (fun _ _ _ h => h) (Or.inl ⟨by rfl, ?_⟩) HH.out ?_
  rotate_left
  · intro w hSw; go_simp; try with_reducible rfl
  change wpAnyH _ _ _ _ _ _ _ (Act.put _ (some 101) _) _
  simp only [Act.put, List.setIfInBounds_toArray, List.set_cons_zero, List.set_cons_succ]
  refine wpAnyH_take (i := 2) (v := ?_) rfl (by kernel_rfl) (by kernel_rfl) (by kernel_rfl) (fun _ _ _ h => h) (Or.inl ⟨by rfl, ?_⟩) HH.out ?_
  rotate_left
  · intro w hSw; go_simp; try with_reducible rfl
  change wpAnyH _ _ _ _ _ _ _ (Act.put _ (some 102) _) _
  simp only [Act.put, List.setIfInBounds_toArray, List.set_cons_zero, List.set_cons_succ]
  refine wpAnyH_take (i := 3) rfl (by kernel_rfl) (by kernel_rfl) (by kernel_rfl) (fun _ _ _ h => h) (yieldsIf_load1 (by rfl) _ _ rfl _ _ rfl oneO60 _ (fun w hSw => by rw [SV.cell hSw (by decide), o.h.m.ptr])) HH.out ?_
  change wpAnyH _ _ _ _ _ _ _ (Act.put _ (some 103) _) _
  simp only [Act.put, List.setIfInBounds_toArray, List.set_cons_zero, List.set_cons_succ]
  refine wpAnyH_take (i := 4) (v := ?_) rfl (by kernel_rfl) (by kernel_rfl) (by kernel_rfl) (fun _ _ _ h => h) (Or.inl ⟨by rfl, ?_⟩) HH.out ?_
  rotate_left
  · intro w hSw; go_simp; try with_reducible rfl
  change wpAnyH _ _ _ _ _ _ _ (Act.put _ (some 104) _) _
  simp only [Act.put, List.setIfInBounds_toArray, List.set_cons_zero, List.set_cons_succ]
  refine wpAnyH_take (i := 5) rfl (by kernel_rfl) (by kernel_rfl) (by kernel_rfl) (fun _ _ _ h => h) (yields_A (by rfl) rfl rfl (fun w hSw => SV.box hSw (o.bT.ext hW0) o.oT) o.hT.from_ o.hT.fLt (by decide)) HH.out ?_
  change wpAnyH _ _ _ _ _ _ _ (Act.put _ (some 105) _) _
  simp only [Act.put, List.setIfInBounds_toArray, List.set_cons_zero, List.set_cons_succ]
  refine wpAnyH_take (i := 6) (v := ?_) rfl (by kernel_rfl) (by kernel_rfl) (by kernel_rfl) (fun _ _ _ h => h) (Or.inl ⟨by rfl, ?_⟩) HH.out ?_
  rotate_left
  · intro w hSw; go_simp; try with_reducible rfl
  change wpAnyH _ _ _ _ _ _ _ (Act.put _ (some 106) _) _
  simp only [Act.put, List.setIfInBounds_toArray, List.set_cons_zero, List.set_cons_succ]
  refine wpAnyH_take (i := 7) rfl (by kernel_rfl) (by kernel_rfl) (by kernel_rfl) (fun _ _ _ h => h) (yieldsIf_load1 (by rfl) _ _ rfl _ _ rfl oneO26 _ (fun w hSw => by rw [(SV.box hSw (o.bT.ext hW0) o.oT).cell (by decide), knon])) HH.out ?_
  change wpAnyH _ _ _ _ _ _ _ (Act.put _ (some 107) _) _
  simp only [Act.put, List.setIfInBounds_toArray, List.set_cons_zero, List.set_cons_succ]
  refine wpAnyH_take (i := 8) (v := ?_) rfl (by kernel_rfl) (by kernel_rfl) (by kernel_rfl) (fun _ _ _ h => h) (Or.inl ⟨by rfl, ?_⟩) HH.out ?_
  rotate_left
  · intro w hSw; go_simp; try with_reducible rfl
  change wpAnyH _ _ _ _ _ _ _ (Act.put _ (some 108) _) _
  simp only [Act.put, List.setIfInBounds_toArray, List.set_cons_zero, List.set_cons_succ]
  refine wpAnyH_ready (rs := [9]) (by kernel_rfl) (by simp) ?_
  refine AllReadyH.cons rfl (fun K hK => ?_) AllReadyH.nil
  go_simp
  first | rw [w1] | skip
  go_at_call 105; refine (HP _ (hW0.trans (by (repeat (first | with_reducible exact Ext.refl _ | with_reducible assumption | refine Ext.trans ?_ (by with_reducible assumption) | refine Ext.alloc ?_ _ _ | refine Ext.drew ?_ | refine Ext.drewN ?_ _))))).mono ?_; rintro e W1 ⟨rfl, own1, c1, h1, k1⟩
  refine hK.out _ _ ?_ (fun hHeld => ?_)
  · first | exact ⟨own1, c1, (VStep.ext (by (repeat (first | with_reducible exact Ext.refl _ | with_reducible assumption | refine Ext.trans ?_ (by with_reducible assumption) | refine Ext.alloc ?_ _ _ | refine Ext.drew ?_ | refine Ext.drewN ?_ _)))).trans k1, h1.v.blk⟩ | exact HH.out.ext he
  clear hK K HH
  have HH : Hid (SV own g c W0 _) := hHeld
  clear hHeld
  refine wpAnyH_done (by kernel_rfl) ?_ _
  have k1' : VStep own W c own1 W1 c1 := (VStep.ext (hW0.trans (by (repeat (first | with_reducible exact Ext.refl _ | with_reducible assumption | refine Ext.trans ?_ (by with_reducible assumption) | refine Ext.alloc ?_ _ _ | refine Ext.drew ?_ | refine Ext.drewN ?_ _))))).trans k1
  have o1 := o.step h1 k1'
  have g1 : V.Grew (V.putNonce t.from_ nn) 1 1 0 0 0 0 := grew_opA _ _ _ _
  obtain ⟨V1, hV1⟩ : ∃ z, V.putNonce t.from_ nn = z := ⟨_, rfl⟩
  rw [hV1] at o1 g1
  have hr1 : Room V1 (11 + N) := by rw [← hV1]; exact Room.opA (hr.le (by omega))
  clear hV1 h1 k1 HP HH hW0 w1
  go_upto_region 22 with (fail)
  have hb1 : (V1.acct t.from_).bal = bl := by rw [← hble.out, show (V1.acct t.from_).bal = V1.abs.bal t.from_ from rfl, o1.h.abs]; rfl
  have HB := fun W' (hW : Ext W1 W') => vBalance (o1.h.ext hW).v o1.hT.fLt
  rw [hb1] at HB
  have HP := fun W' (hW : Ext W1 W') => mPutBal (n := 10 + N) (o1.h.ext hW) (hr1.le (by omega)) t.from_ o1.hT.fLt nb hnbl
  have khd1 : WAt c1 2409 hd := ⟨(k1'.far _ (Or.inl (by decide))).trans khd.c0, (k1'.far _ (Or.inl (by decide))).trans khd.c1, (k1'.far _ (Or.inl (by decide))).trans khd.c2, (k1'.far _ (Or.inl (by decide))).trans khd.c3⟩
  refine w_ext ?_
  rintro W0 hW0
  refine wp_region_held_drew (S := fun w' => SV own1 g c1 W0 w') (by kernel_rfl) (SV.start (o1.h.v.blk.ext hW0) (Ext.refl _).drew) (fun hHeld => ?_)
  have HH : Hid (SV own1 g c1 W0 _) := hHeld
  clear hHeld
  refine wpAnyH_take (i := 0) (v := ?_) rfl (by kernel_rfl) (by kernel_rfl) (by kernel_rfl) (fun _ _ _ h => h) (Or.inl ⟨by rfl, ?_⟩) HH.out ?_
  rotate_left
  · intro w hSw; go_simp; try with_reducible rfl
  change wpAnyH _ _ _ _ _ _ _ (Act.put _ (some 110) _) _
  simp only [Act.put, List.setIfInBounds_toArray, List.set_cons_zero, List.set_cons_succ]
  refine wpAnyH_take (i := 1) (v := ?_) rfl (by kernel_rfl) (by kernel_rfl) (by kernel_rfl) (fun _ _ _ h => h) (Or.inl ⟨by rfl, ?_⟩) HH.out ?_
  rotate_left
  · intro w hSw; go_simp; try with_reducible rfl
  change wpAnyH _ _ _ _ _ _ _ (Act.put _ (some 111) _) _
  simp only [Act.put, List.setIfInBounds_toArray, List.set_cons_zero, List.set_cons_succ]
  refine wpAnyH_take (i := 2) (v := ?_) rfl (by kernel_rfl) (by kernel_rfl) (by kernel_rfl) (fun _ _ _ h => h) (Or.inl ⟨by rfl, ?_⟩) HH.out ?_
  rotate_left
  · intro w hSw; go_simp; try with_reducible rfl
  change wpAnyH _ _ _ _ _ _ _ (Act.put _ (some 112) _) _
  simp only [Act.put, List.setIfInBounds_toArray, List.set_cons_zero, List.set_cons_succ]
  refine wpAnyH_take (i := 3) rfl (by kernel_rfl) (by kernel_rfl) (by kernel_rfl) (fun _ _ _ h => h) (yieldsIf_load1 (by rfl) _ _ rfl _ _ rfl oneO60 _ (fun w hSw => by rw [SV.cell hSw (by decide), o1.h.m.ptr])) HH.out ?_
  change wpAnyH _ _ _ _ _ _ _ (Act.put _ (some 113) _) _
  simp only [Act.put, List.setIfInBounds_toArray, List.set_cons_zero, List.set_cons_succ]
  refine wpAnyH_take (i := 4) (v := ?_) rfl (by kernel_rfl) (by kernel_rfl) (by kernel_rfl) (fun _ _ _ h => h) (Or.inl ⟨by rfl, ?_⟩) HH.out ?_
  rotate_left
  · intro w hSw; go_simp; try with_reducible rfl
  change wpAnyH _ _ _ _ _ _ _ (Act.put _ (some 114) _) _
  simp only [Act.put, List.setIfInBounds_toArray, List.set_cons_zero, List.set_cons_succ]
  refine wpAnyH_take (i := 5) rfl (by kernel_rfl) (by kernel_rfl) (by kernel_rfl) (fun _ _ _ h => h) (yields_A (by rfl) rfl rfl (fun w hSw => SV.box hSw (o1.bT.ext hW0) o1.oT) o1.hT.from_ o1.hT.fLt (by decide)) HH.out ?_
  change wpAnyH _ _ _ _ _ _ _ (Act.put _ (some 115) _) _
  simp only [Act.put, List.setIfInBounds_toArray, List.set_cons_zero, List.set_cons_succ]
  refine wpAnyH_take (i := 6) (v := ?_) rfl (by kernel_rfl) (by kernel_rfl) (by kernel_rfl) (fun _ _ _ h => h) (Or.inl ⟨by rfl, ?_⟩) HH.out ?_
  rotate_left
  · intro w hSw; go_simp; try with_reducible rfl
  change wpAnyH _ _ _ _ _ _ _ (Act.put _ (some 116) _) _
  simp only [Act.put, List.setIfInBounds_toArray, List.set_cons_zero, List.set_cons_succ]
  refine wpAnyH_take (i := 7) (v := ?_) rfl (by kernel_rfl) (by kernel_rfl) (by kernel_rfl) (fun _ _ _ h => h) (Or.inl ⟨by rfl, ?_⟩) HH.out ?_
  rotate_left
  · intro w hSw; go_simp; try with_reducible rfl
  change wpAnyH _ _ _ _ _ _ _ (Act.put _ (some 117) _) _
  simp only [Act.put, List.setIfInBounds_toArray, List.set_cons_zero, List.set_cons_succ]
  refine wpAnyH_take (i := 8) (v := ?_) rfl (by kernel_rfl) (by kernel_rfl) (by kernel_rfl) (fun _ _ _ h => h) (Or.inl ⟨by rfl, ?_⟩) HH.out ?_
  rotate_left
  · intro w hSw; go_simp; try with_reducible rfl
  change wpAnyH _ _ _ _ _ _ _ (Act.put _ (some 118) _) _
  simp only [Act.put, List.setIfInBounds_toArray, List.set_cons_zero, List.set_cons_succ]
  refine wpAnyH_take (i := 9) rfl (by kernel_rfl) (by kernel_rfl) (by kernel_rfl) (fun _ _ _ h => h) (yieldsIf_load1 (by rfl) _ _ rfl _ _ rfl oneO60 _ (fun w hSw => by rw [SV.cell hSw (by decide), o1.h.m.ptr])) HH.out ?_
  change wpAnyH _ _ _ _ _ _ _ (Act.put _ (some 119) _) _
  simp only [Act.put, List.setIfInBounds_toArray, List.set_cons_zero, List.set_cons_succ]
  refine wpAnyH_take (i := 10) (v := ?_) rfl (by kernel_rfl) (by kernel_rfl) (by kernel_rfl) (fun _ _ _ h => h) (Or.inl ⟨by rfl, ?_⟩) HH.out ?_
  rotate_left
  · intro w hSw; go_simp; try with_reducible rfl
  change wpAnyH _ _ _ _ _ _ _ (Act.put _ (some 120) _) _
  simp only [Act.put, List.setIfInBounds_toArray, List.set_cons_zero, List.set_cons_succ]
  refine wpAnyH_take (i := 11) rfl (by kernel_rfl) (by kernel_rfl) (by kernel_rfl) (fun _ _ _ h => h) (yields_A (by rfl) rfl rfl (fun w hSw => SV.box hSw (o1.bT.ext hW0) o1.oT) o1.hT.from_ o1.hT.fLt (by decide)) HH.out ?_
  change wpAnyH _ _ _ _ _ _ _ (Act.put _ (some 121) _) _
  simp only [Act.put, List.setIfInBounds_toArray, List.set_cons_zero, List.set_cons_succ]
  refine wpAnyH_take (i := 13) (v := ?_) rfl (by kernel_rfl) (by kernel_rfl) (by kernel_rfl) (fun _ _ _ h => h) (Or.inl ⟨by rfl, ?_⟩) HH.out ?_
  rotate_left
  · intro w hSw; go_simp; try with_reducible rfl
  change wpAnyH _ _ _ _ _ _ _ (Act.put _ (some 123) _) _
  simp only [Act.put, List.setIfInBounds_toArray, List.set_cons_zero, List.set_cons_succ]
  refine wpAnyH_take (i := 14) (v := ?_) rfl (by kernel_rfl) (by kernel_rfl) (by kernel_rfl) (fun _ _ _ h => h) (Or.inl ⟨by rfl, ?_⟩) HH.out ?_
  rotate_left
  · intro w hSw; go_simp; try with_reducible rfl
  change wpAnyH _ _ _ _ _ _ _ (Act.put _ (some 124) _) _
  simp only [Act.put, List.setIfInBounds_toArray, List.set_cons_zero, List.set_cons_succ]
  refine wpAnyH_take (i := 15) (v := ?_) rfl (by kernel_rfl) (by kernel_rfl) (by kernel_rfl) (fun _ _ _ h => h) (Or.inl ⟨by rfl, ?_⟩) HH.out ?_
  rotate_left
  · intro w hSw; go_simp; try with_reducible rfl
  change wpAnyH _ _ _ _ _ _ _ (Act.put _ (some 125) _) _
  simp only [Act.put, List.setIfInBounds_toArray, List.set_cons_zero, List.set_cons_succ]
  refine wpAnyH_take (i := 16) rfl (by kernel_rfl) (by kernel_rfl) (by kernel_rfl) (fun _ _ _ h => h) (yieldsS_W (by rfl) rfl rfl (fun w hSw => SV.wat hSw (by decide) khd1) (by decide)) HH.out ?_
  change wpAnyH _ _ _ _ _ _ _ (Act.put _ (some 126) _) _
  simp only [Act.put, List.setIfInBounds_toArray, List.set_cons_zero, List.set_cons_succ]
  refine wpAnyH_ready (rs := [12]) (by kernel_rfl) (by simp) ?_
  refine AllReadyH.cons rfl (fun K hK => ?_) AllReadyH.nil
  go_simp
  go_at_call 108; refine (HB _ (hW0.trans (by (repeat (first | with_reducible exact Ext.refl _ | with_reducible assumption | refine Ext.trans ?_ (by with_reducible assumption) | refine Ext.alloc ?_ _ _ | refine Ext.drew ?_ | refine Ext.drewN ?_ _))))).mono ?_; rintro e wa ⟨rfl, he⟩
  refine hK.out _ _ ?_ (fun hHeld => ?_)
  · first | exact ⟨own2, c2, (VStep.ext (by (repeat (first | with_reducible exact Ext.refl _ | with_reducible assumption | refine Ext.trans ?_ (by with_reducible assumption) | refine Ext.alloc ?_ _ _ | refine Ext.drew ?_ | refine Ext.drewN ?_ _)))).trans k2, h2.v.blk⟩ | exact HH.out.ext he
  clear hK K HH
  have HH : Hid (SV own1 g c1 W0 _) := hHeld
  clear hHeld
  refine wpAnyH_ready (rs := [17]) (by kernel_rfl) (by simp) ?_
  refine AllReadyH.cons rfl (fun K hK => ?_) AllReadyH.nil
  go_simp
  go_at_call 107; refine (HSb _).mono ?_; rintro e wb ⟨rfl, he⟩
  refine hK.out _ _ ?_ (fun hHeld => ?_)
  · first | exact ⟨own2, c2, (VStep.ext (by (repeat (first | with_reducible exact Ext.refl _ | with_reducible assumption | refine Ext.trans ?_ (by with_reducible assumption) | refine Ext.alloc ?_ _ _ | refine Ext.drew ?_ | refine Ext.drewN ?_ _)))).trans k2, h2.v.blk⟩ | exact HH.out.ext he
  clear hK K HH
  have HH : Hid (SV own1 g c1 W0 _) := hHeld
  clear hHeld
  refine wpAnyH_ready (rs := [18]) (by kernel_rfl) (by simp) ?_
  refine AllReadyH.cons rfl (fun K hK => ?_) AllReadyH.nil
  go_simp
  go_at_call 106; refine (HP _ (hW0.trans (by (repeat (first | with_reducible exact Ext.refl _ | with_reducible assumption | refine Ext.trans ?_ (by with_reducible assumption) | refine Ext.alloc ?_ _ _ | refine Ext.drew ?_ | refine Ext.drewN ?_ _))))).mono ?_; rintro e W2 ⟨rfl, own2, c2, h2, k2⟩
  refine hK.out _ _ ?_ (fun hHeld => ?_)
  · first | exact ⟨own2, c2, (VStep.ext (by (repeat (first | with_reducible exact Ext.refl _ | with_reducible assumption | refine Ext.trans ?_ (by with_reducible assumption) | refine Ext.alloc ?_ _ _ | refine Ext.drew ?_ | refine Ext.drewN ?_ _)))).trans k2, h2.v.blk⟩ | exact HH.out.ext he
  clear hK K HH
  have HH : Hid (SV own1 g c1 W0 _) := hHeld
  clear hHeld
  refine wpAnyH_done (by kernel_rfl) ?_ _
  have k2' : VStep own1 W1 c1 own2 W2 c2 := (VStep.ext (hW0.trans (by (repeat (first | with_reducible exact Ext.refl _ | with_reducible assumption | refine Ext.trans ?_ (by with_reducible assumption) | refine Ext.alloc ?_ _ _ | refine Ext.drew ?_ | refine Ext.drewN ?_ _))))).trans k2
  have o2 := o1.step h2 k2'
  have g2 : V.Grew (V1.putBal t.from_ nb) 2 2 0 0 0 0 := g1.trans (grew_opA _ _ _ _)
  obtain ⟨V2, hV2⟩ : ∃ z, V1.putBal t.from_ nb = z := ⟨_, rfl⟩
  rw [hV2] at o2 g2
  have hr2 : Room V2 (10 + N) := by rw [← hV2]; exact Room.opA (hr1.le (by omega))
  have kk2 := k1'.trans k2'
  clear hV2 h2 k2 HP HH hW0 HB HSb o1 o k1' k2' khd khd1 hr1 hr g1
  go_upto_region 23 with (fail)
  have HP := fun W' (hW : Ext W2 W') => eWarmG (n := 9 + N) (o2.h.ext hW) (hr2.le (by omega)) o2.hT.fLt
  refine w_ext ?_
  rintro W0 hW0
  refine wp_region_held_drew (S := fun w' => SV own2 g c2 W0 w') (by kernel_rfl) (SV.start (o2.h.v.blk.ext hW0) (Ext.refl _).drew) (fun hHeld => ?_)
  have HH : Hid (SV own2 g c2 W0 _) := hHeld
  clear hHeld
  refine wpAnyH_take (i := 0) (v := ?_) rfl (by kernel_rfl) (by kernel_rfl) (by kernel_rfl) (fun _ _ _ h => h) (Or.inl ⟨by rfl, ?_⟩) HH.out ?_
  rotate_left
  · intro w hSw; go_simp; try with_reducible rfl
  change wpAnyH _ _ _ _ _ _ _ (Act.put _ (some 129) _) _
  simp only [Act.put, List.setIfInBounds_toArray, List.set_cons_zero, List.set_cons_succ]
  refine wpAnyH_take (i := 1) (v := ?_) rfl (by kernel_rfl) (by kernel_rfl) (by kernel_rfl) (fun _ _ _ h => h) (Or.inl ⟨by rfl, ?_⟩) HH.out ?_
  rotate_left
  · intro w hSw; go_simp; try with_reducible rfl
  change wpAnyH _ _ _ _ _ _ _ (Act.put _ (some 130) _) _
  simp only [Act.put, List.setIfInBounds_toArray, List.set_cons_zero, List.set_cons_succ]
  refine wpAnyH_take (i := 2) (v := ?_) rfl (by kernel_rfl) (by kernel_rfl) (by kernel_rfl) (fun _ _ _ h => h) (Or.inl ⟨by rfl, ?_⟩) HH.out ?_
  rotate_left
  · intro w hSw; go_simp; try with_reducible rfl
  change wpAnyH _ _ _ _ _ _ _ (Act.put _ (some 131) _) _
  simp only [Act.put, List.setIfInBounds_toArray, List.set_cons_zero, List.set_cons_succ]
  refine wpAnyH_take (i := 3) rfl (by kernel_rfl) (by kernel_rfl) (by kernel_rfl) (fun _ _ _ h => h) (yieldsIf_load1 (by rfl) _ _ rfl _ _ rfl oneO60 _ (fun w hSw => by rw [SV.cell hSw (by decide), o2.h.m.ptr])) HH.out ?_
  change wpAnyH _ _ _ _ _ _ _ (Act.put _ (some 132) _) _
  simp only [Act.put, List.setIfInBounds_toArray, List.set_cons_zero, List.set_cons_succ]
  refine wpAnyH_take (i := 4) (v := ?_) rfl (by kernel_rfl) (by kernel_rfl) (by kernel_rfl) (fun _ _ _ h => h) (Or.inl ⟨by rfl, ?_⟩) HH.out ?_
  rotate_left
  · intro w hSw; go_simp; try with_reducible rfl
  change wpAnyH _ _ _ _ _ _ _ (Act.put _ (some 133) _) _
  simp only [Act.put, List.setIfInBounds_toArray, List.set_cons_zero, List.set_cons_succ]
  refine wpAnyH_take (i := 5) rfl (by kernel_rfl) (by kernel_rfl) (by kernel_rfl) (fun _ _ _ h => h) (yields_A (by rfl) rfl rfl (fun w hSw => SV.box hSw (o2.bT.ext hW0) o2.oT) o2.hT.from_ o2.hT.fLt (by decide)) HH.out ?_
  change wpAnyH _ _ _ _ _ _ _ (Act.put _ (some 134) _) _
  simp only [Act.put, List.setIfInBounds_toArray, List.set_cons_zero, List.set_cons_succ]
  refine wpAnyH_ready (rs := [6]) (by kernel_rfl) (by simp) ?_
  refine AllReadyH.cons rfl (fun K hK => ?_) AllReadyH.nil
  go_simp
  go_at_call 109; refine (HP _ (hW0.trans (by (repeat (first | with_reducible exact Ext.refl _ | with_reducible assumption | refine Ext.trans ?_ (by with_reducible assumption) | refine Ext.alloc ?_ _ _ | refine Ext.drew ?_ | refine Ext.drewN ?_ _))))).mono ?_; rintro e W3 ⟨rfl, own3, c3, V3, h3, k3, hr3, gw⟩
  refine hK.out _ _ ?_ (fun hHeld => ?_)
  · first | exact ⟨own3, c3, (VStep.ext (by (repeat (first | with_reducible exact Ext.refl _ | with_reducible assumption | refine Ext.trans ?_ (by with_reducible assumption) | refine Ext.alloc ?_ _ _ | refine Ext.drew ?_ | refine Ext.drewN ?_ _)))).trans k3, h3.v.blk⟩ | exact HH.out.ext he
  clear hK K HH
  have HH : Hid (SV own2 g c2 W0 _) := hHeld
  clear hHeld
  refine wpAnyH_done (by kernel_rfl) ?_ _
  have k3' : VStep own2 W2 c2 own3 W3 c3 := (VStep.ext (hW0.trans (by (repeat (first | with_reducible exact Ext.refl _ | with_reducible assumption | refine Ext.trans ?_ (by with_reducible assumption) | refine Ext.alloc ?_ _ _ | refine Ext.drew ?_ | refine Ext.drewN ?_ _))))).trans k3
  have o3 := o2.step h3 k3'
  have g3 : V.Grew V3 3 3 0 0 0 0 := g2.trans gw
  have kk3 := kk2.trans k3'
  clear h3 k3 gw HP HH hW0 o2 k3' hr2 g2 kk2
  go_upto_region 24 with (fail)
  have HP := fun W' (hW : Ext W3 W') => eWarmG (n := 8 + N) (o3.h.ext hW) (hr3.le (by omega)) o3.h.m.env.cLt
  refine w_ext ?_
  rintro W0 hW0
  refine wp_region_held_drew (S := fun w' => SV own3 g c3 W0 w') (by kernel_rfl) (SV.start (o3.h.v.blk.ext hW0) (Ext.refl _).drew) (fun hHeld => ?_)
  have HH : Hid (SV own3 g c3 W0 _) := hHeld
  clear hHeld
  refine wpAnyH_take (i := 0) (v := ?_) rfl (by kernel_rfl) (by kernel_rfl) (by kernel_rfl) (fun _ _ _ h => h) (Or.inl ⟨by rfl, ?_⟩) HH.out ?_
  rotate_left
  · intro w hSw; go_simp; try with_reducible rfl
  change wpAnyH _ _ _ _ _ _ _ (Act.put _ (some 136) _) _
  simp only [Act.put, List.setIfInBounds_toArray, List.set_cons_zero, List.set_cons_succ]
  refine wpAnyH_take (i := 1) (v := ?_) rfl (by kernel_rfl) (by kernel_rfl) (by kernel_rfl) (fun _ _ _ h => h) (Or.inl ⟨by rfl, ?_⟩) HH.out ?_
  rotate_left
  · intro w hSw; go_simp; try with_reducible rfl
  change wpAnyH _ _ _ _ _ _ _ (Act.put _ (some 137) _) _
  simp only [Act.put, List.setIfInBounds_toArray, List.set_cons_zero, List.set_cons_succ]
  refine wpAnyH_take (i := 2) (v := ?_) rfl (by kernel_rfl) (by kernel_rfl) (by kernel_rfl) (fun _ _ _ h => h) (Or.inl ⟨by rfl, ?_⟩) HH.out ?_
  rotate_left
  · intro w hSw; go_simp; try with_reducible rfl
  change wpAnyH _ _ _ _ _ _ _ (Act.put _ (some 138) _) _
  simp only [Act.put, List.setIfInBounds_toArray, List.set_cons_zero, List.set_cons_succ]
  refine wpAnyH_take (i := 3) rfl (by kernel_rfl) (by kernel_rfl) (by kernel_rfl) (fun _ _ _ h => h) (yieldsIf_load1 (by rfl) _ _ rfl _ _ rfl oneO60 _ (fun w hSw => by rw [SV.cell hSw (by decide), o3.h.m.ptr])) HH.out ?_
  change wpAnyH _ _ _ _ _ _ _ (Act.put _ (some 139) _) _
  simp only [Act.put, List.setIfInBounds_toArray, List.set_cons_zero, List.set_cons_succ]
  refine wpAnyH_take (i := 4) (v := ?_) rfl (by kernel_rfl) (by kernel_rfl) (by kernel_rfl) (fun _ _ _ h => h) (Or.inl ⟨by rfl, ?_⟩) HH.out ?_
  rotate_left
  · intro w hSw; go_simp; try with_reducible rfl
  change wpAnyH _ _ _ _ _ _ _ (Act.put _ (some 140) _) _
  simp only [Act.put, List.setIfInBounds_toArray, List.set_cons_zero, List.set_cons_succ]
  refine wpAnyH_take (i := 5) (v := ?_) rfl (by kernel_rfl) (by kernel_rfl) (by kernel_rfl) (fun _ _ _ h => h) (Or.inl ⟨by rfl, ?_⟩) HH.out ?_
  rotate_left
  · intro w hSw; go_simp; try with_reducible rfl
  change wpAnyH _ _ _ _ _ _ _ (Act.put _ (some 141) _) _
  simp only [Act.put, List.setIfInBounds_toArray, List.set_cons_zero, List.set_cons_succ]
  refine wpAnyH_take (i := 6) (v := ?_) rfl (by kernel_rfl) (by kernel_rfl) (by kernel_rfl) (fun _ _ _ h => h) (Or.inl ⟨by rfl, ?_⟩) HH.out ?_
  rotate_left
  · intro w hSw; go_simp; try with_reducible rfl
  change wpAnyH _ _ _ _ _ _ _ (Act.put _ (some 142) _) _
  simp only [Act.put, List.setIfInBounds_toArray, List.set_cons_zero, List.set_cons_succ]
  refine wpAnyH_take (i := 7) (v := ?_) rfl (by kernel_rfl) (by kernel_rfl) (by kernel_rfl) (fun _ _ _ h => h) (Or.inl ⟨by rfl, ?_⟩) HH.out ?_
  rotate_left
  · intro w hSw; go_simp; try with_reducible rfl
  change wpAnyH _ _ _ _ _ _ _ (Act.put _ (some 143) _) _
  simp only [Act.put, List.setIfInBounds_toArray, List.set_cons_zero, List.set_cons_succ]
  refine wpAnyH_take (i := 8) rfl (by kernel_rfl) (by kernel_rfl) (by kernel_rfl) (fun _ _ _ h => h) (yieldsS_A (by rfl) rfl rfl (fun w hSw j hj => SV.cell hSw (by omega)) o3.h.m.env.coinbase o3.h.m.env.cLt) HH.out ?_
  change wpAnyH _ _ _ _ _ _ _ (Act.put _ (some 144) _) _
  simp only [Act.put, List.setIfInBounds_toArray, List.set_cons_zero, List.set_cons_succ]
  refine wpAnyH_ready (rs := [9]) (by kernel_rfl) (by simp) ?_
  refine AllReadyH.cons rfl (fun K hK => ?_) AllReadyH.nil
  go_simp
  go_at_call 109; refine (HP _ (hW0.trans (by (repeat (first | with_reducible exact Ext.refl _ | with_reducible assumption | refine Ext.trans ?_ (by with_reducible assumption) | refine Ext.alloc ?_ _ _ | refine Ext.drew ?_ | refine Ext.drewN ?_ _))))).mono ?_; rintro e W4 ⟨rfl, own4, c4, V4, h4, k4, hr4, gw⟩
  refine hK.out _ _ ?_ (fun hHeld => ?_)
  · first | exact ⟨own4, c4, (VStep.ext (by (repeat (first | with_reducible exact Ext.refl _ | with_reducible assumption | refine Ext.trans ?_ (by with_reducible assumption) | refine Ext.alloc ?_ _ _ | refine Ext.drew ?_ | refine Ext.drewN ?_ _)))).trans k4, h4.v.blk⟩ | exact HH.out.ext he
  clear hK K HH
  have HH : Hid (SV own3 g c3 W0 _) := hHeld
  clear hHeld
  refine wpAnyH_done (by kernel_rfl) ?_ _
  have k4' : VStep own3 W3 c3 own4 W4 c4 := (VStep.ext (hW0.trans (by (repeat (first | with_reducible exact Ext.refl _ | with_reducible assumption | refine Ext.trans ?_ (by with_reducible assumption) | refine Ext.alloc ?_ _ _ | refine Ext.drew ?_ | refine Ext.drewN ?_ _))))).trans k4
  have o4 := o3.step h4 k4'
  have g4 : V.Grew V4 4 4 0 0 0 0 := g3.trans gw
  have kk4 := kk3.trans k4'
  clear h4 k4 gw HP HH hW0 o3 k4' hr3 g3 kk3
  go_upto_region 25 with (fail)
  have HP := fun W' (hW : Ext W4 W') => eWarmG (n := 7 + N) (o4.h.ext hW) (hr4.le (by omega)) htg
  refine w_ext ?_
  rintro W0 hW0
  refine wp_region_held_drew (S := fun w' => SV own4 g c4 W0 w') (by kernel_rfl) (SV.start (o4.h.v.blk.ext hW0) (Ext.refl _).drew) (fun hHeld => ?_)
  have HH : Hid (SV own4 g c4 W0 _) := hHeld
  clear hHeld
  refine wpAnyH_take (i := 0) (v := ?_) rfl (by kernel_rfl) (by kernel_rfl) (by kernel_rfl) (fun _ _ _ h => h) (Or.inl ⟨by rfl, ?_⟩) HH.out ?_
  rotate_left
  · intro w hSw; go_simp; try with_reducible rfl
  change wpAnyH _ _ _ _ _ _ _ (Act.put _ (some 146) _) _
  simp only [Act.put, List.setIfInBounds_toArray, List.set_cons_zero, List.set_cons_succ]
  refine wpAnyH_take (i := 1) (v := ?_) rfl (by kernel_rfl) (by kernel_rfl) (by kernel_rfl) (fun _ _ _ h => h) (Or.inl ⟨by rfl, ?_⟩) HH.out ?_
  rotate_left
  · intro w hSw; go_simp; try with_reducible rfl
  change wpAnyH _ _ _ _ _ _ _ (Act.put _ (some 147) _) _
  simp only [Act.put, List.setIfInBounds_toArray, List.set_cons_zero, List.set_cons_succ]
  refine wpAnyH_take (i := 2) (v := ?_) rfl (by kernel_rfl) (by kernel_rfl) (by kernel_rfl) (fun _ _ _ h => h) (Or.inl ⟨by rfl, ?_⟩) HH.out ?_
  rotate_left
  · intro w hSw; go_simp; try with_reducible rfl
  change wpAnyH _ _ _ _ _ _ _ (Act.put _ (some 148) _) _
  simp only [Act.put, List.setIfInBounds_toArray, List.set_cons_zero, List.set_cons_succ]
  refine wpAnyH_take (i := 3) rfl (by kernel_rfl) (by kernel_rfl) (by kernel_rfl) (fun _ _ _ h => h) (yieldsIf_load1 (by rfl) _ _ rfl _ _ rfl oneO60 _ (fun w hSw => by rw [SV.cell hSw (by decide), o4.h.m.ptr])) HH.out ?_
  change wpAnyH _ _ _ _ _ _ _ (Act.put _ (some 149) _) _
  simp only [Act.put, List.setIfInBounds_toArray, List.set_cons_zero, List.set_cons_succ]
  refine wpAnyH_take (i := 4) rfl (by kernel_rfl) (by kernel_rfl) (by kernel_rfl) (fun _ _ _ h => h) (yields_A (by rfl) rfl rfl (fun w hSw => SV.box hSw (o4.b8.ext hW0) o4.o8) a8 htg (by decide)) HH.out ?_
  change wpAnyH _ _ _ _ _ _ _ (Act.put _ (some 150) _) _
  simp only [Act.put, List.setIfInBounds_toArray, List.set_cons_zero, List.set_cons_succ]
  refine wpAnyH_ready (rs := [5]) (by kernel_rfl) (by simp) ?_
  refine AllReadyH.cons rfl (fun K hK => ?_) AllReadyH.nil
  go_simp
  go_at_call 109; refine (HP _ (hW0.trans (by (repeat (first | with_reducible exact Ext.refl _ | with_reducible assumption | refine Ext.trans ?_ (by with_reducible assumption) | refine Ext.alloc ?_ _ _ | refine Ext.drew ?_ | refine Ext.drewN ?_ _))))).mono ?_; rintro e W5 ⟨rfl, own5, c5, V5, h5, k5, hr5, gw⟩
  refine hK.out _ _ ?_ (fun hHeld => ?_)
  · first | exact ⟨own5, c5, (VStep.ext (by (repeat (first | with_reducible exact Ext.refl _ | with_reducible assumption | refine Ext.trans ?_ (by with_reducible assumption) | refine Ext.alloc ?_ _ _ | refine Ext.drew ?_ | refine Ext.drewN ?_ _)))).trans k5, h5.v.blk⟩ | exact HH.out.ext he
  clear hK K HH
  have HH : Hid (SV own4 g c4 W0 _) := hHeld
  clear hHeld
  refine wpAnyH_done (by kernel_rfl) ?_ _
  have k5' : VStep own4 W4 c4 own5 W5 c5 := (VStep.ext (hW0.trans (by (repeat (first | with_reducible exact Ext.refl _ | with_reducible assumption | refine Ext.trans ?_ (by with_reducible assumption) | refine Ext.alloc ?_ _ _ | refine Ext.drew ?_ | refine Ext.drewN ?_ _))))).trans k5
  have o5 := o4.step h5 k5'
  have g5 : V.Grew V5 5 5 0 0 0 0 := g4.trans gw
  have kk5 := kk4.trans k5'
  clear h5 k5 gw HP HH hW0 o4 k5' hr4 g4 kk4
  go_upto_region 26 with (fail)
  have HP := fun W' (hW : Ext W5 W') => eWarmG (n := 6 + N) (o5.h.ext hW) (hr5.le (by omega)) (show 4 < 2 ^ 160 by decide)
  go_upto_region 27 with (first | ((with_reducible (refine Veil.out ?_; apply wl_loadC oneO60)); (case hw => rfl); (case hx => rfl); (case hc => exact (o5.h.v.blk.cell (i := 0) (by decide)).trans (congrArg some o5.h.m.ptr))) | ((with_reducible (refine Veil.out ?_; apply wl_buildV (b25o 4 (by decide)))); (case he => rfl)) | (go_at_call 109; refine (HP _ (by (repeat (first | with_reducible exact Ext.refl _ | with_reducible assumption | refine Ext.trans ?_ (by with_reducible assumption) | refine Ext.alloc ?_ _ _ | refine Ext.drew ?_ | refine Ext.drewN ?_ _)))).mono ?_; rintro e W6 ⟨rfl, own6, c6, V6, h6, k6, hr6, gw⟩))
  have k6' : VStep own5 W5 c5 own6 W6 c6 := (VStep.ext (by (repeat (first | with_reducible exact Ext.refl _ | with_reducible assumption | refine Ext.trans ?_ (by with_reducible assumption) | refine Ext.alloc ?_ _ _ | refine Ext.drew ?_ | refine Ext.drewN ?_ _)))).trans k6
  have o6 := o5.step h6 k6'
  have g6 : V.Grew V6 6 6 0 0 0 0 := g5.trans gw
  have kk6 := kk5.trans k6'
  clear h6 k6 gw HP  o5 k6' hr5 g5 kk5
  have HP := fun W' (hW : Ext W6 W') => eWarmG (n := 5 + N) (o6.h.ext hW) (hr6.le (by omega)) (show 5 < 2 ^ 160 by decide)
  go_upto_region 28 with (first | ((with_reducible (refine Veil.out ?_; apply wl_loadC oneO60)); (case hw => rfl); (case hx => rfl); (case hc => exact (o6.h.v.blk.cell (i := 0) (by decide)).trans (congrArg some o6.h.m.ptr))) | ((with_reducible (refine Veil.out ?_; apply wl_buildV (b25o 5 (by decide)))); (case he => rfl)) | (go_at_call 109; refine (HP _ (by (repeat (first | with_reducible exact Ext.refl _ | with_reducible assumption | refine Ext.trans ?_ (by with_reducible assumption) | refine Ext.alloc ?_ _ _ | refine Ext.drew ?_ | refine Ext.drewN ?_ _)))).mono ?_; rintro e W7 ⟨rfl, own7, c7, V7, h7, k7, hr7, gw⟩))
  have k7' : VStep own6 W6 c6 own7 W7 c7 := (VStep.ext (by (repeat (first | with_reducible exact Ext.refl _ | with_reducible assumption | refine Ext.trans ?_ (by with_reducible assumption) | refine Ext.alloc ?_ _ _ | refine Ext.drew ?_ | refine Ext.drewN ?_ _)))).trans k7
  have o7 := o6.step h7 k7'
  have g7 : V.Grew V7 7 7 0 0 0 0 := g6.trans gw
  have kk7 := kk6.trans k7'
  clear h7 k7 gw HP  o6 k7' hr6 g6 kk6
  have kacc := o7.hT.access
  obtain ⟨va, hva⟩ : ∃ z, Hid (cf r 173 = z) := ⟨_, rfl⟩
  rw [hva.out] at kacc
  have ova := kacc.one'
  have HP := fun W' (hW : Ext W7 W') => eWarmListG (n := 5) (o7.h.ext hW) ((VStep.ext (own := own7) (c := c7) hW).el kacc (R' := AcC (Mu own7) W') (fun _ _ _ q => ⟨q.addr, q.aLt, q.keys.ext hW⟩)) hlen hkey (by rw [hN.out]; exact hr7)
  refine w_ext ?_
  rintro W0 hW0
  refine wp_region_held_drew (S := fun w' => SV own7 g c7 W0 w') (by kernel_rfl) (SV.start (o7.h.v.blk.ext hW0) (Ext.refl _).drew) (fun hHeld => ?_)
  have HH : Hid (SV own7 g c7 W0 _) := hHeld
  clear hHeld
  refine wpAnyH_take (i := 0) (v := ?_) rfl (by kernel_rfl) (by kernel_rfl) (by kernel_rfl) (fun _ _ _ h => h) (Or.inl ⟨by rfl, ?_⟩) HH.out ?_
  rotate_left
  · intro w hSw; go_simp; try with_reducible rfl
  change wpAnyH _ _ _ _ _ _ _ (Act.put _ (some 164) _) _
  simp only [Act.put, List.setIfInBounds_toArray, List.set_cons_zero, List.set_cons_succ]
  refine wpAnyH_take (i := 1) (v := ?_) rfl (by kernel_rfl) (by kernel_rfl) (by kernel_rfl) (fun _ _ _ h => h) (Or.inl ⟨by rfl, ?_⟩) HH.out ?_
  rotate_left
  · intro w hSw; go_simp; try with_reducible rfl
  change wpAnyH _ _ _ _ _ _ _ (Act.put _ (some 165) _) _
  simp only [Act.put, List.setIfInBounds_toArray, List.set_cons_zero, List.set_cons_succ]
  refine wpAnyH_take (i := 2) (v := ?_) rfl (by kernel_rfl) (by kernel_rfl) (by kernel_rfl) (fun _ _ _ h => h) (Or.inl ⟨by rfl, ?_⟩) HH.out ?_
  rotate_left
  · intro w hSw; go_simp; try with_reducible rfl
  change wpAnyH _ _ _ _ _ _ _ (Act.put _ (some 166) _) _
  simp only [Act.put, List.setIfInBounds_toArray, List.set_cons_zero, List.set_cons_succ]
  refine wpAnyH_take (i := 3) rfl (by kernel_rfl) (by kernel_rfl) (by kernel_rfl) (fun _ _ _ h => h) (yieldsIf_load1 (by rfl) _ _ rfl _ _ rfl oneO60 _ (fun w hSw => by rw [SV.cell hSw (by decide), o7.h.m.ptr])) HH.out ?_
  change wpAnyH _ _ _ _ _ _ _ (Act.put _ (some 167) _) _
  simp only [Act.put, List.setIfInBounds_toArray, List.set_cons_zero, List.set_cons_succ]
  refine wpAnyH_take (i := 4) (v := ?_) rfl (by kernel_rfl) (by kernel_rfl) (by kernel_rfl) (fun _ _ _ h => h) (Or.inl ⟨by rfl, ?_⟩) HH.out ?_
  rotate_left
  · intro w hSw; go_simp; try with_reducible rfl
  change wpAnyH _ _ _ _ _ _ _ (Act.put _ (some 168) _) _
  simp only [Act.put, List.setIfInBounds_toArray, List.set_cons_zero, List.set_cons_succ]
  refine wpAnyH_take (i := 5) rfl (by kernel_rfl) (by kernel_rfl) (by kernel_rfl) (fun _ _ _ h => h) (yieldsIf_load1 (by rfl) _ _ rfl _ _ rfl oneO33 _ (fun w hSw => by rw [(SV.box hSw (o7.bT.ext hW0) o7.oT).cell (by decide), hva.out])) HH.out ?_
  change wpAnyH _ _ _ _ _ _ _ (Act.put _ (some 169) _) _
  simp only [Act.put, List.setIfInBounds_toArray, List.set_cons_zero, List.set_cons_succ]
  refine wpAnyH_ready (rs := [6]) (by kernel_rfl) (by simp) ?_
  refine AllReadyH.cons rfl (fun K hK => ?_) AllReadyH.nil
  go_simp
  go_at_call 110; refine (HP _ (hW0.trans (by (repeat (first | with_reducible exact Ext.refl _ | with_reducible assumption | refine Ext.trans ?_ (by with_reducible assumption) | refine Ext.alloc ?_ _ _ | refine Ext.drew ?_ | refine Ext.drewN ?_ _))))).mono ?_; rintro e W8 ⟨rfl, own8, c8x, V8, h8, k8, hr8, gw⟩
  refine hK.out _ _ ?_ (fun hHeld => ?_)
  · first | exact ⟨own8, c8x, (VStep.ext (by (repeat (first | with_reducible exact Ext.refl _ | with_reducible assumption | refine Ext.trans ?_ (by with_reducible assumption) | refine Ext.alloc ?_ _ _ | refine Ext.drew ?_ | refine Ext.drewN ?_ _)))).trans k8, h8.v.blk⟩ | exact HH.out.ext he
  clear hK K HH
  have HH : Hid (SV own7 g c7 W0 _) := hHeld
  clear hHeld
  refine wpAnyH_done (by kernel_rfl) ?_ _
  have k8' : VStep own7 W7 c7 own8 W8 c8x := (VStep.ext (hW0.trans (by (repeat (first | with_reducible exact Ext.refl _ | with_reducible assumption | refine Ext.trans ?_ (by with_reducible assumption) | refine Ext.alloc ?_ _ _ | refine Ext.drew ?_ | refine Ext.drewN ?_ _))))).trans k8
  have o8 := o7.step h8 k8'
  have g8 := g7.trans gw
  have kk8 := kk7.trans k8'
  clear h8 k8 gw HP HH hW0 o7 k8' hr7 g7 kk7 kacc
  go_upto_region 29 with (fail)
  have eA : ({ ({ ({ ({ ({ ({ ({ ({ st with now := st.now.setNonce t.from_ nn } : ASt) with now := (st.now.setNonce t.from_ nn).setBal t.from_ nb } : ASt) with now := ((st.now.setNonce t.from_ nn).setBal t.from_ nb).warm t.from_ } : ASt) with now := (((st.now.setNonce t.from_ nn).setBal t.from_ nb).warm t.from_).warm st.env.coinbase } : ASt) with now := ((((st.now.setNonce t.from_ nn).setBal t.from_ nb).warm t.from_).warm st.env.coinbase).warm tg } : ASt) with now := (((((st.now.setNonce t.from_ nn).setBal t.from_ nb).warm t.from_).warm st.env.coinbase).warm tg).warm 4 } : ASt) with now := ((((((st.now.setNonce t.from_ nn).setBal t.from_ nb).warm t.from_).warm st.env.coinbase).warm tg).warm 4).warm 5 } : ASt) with now := (((((((st.now.setNonce t.from_ nn).setBal t.from_ nb).warm t.from_).warm st.env.coinbase).warm tg).warm 4).warm 5).warmList t.access } : ASt) = { st with now := ((((((((st.now.setNonce t.from_ (t.nonce + 1)).setBal t.from_ (st.now.bal t.from_ - hd)).warm t.from_).warm st.env.coinbase).warm tg).warm 4).warm 5).warmList t.access) } := by
    rw [← hnne.out, ← hnbe.out, ← hble.out]
  have hM := o8.h
  rw [eA] at hM
  refine opTail _ _ _ _ _ _ _ _ _ _ _ _ _ _ _ _ _ _ _ _ _ _ _ _ _ _ _ _ _ _ _ _ _ _ _ _ _ _ _ _ _ _ _ _ _ _ _ _ _ _ _ _ _ _ _ _ _ _ _ _ _ _ _ _ _ _ _ _ _ _ _ _ _ _ _ _ _ _ _ _ _ _ _ _ _ _ _ _ _ _ _ _ _ _ _ _ _ _ _ _ _ _ _ _ _ _ _ _ _ _ _ _ _ _ _ _ _ _ _ _ _ _ _ _ _ _ _ _ _ _ _ _ _ _ _ _ _ _ _ _ _ _ _ _ _ _ _ _ _ _ _ _ _ _ _ _ _ _ _ _ _ _ _ _ _ _ _ _ _ _ _ _ _ _ _ _ _ _ _ _ _ _ _ _ _ _ _ _ _ _ _ _ _ _ _ _ _ _ _ _ _ _ _ _ _ _ _ _ _ _ _ _ _ _ _ _ _ _ _ _ _ _ _ _ _ _ _ _ _ hM hf (by rw [kk8.far _ (Or.inl (by decide))]; exact ktg) o8.bT o8.hT o8.b8 a8 htg hr8 hdl hok0 hok1 hle0 hov0 hle1 hov1 ?_ (by assumption)
  intro w' hfin
  obtain ⟨own', c', V', sn', q1, q2, q3⟩ := hfin
  exact hQ'.out w' ⟨own', c', V', sn', q1, kk8.mstep.trans q2, (g8.trans q3).le (by omega) (by omega) (by omega) (by omega) (by omega) (by omega)⟩
end
end Go.Proofs.YgvahwGreat
