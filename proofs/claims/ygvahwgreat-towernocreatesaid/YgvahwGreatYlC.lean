import Derived.Test.YgvahwGreatYl0
namespace Go.Proofs.YgvahwGreat
open Go.RowKit
set_option linter.unusedSimpArgs false
section
variable {O TL : Nat → Prop} {w : World} {Y F n : Nat} {start : List (Nat × Nat × Nat)} {tot : Nat}
set_option maxRecDepth 100000 in
set_option maxHeartbeats 6400000 in
theorem lvCall {x p : YFrm} {r' : List YFrm} {W WN : YW} {st stP : ASt} {s s1 g2 k j B : Nat} {out o2 : List Nat} {mk : Bool} {cP d dB : Nat → Value} {WP : World} {vo2 vg2 : Value} (K : Act → World → Prop) (R : Ending → World → Prop) (u3 u4 u5 u9 u10 u11 u12 u13 u14 u15 u16 u17 u18 u19 u20 u21 u22 u23 u24 u25 u26 u27 u28 u29 u30 u31 u32 u33 u34 u35 u36 u37 u38 u39 u40 u41 u42 u43 u44 u45 u46 u47 u48 u49 u50 u51 u52 u53 u54 u55 u56 u57 u58 u59 u60 u61 u62 u63 u64 u65 u66 u67 u68 u69 u70 u71 u72 u73 u74 u75 u76 u77 u78 u79 u80 u81 u82 u83 u84 u85 u86 u87 u88 u89 u90 u91 u92 u93 u94 u95 u96 u97 u98 u99 u100 u101 u102 u103 u104 u105 u106 u107 u108 u109 u110 u111 u112 u113 u114 u115 u116 u117 u118 u119 u120 u121 u122 u123 u124 u125 u126 u127 u128 u129 u130 u131 u132 u133 u134 u135 u136 u137 u138 u139 u140 u141 u142 u143 u144 u145 u146 u147 u148 u149 u150 u151 u152 u153 u154 u155 u156 u157 u158 u159 u160 : Value)
    (hok : FOK x.f) (hmk : Hid (createsA x.f.kind = mk)) (hLW : (lvW W x s out).abs = if lvS x.f s out = 0 then (if lvDep x.f s = true ∧ out ≠ [] then st.now.setCode x.f.self out else st.now) else x.f.saved) (eS : Hid (s1 = lvS x.f s out)) (eO : Hid (o2 = lvO x.f s out)) (eG : Hid (g2 = lvG x.f s out)) (eW : Hid (WN = lvW W x s out))
    (hj : Hid (j = r'.length)) (hkj : Hid (k = j + 1)) (hk7 : k < 1000) (hp1 : p.f.gas + x.f.gas ≤ 1048576) (hp2 : p.f.stack.length < 64) (hp3 : p.f.pc < 60000) (hstP : Hid (stP = ({ st with now := WN.abs, ret := o2, frames := p.f :: r'.map (·.f) } : ASt)))
    (hP' : YZ O TL WP Y F n cP d WN start stP tot (p :: r')) (hcP : cP 9 = .slice (some ⟨F, 0, none⟩) (k : Nat) (k : Nat)) (hBY : ¬ B = Y) (hBF : ¬ B = F) (bBP : Blk WP B 60 156 dB) (hselfB : AAt dB 12 x.f.self) (hvo2 : NL O WP vo2 o2) (hg8 : NV O WP vg2 g2) (MP : Mod (· = Y) w WP)
    (hQ : LvQ O TL w Y F n (lvW W x s out) start (st.leave x.f (p.f :: r'.map (·.f)) s out) tot (p :: r') R) (hK : ∀ x y, Code.wp Hvah.prog (ltail 10 (lbody Hvah.f69)) (LQ R) x y → K x y) : Code.wp Hvah.prog (lhead (ltail 9 (lbody Hvah.f69))) (Exit.then K (LQ R)) { tmps := #[.pointer (some ⟨Y, 0, none⟩), .int .u8 (s1 : Nat), vo2, u3, u4, u5, .pointer (some ⟨B, 0, none⟩), vg2, .bool mk, u9, u10, u11, u12, u13, u14, u15, u16, u17, u18, u19, u20, u21, u22, u23, u24, u25, u26, u27, u28, u29, u30, u31, u32, u33, u34, u35, u36, u37, u38, u39, u40, u41, u42, u43, u44, u45, u46, u47, u48, u49, u50, u51, u52, u53, u54, u55, u56, u57, u58, u59, u60, u61, u62, u63, u64, u65, u66, u67, u68, u69, u70, u71, u72, u73, u74, u75, u76, u77, u78, u79, u80, u81, u82, u83, u84, u85, u86, u87, u88, u89, u90, u91, u92, u93, u94, u95, u96, u97, u98, u99, u100, u101, u102, u103, u104, u105, u106, u107, u108, u109, u110, u111, u112, u113, u114, u115, u116, u117, u118, u119, u120, u121, u122, u123, u124, u125, u126, u127, u128, u129, u130, u131, u132, u133, u134, u135, u136, u137, u138, u139, u140, u141, u142, u143, u144, u145, u146, u147, u148, u149, u150, u151, u152, u153, u154, u155, u156, u157, u158, u159, u160], defers := [] } WP := by
  have kn0 : ¬ (k : Int) = 0 := by have := hkj.out; omega
  have kj : IntKind.i64.wrap ((k : Int) - 1) = (j : Int) := by have := hkj.out; rw [IntKind.wrap_i64]; omega
  have jl : (j : Int) < (k : Int) := by have := hkj.out; omega
  have j0 : (0 : Int) ≤ (j : Int) := by omega
  have X0 := hP'.top
  rw [← hj.out] at X0
  have X0' := X0
  have hn2 := X0.hq
  have bP := hP'.bY
  clear X0
  simp only [ltail, lhead, lbody, Hvah.f69] at hK ⊢
  unfold LQ at hK ⊢
  refine w_ext ?_
  rintro W0 hW0
  refine wp_region_held_drew (S := fun w' => Ext W0 w') (by kernel_rfl) (Ext.refl _).drew (fun hHeld => ?_)
  have HH : Hid (Ext W0 _) := hHeld
  clear hHeld
  refine wpAnyH_take (i := 0) (v := ?_) rfl (by kernel_rfl) (by kernel_rfl) (by kernel_rfl) (fun _ _ _ h => h) (Or.inl ⟨by rfl, ?_⟩) HH.out ?_
  rotate_left
  · intro w hSw; go_simp; try with_reducible rfl
  change wpAnyH _ _ _ _ _ _ _ (Act.put _ (some 111) _) _
  simp only [Act.put, List.setIfInBounds_toArray, List.set_cons_zero, List.set_cons_succ]
  refine wpAnyH_take (i := 1) (v := ?_) rfl (by kernel_rfl) (by kernel_rfl) (by kernel_rfl) (fun _ _ _ h => h) (Or.inl ⟨by rfl, ?_⟩) HH.out ?_
  rotate_left
  · intro w hSw; go_simp; try with_reducible rfl
  change wpAnyH _ _ _ _ _ _ _ (Act.put _ (some 112) _) _
  simp only [Act.put, List.setIfInBounds_toArray, List.set_cons_zero, List.set_cons_succ]
  refine wpAnyH_take (i := 2) (v := ?_) rfl (by kernel_rfl) (by kernel_rfl) (by kernel_rfl) (fun _ _ _ h => h) (Or.inl ⟨by rfl, ?_⟩) HH.out ?_
  rotate_left
  · intro w hSw; go_simp; try with_reducible rfl
  change wpAnyH _ _ _ _ _ _ _ (Act.put _ (some 113) _) _
  simp only [Act.put, List.setIfInBounds_toArray, List.set_cons_zero, List.set_cons_succ]
  refine wpAnyH_take (i := 3) rfl (by kernel_rfl) (by kernel_rfl) (by kernel_rfl) (fun _ _ _ h => h) (yieldsIf_load1 (by rfl) _ _ rfl _ _ rfl onet101l _ (fun w hSw => by rw [(bP.ext (hW0.trans hSw)).cell (by decide), hcP])) HH.out ?_
  change wpAnyH _ _ _ _ _ _ _ (Act.put _ (some 114) _) _
  simp only [Act.put, List.setIfInBounds_toArray, List.set_cons_zero, List.set_cons_succ]
  refine wpAnyH_take (i := 4) (v := ?_) rfl (by kernel_rfl) (by kernel_rfl) (by kernel_rfl) (fun _ _ _ h => h) (Or.inl ⟨by rfl, ?_⟩) HH.out ?_
  rotate_left
  · intro w hSw; go_simp; try with_reducible rfl
  change wpAnyH _ _ _ _ _ _ _ (Act.put _ (some 115) _) _
  simp only [Act.put, List.setIfInBounds_toArray, List.set_cons_zero, List.set_cons_succ]
  refine wpAnyH_take (i := 5) (v := ?_) rfl (by kernel_rfl) (by kernel_rfl) (by kernel_rfl) (fun _ _ _ h => h) (Or.inl ⟨by rfl, ?_⟩) HH.out ?_
  rotate_left
  · intro w hSw; go_simp; try with_reducible rfl
  change wpAnyH _ _ _ _ _ _ _ (Act.put _ (some 116) _) _
  simp only [Act.put, List.setIfInBounds_toArray, List.set_cons_zero, List.set_cons_succ]
  refine wpAnyH_take (i := 6) (v := ?_) rfl (by kernel_rfl) (by kernel_rfl) (by kernel_rfl) (fun _ _ _ h => h) (Or.inl ⟨by rfl, ?_⟩) HH.out ?_
  rotate_left
  · intro w hSw; go_simp; try with_reducible rfl
  change wpAnyH _ _ _ _ _ _ _ (Act.put _ (some 117) _) _
  simp only [Act.put, List.setIfInBounds_toArray, List.set_cons_zero, List.set_cons_succ]
  refine wpAnyH_take (i := 7) rfl (by kernel_rfl) (by kernel_rfl) (by kernel_rfl) (fun _ _ _ h => h) (yieldsIf_load1 (by rfl) _ _ rfl _ _ rfl onet101l _ (fun w hSw => by rw [(bP.ext (hW0.trans hSw)).cell (by decide), hcP])) HH.out ?_
  change wpAnyH _ _ _ _ _ _ _ (Act.put _ (some 118) _) _
  simp only [Act.put, List.setIfInBounds_toArray, List.set_cons_zero, List.set_cons_succ]
  refine wpAnyH_take (i := 8) (v := ?_) rfl (by kernel_rfl) (by kernel_rfl) (by kernel_rfl) (fun _ _ _ h => h) (Or.inl ⟨by rfl, ?_⟩) HH.out ?_
  rotate_left
  · intro w hSw; go_simp; try with_reducible rfl
  change wpAnyH _ _ _ _ _ _ _ (Act.put _ (some 119) _) _
  simp only [Act.put, List.setIfInBounds_toArray, List.set_cons_zero, List.set_cons_succ]
  refine wpAnyH_take (i := 9) (v := ?_) rfl (by kernel_rfl) (by kernel_rfl) (by kernel_rfl) (fun _ _ _ h => h) (Or.inl ⟨by rfl, ?_⟩) HH.out ?_
  rotate_left
  · intro w hSw; go_simp; try with_reducible rfl
  change wpAnyH _ _ _ _ _ _ _ (Act.put _ (some 120) _) _
  simp only [Act.put, List.setIfInBounds_toArray, List.set_cons_zero, List.set_cons_succ]
  refine wpAnyH_take (i := 10) (v := ?_) rfl (by kernel_rfl) (by kernel_rfl) (by kernel_rfl) (fun _ _ _ h => h) (Or.inl ⟨by rfl, ?_⟩) HH.out ?_
  rotate_left
  · intro w hSw; go_simp; try with_reducible rfl
  change wpAnyH _ _ _ _ _ _ _ (Act.put _ (some 121) _) _
  simp only [Act.put, List.setIfInBounds_toArray, List.set_cons_zero, List.set_cons_succ]
  refine wpAnyH_take (i := 11) (v := ?_) rfl (by kernel_rfl) (by kernel_rfl) (by kernel_rfl) (fun _ _ _ h => h) (Or.inl ⟨by rfl, ?_⟩) HH.out ?_
  rotate_left
  · intro w hSw; go_simp; try with_reducible rfl
  change wpAnyH _ _ _ _ _ _ _ (Act.put _ (some 10) _) _
  simp only [Act.put, List.setIfInBounds_toArray, List.set_cons_zero, List.set_cons_succ]
  refine wpAnyH_done (by kernel_rfl) ?_ _
  have E23 := hW0.trans HH.out
  have X1 := X0'.ext E23
  have hg1 := hg8.ext E23
  have hvo3 := hvo2.ext E23
  have bB1 := bBP.ext E23
  clear HH hW0
  have hgl : g2 ≤ x.f.gas := by rw [eG.out]; exact lvG_le _ _ _
  have hgx := hok.gas
  have hdg1 : dl p.f.gas ≤ 2000 := Nat.le_trans (dl_u64 _ (by omega)) (by decide)
  have hdg2 : dl g2 ≤ 2000 := Nat.le_trans (dl_u64 _ (by omega)) (by decide)
  have kp := X1.ok
  have hokG : FOK { p.f with gas := p.f.gas + g2 } := ⟨kp.kind, kp.pre, kp.pc, kp.sLen, kp.sLt, by show p.f.gas + g2 ≤ 1048576; omega, kp.self, kp.caller, kp.value, kp.code, kp.mLen, kp.m32, kp.oLt, kp.lLt, kp.out⟩
  go_upto_region 25 with (first | ((with_reducible (refine Veil.out ?_; apply wl_load1 onet96l)); (case hx => rfl); (case hB => exact X1.bF); (case ho => omega)) | (go_at_call 44; refine (nAdd O _ _ _ _ _ X1.small X1.fc.gas hg1 hdg1 hdg2).mono ?_; rintro e w3 ⟨r3, rfl, hr3, he3⟩) | ((with_reducible (refine Veil.out ?_; apply wl_store1 onet96l)); (case hx => rfl); (case hy => rfl); (case h1 => exact hr3.one); (case hB => exact X1.bF.ext he3); (case ho => omega); rintro WU bU mU))
  have X2 := (X1.ext he3).putGas hr3 mU bU hokG
  obtain ⟨dU, hdU⟩ : ∃ f, Hid (f = updv d (j * 60 + 4) r3) := ⟨_, rfl⟩
  rw [← hdU.out] at X2
  have hdU2 : Hid (∀ i, i ≠ j * 60 + 4 → dU i = d i) := fun i hi => by rw [hdU.out]; exact updv_ne _ _ hi
  clear hdU
  have hsF := X1.hsF
  have hvo4 := (hvo3.ext he3).keep mU hsF
  have bB2 := (bB1.ext he3).mod mU hBF
  have MU : Mod (fun b => b = Y ∨ b = F) w WU := ((((MP.trans_ext E23).trans_ext he3).sub (fun b hb => Or.inl hb)).trans (mU.sub (fun b hb => Or.inr hb)))
  have MU2 : Mod (· = F) WP WU := (((E23.trans he3).mod _).trans mU)
  clear X1 hg1 hvo3 bB1 he3 hg8 hvo2 bBP hr3 hsF
  obtain ⟨fl, hfl⟩ : ∃ v, Hid (v = if s1 = 0 then (if mk then x.f.self else 1) else 0) := ⟨_, rfl⟩
  go_upto_if 132 with (fail)
  go_cut [11] (fun v wx => NV O wx v fl ∧ Ext WU wx)
  case first =>
    have hsm := X2.small
    have HF := fun W' (hW : Ext WU W') => nFromA (hsm.ext hW) (bB2.ext hW) hselfB hok.self (by decide)
    by_cases h0 : s1 = 0
    · have e0 := hfl.out
      rw [if_pos h0] at e0
      subst h0
      cases mk with
      | false =>
        have e1 : fl = 1 := e0
        clear e0 hfl
        subst e1
        go_wp2_with (go_at_call 42; refine (nNum O 1 _ hsm (by decide)).mono ?_; rintro e w4 ⟨r4, rfl, hr4, he4⟩)
        go_meet
        case rel => exact ⟨hr4, he4⟩
      | true =>
        have e1 : fl = x.f.self := e0
        clear e0 hfl
        obtain ⟨sf, hsf⟩ : ∃ v, Hid (x.f.self = v) := ⟨_, rfl⟩
        have e2 : fl = sf := e1.trans hsf.out
        clear e1
        rw [hsf.out] at HF
        subst e2
        go_wp2_with (first | (go_at_call 42; refine (nNum O 1 _ hsm (by decide)).mono ?_; rintro e w4 ⟨r4, rfl, hr4, he4⟩) | (go_at_call 43; refine (HF _ he4).mono ?_; rintro e w5 ⟨r5, rfl, hr5, he5⟩))
        go_meet
        case rel => exact ⟨hr5, he4.trans he5⟩
    · have e0 := hfl.out
      rw [if_neg h0] at e0
      clear hfl
      subst e0
      have h0i : ¬ (s1 : Int) = 0 := by omega
      go_wp2
      go_meet
      case rel => exact ⟨NV.nil, Ext.refl _⟩
  case rest =>
  obtain ⟨hflv, e5⟩ := hcut
  obtain ⟨WV, eWV⟩ : ∃ X, X = wc := ⟨_, rfl⟩
  subst eWV
  have X3 := X2.ext e5
  have hvo5 := hvo4.ext e5
  have MV := MU.trans_ext e5
  have MV2 := MU2.trans_ext e5
  clear X2 hvo4 bB2 MU MU2 e5 bU mU
  obtain ⟨ob, oc, rfl, ho1, ho2, ho3⟩ := id hvo5
  obtain ⟨le, hle⟩ : ∃ v, Hid (o2.length = v) := ⟨_, rfl⟩
  obtain ⟨ol, hol⟩ : ∃ v, Hid (p.f.outLen = v) := ⟨_, rfl⟩
  obtain ⟨nn, hnn⟩ : ∃ v, Hid (min ol le = v) := ⟨_, rfl⟩
  have hnl : nn ≤ le := by rw [← hnn.out]; exact Nat.min_le_right _ _
  rw [hle.out] at ho1
  have hlb : (le : Int) < 9223372036854775808 := by omega
  have hmin : min (ol : Int) (le : Int) = (nn : Int) := by rw [← hnn.out]; omega
  have hlw : IntKind.u64.wrap (le : Int) = (le : Int) := by rw [IntKind.wrap_u64]; omega
  have HSm := fun W' (hW : Ext WV W') => ySmall (X3.fc.outLen.ext hW)
  have hlL := kp.lLt
  rw [hol.out] at HSm hlL
  rw [show (if ol < 18446744073709551616 then ol else 0) = ol from if_pos (by omega)] at HSm
  rw [hle.out]
  go_upto_if 148 with (first | ((with_reducible (refine Veil.out ?_; apply wl_load1 onet96l)); (case hx => rfl); (case hB => exact X3.bF); (case ho => omega)) | (go_at_call 34; refine (HSm _ (Ext.refl _)).mono ?_; rintro e w6 ⟨rfl, e6⟩; have e7 := e6.symm; subst e7))
  obtain ⟨pm, hpm⟩ : ∃ v, Hid (v = if nn = 0 then p.f.mem else writeA p.f.mem p.f.outOff (o2.take nn)) := ⟨_, rfl⟩
  have hlm : pm.length = p.f.mem.length := by
    rw [hpm.out]; split
    · rfl
    · exact writeA_lenl _ _ _
  have hokM : FOK { p.f with gas := p.f.gas + g2, mem := pm } := ⟨kp.kind, kp.pre, kp.pc, kp.sLen, kp.sLt, hokG.gas, kp.self, kp.caller, kp.value, kp.code, by show pm.length ≤ 717280; rw [hlm]; exact kp.mLen, by show pm.length % 32 = 0; rw [hlm]; exact kp.m32, kp.oLt, kp.lLt, fun q => by show _ ≤ pm.length; rw [hlm]; exact kp.out q⟩
  have hnoc : (nn : Int) ≤ (oc : Int) := by omega
  have hsl : NL O WV (.slice ob nn oc) (o2.take nn) := ⟨ob, oc, by rw [List.length_take, hle.out, Nat.min_eq_left hnl], by rw [List.length_take, hle.out, Nat.min_eq_left hnl]; omega, ho2, ho3.take nn⟩
  have hTF : Hid (¬ p.TM F) := fun q => (X3.tm F q).2.2 rfl
  have hTO : Hid (∀ b, ¬ O b → ¬ p.TM b) := fun b hb q => hb (X3.tm b q).1
  have hlmH : Hid (pm.length = p.f.mem.length) := hlm
  clear hlm HSm hmin hlw hlb hlL ho1 ho2 ho3 hvo5
  go_cut [] (fun wx => YX cP O p.TM TL wx Y F (j * 60) n 156 cP dU WN start stP { p.f with gas := p.f.gas + g2, mem := pm } ∧ Mod p.TM WV wx)
  case first =>
    by_cases hn0 : nn = 0
    · have e : pm = p.f.mem := by rw [hpm.out, if_pos hn0]
      have hn0i : ¬ (0 : Int) < (nn : Int) := by omega
      have eH : Hid (pm = p.f.mem) := e
      clear hpm hsl hnn hn0 hnl hnoc e
      go_wp2
      go_meet
      case rel => rw [eH.out]; exact ⟨X3, Mod.refl _ _⟩
    · have e : pm = writeA p.f.mem p.f.outOff (o2.take nn) := by rw [hpm.out, if_neg hn0]
      have hn0i : (0 : Int) < (nn : Int) := by omega
      rw [e] at hokM
      have eH : Hid (pm = writeA p.f.mem p.f.outOff (o2.take nn)) := e
      clear hpm hn0 e
      go_upto_region 32 with (fail)
      refine w_ext ?_
      rintro W0 hW0
      refine wp_region_held_drew (S := fun w' => Mod p.TM W0 w') (by kernel_rfl) (Mod.refl _ _).drew (fun hHeld => ?_)
      have HH : Hid (Mod p.TM W0 _) := hHeld
      clear hHeld
      refine wpAnyH_take (i := 0) (v := ?_) rfl (by kernel_rfl) (by kernel_rfl) (by kernel_rfl) (fun _ _ _ h => h) (Or.inl ⟨by rfl, ?_⟩) HH.out ?_
      rotate_left
      · intro w hSw; go_simp; try with_reducible rfl
      change wpAnyH _ _ _ _ _ _ _ (Act.put _ (some 149) _) _
      simp only [Act.put, List.setIfInBounds_toArray, List.set_cons_zero, List.set_cons_succ]
      refine wpAnyH_take (i := 1) (v := ?_) rfl (by kernel_rfl) (by kernel_rfl) (by kernel_rfl) (fun _ _ _ h => h) (Or.inl ⟨by rfl, ?_⟩) HH.out ?_
      rotate_left
      · intro w hSw; go_simp; try with_reducible rfl
      change wpAnyH _ _ _ _ _ _ _ (Act.put _ (some 150) _) _
      simp only [Act.put, List.setIfInBounds_toArray, List.set_cons_zero, List.set_cons_succ]
      refine wpAnyH_take (i := 2) (v := ?_) rfl (by kernel_rfl) (by kernel_rfl) (by kernel_rfl) (fun _ _ _ h => h) (Or.inl ⟨by rfl, ?_⟩) HH.out ?_
      rotate_left
      · intro w hSw; go_simp; try with_reducible rfl
      change wpAnyH _ _ _ _ _ _ _ (Act.put _ (some 151) _) _
      simp only [Act.put, List.setIfInBounds_toArray, List.set_cons_zero, List.set_cons_succ]
      refine wpAnyH_take (i := 3) (v := ?_) rfl (by kernel_rfl) (by kernel_rfl) (by kernel_rfl) (fun _ _ _ h => h) (Or.inl ⟨by rfl, ?_⟩) HH.out ?_
      rotate_left
      · intro w hSw; go_simp; try with_reducible rfl
      change wpAnyH _ _ _ _ _ _ _ (Act.put _ (some 152) _) _
      simp only [Act.put, List.setIfInBounds_toArray, List.set_cons_zero, List.set_cons_succ]
      refine wpAnyH_take (i := 4) rfl (by kernel_rfl) (by kernel_rfl) (by kernel_rfl) (fun _ _ _ h => h) (yieldsIf_load1 (by rfl) _ _ rfl _ _ rfl onet96l _ (fun w hSw => ((X3.bF.ext hW0).mod hSw hTF.out).cell (by omega))) HH.out ?_
      change wpAnyH _ _ _ _ _ _ _ (Act.put _ (some 153) _) _
      simp only [Act.put, List.setIfInBounds_toArray, List.set_cons_zero, List.set_cons_succ]
      refine wpAnyH_take (i := 5) (v := ?_) rfl (by kernel_rfl) (by kernel_rfl) (by kernel_rfl) (fun _ _ _ h => h) (Or.inl ⟨by rfl, ?_⟩) HH.out ?_
      rotate_left
      · intro w hSw; go_simp; try with_reducible rfl
      change wpAnyH _ _ _ _ _ _ _ (Act.put _ (some 154) _) _
      simp only [Act.put, List.setIfInBounds_toArray, List.set_cons_zero, List.set_cons_succ]
      refine wpAnyH_take (i := 6) (v := ?_) rfl (by kernel_rfl) (by kernel_rfl) (by kernel_rfl) (fun _ _ _ h => h) (Or.inl ⟨by rfl, ?_⟩) HH.out ?_
      rotate_left
      · intro w hSw; go_simp; try with_reducible rfl
      change wpAnyH _ _ _ _ _ _ _ (Act.put _ (some 155) _) _
      simp only [Act.put, List.setIfInBounds_toArray, List.set_cons_zero, List.set_cons_succ]
      refine wpAnyH_take (i := 7) (v := ?_) rfl (by kernel_rfl) (by kernel_rfl) (by kernel_rfl) (fun _ _ _ h => h) (Or.inl ⟨by rfl, ?_⟩) HH.out ?_
      rotate_left
      · intro w hSw; go_simp; try with_reducible rfl
      change wpAnyH _ _ _ _ _ _ _ (Act.put _ (some 156) _) _
      simp only [Act.put, List.setIfInBounds_toArray, List.set_cons_zero, List.set_cons_succ]
      refine wpAnyH_ready (rs := [8]) (by kernel_rfl) (by simp) ?_
      refine AllReadyH.cons rfl (fun K hK => ?_) AllReadyH.nil
      go_simp
      go_at_call 151; refine (xWrite (X3.ext (by (repeat (first | with_reducible exact Ext.refl _ | with_reducible assumption | refine Ext.trans ?_ (by with_reducible assumption) | refine Ext.alloc ?_ _ _ | refine Ext.drew ?_ | refine Ext.drewN ?_ _)))) p.f.outOff (o2.take nn) (X3.fc.outOff.ext (by (repeat (first | with_reducible exact Ext.refl _ | with_reducible assumption | refine Ext.trans ?_ (by with_reducible assumption) | refine Ext.alloc ?_ _ _ | refine Ext.drew ?_ | refine Ext.drewN ?_ _)))) (hsl.ext (by (repeat (first | with_reducible exact Ext.refl _ | with_reducible assumption | refine Ext.trans ?_ (by with_reducible assumption) | refine Ext.alloc ?_ _ _ | refine Ext.drew ?_ | refine Ext.drewN ?_ _)))) hokM).mono ?_; rintro e w8 ⟨rfl, X8, hmY⟩
      refine hK.out _ _ ?_ (fun hHeld => ?_)
      · first | exact HH.out.trans hmY | exact HH.out.trans_ext he | exact HH.out
      clear hK K HH
      have HH : Hid (Mod p.TM W0 _) := hHeld
      clear hHeld
      refine wpAnyH_done (by kernel_rfl) ?_ _
      have m8 : Mod p.TM WV w8 := ((Mod.refl p.TM WV).trans_ext hW0).trans HH.out
      go_wp2
      go_meet
      case rel => rw [eH.out]; exact ⟨X8, m8⟩
  case rest =>
  obtain ⟨X9, m9⟩ := hcut
  obtain ⟨WX, eWX⟩ : ∃ X, X = wc := ⟨_, rfl⟩
  subst eWX
  have hfl9 := hflv.keep m9 hTO.out
  have hflt : fl < P256 := by
    have h1 : x.f.self < P256 := Nat.lt_of_lt_of_le hok.self (by decide)
    rw [hfl.out]; split
    · split
      · exact h1
      · decide
    · decide
  have hokA : FOK (({ p.f with gas := p.f.gas + g2, mem := pm } : AFrame).settle 0 [fl] 1) := ⟨kp.kind, kp.pre, by show p.f.pc + 1 ≤ 60000; omega, by show (fl :: p.f.stack.drop 0).length ≤ 64; simp; omega, fun y hy => by
    have hy2 : y ∈ fl :: p.f.stack := by simpa [AFrame.settle] using hy
    rcases List.mem_cons.1 hy2 with rfl | hy3
    · exact hflt
    · exact kp.sLt y hy3, hokM.gas, kp.self, kp.caller, kp.value, kp.code, hokM.mLen, hokM.m32, kp.oLt, kp.lLt, hokM.out⟩
  go_wp2_with (go_at_call 152; refine (xAnswer X9 0 fl (Nat.zero_le _) hfl9 hokA).mono ?_; rintro e w9 ⟨d9, rfl, X10, m10, hd10⟩)
  have hfin : lvP x.f p.f s out = ({ p.f with gas := p.f.gas + g2, mem := pm } : AFrame).settle 0 [fl] 1 := by
    unfold lvP lvF
    rw [← eO.out, ← eG.out, ← eS.out, hle.out, hol.out, hnn.out, ← hpm.out, hmk.out, ← hfl.out, ← hol.out]
  have MZ : Mod (fun b => b = Y ∨ b = F ∨ p.TM b) w w9 := ((MV.sub (fun b hb => hb.elim Or.inl (fun q => Or.inr (Or.inl q)))).trans (m9.sub (fun b hb => Or.inr (Or.inr hb)))).trans (m10.sub (fun b hb => Or.inr (Or.inl hb)))
  have MZ2 : Mod (fun b => b = Y ∨ b = F ∨ p.TM b ∨ TL b) WP w9 := ((MV2.sub (fun b hb => Or.inr (Or.inl hb))).trans (m9.sub (fun b hb => Or.inr (Or.inr (Or.inl hb))))).trans (m10.sub (fun b hb => Or.inr (Or.inl hb)))
  rw [hj.out] at X10 hd10
  have hdU3 := hdU2.out
  rw [hj.out] at hdU3
  have hZ := hP'.back X10 hP'.wf (fun b _ => Iff.rfl) (fun b q => Or.inl q) (fun b q => Or.inl q) MZ2 (fun i hi => by rw [hd10 i (by omega) (by omega), hdU3 i (by omega)]) rfl (by rw [hstP.out])
  have MO : Mod O w w9 := MZ.sub (fun b hb => by
    rcases hb with rfl | rfl | hb
    · exact hP'.oY
    · exact hP'.oF
    · exact (X3.tm b hb).1)
  have eN : WN.abs = _ := (congrArg YW.abs eW.out).trans hLW
  have e := leave_topE st x.f p.f (r'.map (·.f)) s out eN eO.out hfin.symm
  rw [hstP.out] at hZ
  have hZ2 : ∃ LL, YZ O TL w9 Y F n cP d9 (lvW W x s out) start (st.leave x.f (p.f :: r'.map (·.f)) s out) tot LL ∧ ∀ y ∈ LL, ∃ z ∈ p :: r', y.sv = z.sv := by
    rw [e, ← eW.out]
    refine ⟨_, hZ, fun y hy => ?_⟩
    rcases List.mem_cons.1 hy with rfl | hy
    · exact ⟨p, by simp, rfl⟩
    · exact ⟨y, by simp [hy], rfl⟩
  obtain ⟨LL, hZ3, hL3⟩ := hZ2
  exact bodyPost_end (v := .tuple #[]) (results_none rfl _ _ _) rfl (hQ _ ⟨cP, d9, LL, hZ3, MO, hL3⟩)
end
end Go.Proofs.YgvahwGreat
