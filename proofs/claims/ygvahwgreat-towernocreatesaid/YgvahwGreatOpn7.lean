import Derived.Test.YgvahwGreatOpn5
import Derived.Test.YgvahwGreatOpa
import Derived.Test.YgvahwGreatIc
import Derived.Test.YgvahwGreatPa
namespace Go.Proofs.YgvahwGreat
open Go.RowKit
set_option linter.unusedSimpArgs false
theorem joinO7 {P Fc : World → Prop} {G : Prop} (h : (∀ W, Fc W → P W) → G) (k : ∀ W, Fc W → P W) : G := h k
theorem AAt.farO {c c' : Nat → Value} {o a : Nat} (h : AAt c o a) (ha : a < 2 ^ 160) (hc : ∀ j, o ≤ j → j < o + 20 → c' j = c j) : AAt c' o a := h.same ha (fun j hj => hc _ (by omega) (by omega))
theorem WAt.farO {c c' : Nat → Value} {o a : Nat} (h : WAt c o a) (hc : ∀ j, o ≤ j → j < o + 4 → c' j = c j) : WAt c' o a := ⟨(hc _ (by omega) (by omega)).trans h.c0, (hc _ (by omega) (by omega)).trans h.c1, (hc _ (by omega) (by omega)).trans h.c2, (hc _ (by omega) (by omega)).trans h.c3⟩
theorem rt35h : RowT 40 174 := rowT_of (by kernel_rfl) (by kernel_rfl)
theorem rowOf_txh {r : Array Value} (hr : r.size = 174) : rowOf (cf r) 0 174 = r := by
  apply Array.ext_getElem?
  intro i
  rw [rowOf_get]
  by_cases q : i < 174
  · rw [if_pos q, Nat.zero_add, get_cf (by rw [hr]; exact q)]
  · rw [if_neg q, Array.getElem?_eq_none (by rw [hr]; omega)]
theorem row_blko {W : World} {B n : Nat} {t : TypeId} {r : Array Value} (h : Blk W B n t (cf r)) (hr : r.size = n) : RowIn W B 0 r := fun i u hu => by
  have hi := (Array.getElem?_eq_some_iff.1 hu).1
  rw [Nat.zero_add, h.cell (by omega)]
  have := get_cf hi
  rw [this] at hu
  injection hu with hu
  rw [hu]
section
variable {own : Nat → Nat} {w W : World} {g BT B8 BP tg md pr ap1 : Nat} {na nk ns : Int} {c cX c8 c4 : Nat → Value} {V : EV} {st : ASt} {stale : List Nat} {r : Array Value} {t : ATx}
set_option maxRecDepth 100000 in
set_option maxHeartbeats 6400000 in
theorem opHdB {K : Act → World → Prop} {R : Ending → World → Prop} (u1 u2 u4 u5 u9 u12 u13 u14 u15 u16 u17 u18 u19 u20 u21 u22 u23 u24 u25 u26 u27 u28 u29 u30 u31 u32 u33 u34 u35 u36 u37 u38 u39 u40 u41 u42 u43 u44 u45 u46 u47 u48 u49 u50 u51 u52 u53 u54 u55 u56 u57 u58 u59 u60 u61 u62 u63 u64 u65 u66 u67 u68 u69 u70 u71 u72 u73 u74 u75 u76 u77 u78 u79 u80 u81 u82 u83 u84 u85 u86 u87 u88 u89 u90 u91 u92 u93 u94 u95 u96 u97 u98 u99 u100 u101 u102 u103 u104 u105 u106 u107 u108 u109 u110 u111 u112 u113 u114 u115 u116 u117 u118 u119 u120 u121 u122 u123 u124 u125 u126 u127 u128 u129 u130 u131 u132 u133 u134 u135 u136 u137 u138 u139 u140 u141 u142 u143 u144 u145 u146 u147 u148 u149 u150 u151 u152 u153 u154 u155 u156 u157 u158 u159 u160 u161 u162 u163 u164 u165 u166 u167 u168 u169 u170 u171 u172 u173 u174 u175 u176 u177 u178 u179 u180 u181 u182 u183 u184 u185 u186 u187 u188 u189 u190 u191 u192 u193 u194 u195 u196 u197 u198 u199 u200 u201 u202 u203 u204 u205 u206 u207 u208 u209 u210 u211 u212 u213 u214 u215 u216 u217 u218 u219 u220 u221 u222 u223 u224 u225 u226 u227 u228 u229 u230 u231 u232 : Value) (h : MRep own w g c V st [] stale) (hf : st.frames = []) (hr : r.size = 174) (hT : TxC (Mu own) w (cf r) t) (vk : VOK st t) (ok : OpOK st t tg) (htg : tg < 2 ^ 160) (hor : ∀ a k, (V.sl a k).orig = st.now.slot a k) (hrm : Room V (12 + (t.access.length + keysN t.access)))
    (bg : Blk W g 27024 105 cX) (hfar : ∀ j, j < 2415 ∨ 2435 ≤ j → cX j = c j) (hmd : AAt cX 2415 md) (hml : md < 2 ^ 160) (bT : Blk W BT 174 40 (cf r)) (bP : Blk W BP 4 79 c4) (aP : WAt c4 0 (st.priceOf t)) (b8 : Blk W B8 20 31 c8) (a8 : AAt c8 0 tg) (hM : Mod (fun x => x = g) w W) (gT : w.heap.size ≤ BT) (gP : w.heap.size ≤ BP) (g8 : w.heap.size ≤ B8)
    (e1 : (if t.create then createAddrA t.from_ t.nonce else t.to_) = tg) (e2 : (if t.create then tg else 0) = md)
    (hQ : ∀ w', (∃ own' c' V' sn', MRep own' w' g c' V' (st.begin_ t) sn' stale ∧ MStep own w own' w' ∧ V.Grew V' (12 + (t.access.length + keysN t.access)) (12 + (t.access.length + keysN t.access)) (keysN t.access) 0 0 1) → R (.returned (.int .u8 (0 : Nat))) w')
    (hK : ∀ x y, Code.wp Hvah.prog (otail 9 (obody Hvah.f45)) (OQ R) x y → K x y) : Code.wp Hvah.prog (ohead (otail 8 (obody Hvah.f45))) (Exit.then K (OQ R)) { tmps := #[.pointer (some ⟨g, 0, none⟩), u1, u2, .pointer (some ⟨BT, 0, none⟩), u4, u5, .pointer (some ⟨BP, 0, none⟩), .int .i32 na, .int .i32 nk, u9, .int .i32 ns, .pointer (some ⟨B8, 0, none⟩), u12, u13, u14, u15, u16, u17, u18, u19, u20, u21, u22, u23, u24, u25, u26, u27, u28, u29, u30, u31, u32, u33, u34, u35, u36, u37, u38, u39, u40, u41, u42, u43, u44, u45, u46, u47, u48, u49, u50, u51, u52, u53, u54, u55, u56, u57, u58, u59, u60, u61, u62, u63, u64, u65, u66, u67, u68, u69, u70, u71, u72, u73, u74, u75, u76, u77, u78, u79, u80, u81, u82, u83, u84, u85, u86, u87, u88, u89, u90, u91, u92, u93, u94, u95, u96, u97, u98, u99, u100, u101, u102, u103, u104, u105, u106, u107, u108, u109, u110, u111, u112, u113, u114, u115, u116, u117, u118, u119, u120, u121, u122, u123, u124, u125, u126, u127, u128, u129, u130, u131, u132, u133, u134, u135, u136, u137, u138, u139, u140, u141, u142, u143, u144, u145, u146, u147, u148, u149, u150, u151, u152, u153, u154, u155, u156, u157, u158, u159, u160, u161, u162, u163, u164, u165, u166, u167, u168, u169, u170, u171, u172, u173, u174, u175, u176, u177, u178, u179, u180, u181, u182, u183, u184, u185, u186, u187, u188, u189, u190, u191, u192, u193, u194, u195, u196, u197, u198, u199, u200, u201, u202, u203, u204, u205, u206, u207, u208, u209, u210, u211, u212, u213, u214, u215, u216, u217, u218, u219, u220, u221, u222, u223, u224, u225, u226, u227, u228, u229, u230, u231, u232], defers := [] } W := by
  have hgl : g < w.heap.size := h.v.blk.lt
  have ngT : BT ≠ g := fun q => by omega
  have ngP : BP ≠ g := fun q => by omega
  have ng8 : B8 ≠ g := fun q => by omega
  have hrow := rowOf_txh hr
  obtain ⟨pr, hpr⟩ : ∃ z, Hid (st.priceOf t = z) := ⟨_, rfl⟩
  rw [hpr.out] at aP
  have hprl : pr < P256 := by
    have h1 := price_most vk
    have h2 : t.most < P256 := by unfold ATx.most; split; exact hT.mLt; exact hT.pLt
    rw [hpr.out] at h1; omega
  have hgas := vk.gas
  have hintr := vk.intr
  have hap := vk.ap
  obtain ⟨ga, hga⟩ : ∃ z, Hid (t.gas = z) := ⟨_, rfl⟩
  obtain ⟨it, hit⟩ : ∃ z, Hid (t.intrinsic = z) := ⟨_, rfl⟩
  obtain ⟨tx, htx⟩ : ∃ z, Hid (ga - it = z) := ⟨_, rfl⟩
  obtain ⟨hd, hhd⟩ : ∃ z, Hid (ga * pr = z) := ⟨_, rfl⟩
  obtain ⟨ap1, hap1⟩ : ∃ z, Hid (st.applied + 1 = z) := ⟨_, rfl⟩
  have kgas : cf r 42 = .int .u64 (ga : Nat) := by rw [← hga.out]; exact hT.gas
  have kap : cX 2406 = .int .u8 (st.applied : Nat) := (hfar 2406 (Or.inl (by decide))).trans h.m.applied
  have kfr := hT.from_
  have tF := hT.fLt
  have w1 : IntKind.u8.wrap ((st.applied : Int) + 1) = (ap1 : Int) := by rw [IntKind.wrap_u8, ← hap1.out]; omega
  have w2 : IntKind.u64.wrap ((ga : Int) - (it : Int)) = (tx : Int) := by
    have h1 := htx.out; have h2 := hga.out; have h3 := hit.out
    rw [IntKind.wrap_u64]; omega
  have hgal : ga < 18446744073709551616 := by have := hga.out; omega
  have hgaP : ga < P256 := by rw [P256_eq]; omega
  have hhdl : hd < P256 := by have := ok.lt; rw [hpr.out, hga.out, hhd.out] at this; exact this
  have HMu : ∀ W, Calls Hvah.prog 104 #[.agg #[.int .u64 (ga : Nat), .int .u64 0, .int .u64 0, .int .u64 0], wv pr] W fun e w' => e = .returned (wv hd) ∧ Ext W w' := fun W => by
    have q := uMul ga pr W hgaP hprl
    rw [wv_small hgal, hhd.out, Nat.mod_eq_of_lt hhdl] at q
    exact q
  have hlist : t.access.length ≤ 16 ∧ keysN t.access ≤ 64 := by have := vk.list; unfold ATx.listOK at this; simpa using this
  have HTW : ∀ W', Mod (fun x => x = g) w W' → TxC (Mu own) W' (cf r) t := fun W' hW => TxC.vstep (c := c) (c' := c) ⟨fun _ _ => rfl, fun _ _ => rfl, hW.sub (fun b hb => by
    have hb2 : b = g := hb
    have := h.v.tag
    rw [hb2, this]; decide)⟩ hT
  have HIn := fun W' (hW : Mod (fun x => x = g) w W') => mIntrinsic hr (HTW W' hW) vk.data hlist.1 hlist.2
  rw [hit.out] at HIn
  have hQ' : Hid (∀ w', (∃ own' c' V' sn', MRep own' w' g c' V' (st.begin_ t) sn' stale ∧ MStep own w own' w' ∧ V.Grew V' (12 + (t.access.length + keysN t.access)) (12 + (t.access.length + keysN t.access)) (keysN t.access) 0 0 1) → R (.returned (.int .u8 (0 : Nat))) w') := hQ
  replace hfar := (show Hid _ from hfar)
  replace hor := (show Hid _ from hor)
  replace HTW := (show Hid _ from HTW)
  replace e1 := (show Hid _ from e1)
  replace e2 := (show Hid _ from e2)
  replace h := (show Hid _ from h)
  replace vk := (show Hid _ from vk)
  replace ok := (show Hid _ from ok)
  clear hQ hT hgas hintr hap hlist
  simp only [otail, ohead, obody, Hvah.f45] at hK ⊢
  unfold OQ at hK ⊢
  go_upto_region 13 with ((with_reducible (refine Veil.out ?_; apply wl_storeC oneO21)); (case hx => rfl); (case hy => rfl); (case h1 => rfl); (case hB => exact bg); (case hi => decide); rintro W13 b13 m13)
  go_upto_region 14 with ((with_reducible (refine Veil.out ?_; apply wl_storeC oneO21)); (case hx => rfl); (case hy => rfl); (case h1 => rfl); (case hB => exact b13); (case hi => decide); rintro W14 b14 m14)
  have k14 : updv (updv cX 2413 (.int .i32 na)) 2414 (.int .i32 nk) 2406 = .int .u8 (st.applied : Nat) := by rw [updv_ne _ _ (by decide), updv_ne _ _ (by decide)]; exact kap
  go_upto_region 15 with (first | ((with_reducible (refine Veil.out ?_; apply wl_loadC oneO5)); (case hw => rfl); (case hx => rfl); (case hc => exact (b14.cell (i := 2406) (by decide)).trans (congrArg some k14))) | ((with_reducible (refine Veil.out ?_; apply wl_storeC oneO5)); (case hx => rfl); (case hy => rfl); (case h1 => rfl); (case hB => exact b14); (case hi => decide); rintro W15 b15 m15))
  have m15' := (m13.trans m14).trans m15
  have bT15 := bT.mod m15' ngT
  have bP15 := bP.mod m15' ngP
  have b815 := b8.mod m15' ng8
  clear m13 m14 m15 b13 b14 k14 bT bP b8
  go_upto_region 16 with (first | ((with_reducible (refine Veil.out ?_; apply wl_loadC oneO26)); (case hw => rfl); (case hx => rfl); (case hc => exact (bT15.cell (i := 42) (by decide)).trans (congrArg some kgas))) | ((with_reducible (refine Veil.out ?_; apply wl_storeC oneO26)); (case hx => rfl); (case hy => rfl); (case h1 => rfl); (case hB => exact b15); (case hi => decide); rintro W16 b16 m16))
  change Blk W16 g 27024 105 (updv (updv (updv (updv cX 2413 (.int .i32 na)) 2414 (.int .i32 nk)) 2406 (.int .u8 (ap1 : Nat))) 2407 (.int .u64 (ga : Nat))) at b16
  obtain ⟨c16, hc16⟩ : ∃ z, Hid (updv (updv (updv (updv cX 2413 (.int .i32 na)) 2414 (.int .i32 nk)) 2406 (.int .u8 (ap1 : Nat))) 2407 (.int .u64 (ga : Nat)) = z) := ⟨_, rfl⟩
  rw [hc16.out] at b16
  have M16 : Mod (fun x => x = g) w W16 := (hM.trans m15').trans m16
  have bT16 := bT15.mod m16 ngT
  have bP16 := bP15.mod m16 ngP
  have b816 := b815.mod m16 ng8
  clear m15' m16 b15 bT15 bP15 b815 hM
  refine w_ext ?_
  rintro W0 hW0
  have BTR : ∀ W', Mod (fun x => x = g) W16 W' → RowIn W' BT 0 r := fun W' hW => row_blko (bT16.mod hW ngT) hr
  refine' joinO7 (P := _) (Fc := fun W17 => ∃ c17, Blk W17 g 27024 105 c17 ∧ Hid (c17 = updv c16 2408 (.int .u64 (tx : Nat))) ∧ Mod (fun x => x = g) W16 W17) (fun key => _) _
  rotate_left
  refine wp_region_held_drew (S := fun w' => Mod (fun x => x = g) W0 w') (by kernel_rfl) (Mod.refl _ _).drew (fun hHeld => ?_)
  have HH : Hid (Mod (fun x => x = g) W0 _) := hHeld
  clear hHeld
  refine wpAnyH_take (i := 0) (v := ?_) rfl (by kernel_rfl) (by kernel_rfl) (by kernel_rfl) (fun _ _ _ h => h) (Or.inl ⟨by rfl, ?_⟩) HH.out ?_
  rotate_left
  · intro w hSw; go_simp; try with_reducible rfl
  change wpAnyH _ _ _ _ _ _ _ (Act.put _ (some 72) _) _
  simp only [Act.put, List.setIfInBounds_toArray, List.set_cons_zero, List.set_cons_succ]
  refine wpAnyH_take (i := 1) (v := ?_) rfl (by kernel_rfl) (by kernel_rfl) (by kernel_rfl) (fun _ _ _ h => h) (Or.inl ⟨by rfl, ?_⟩) HH.out ?_
  rotate_left
  · intro w hSw; go_simp; try with_reducible rfl
  change wpAnyH _ _ _ _ _ _ _ (Act.put _ (some 73) _) _
  simp only [Act.put, List.setIfInBounds_toArray, List.set_cons_zero, List.set_cons_succ]
  refine wpAnyH_take (i := 2) rfl (by kernel_rfl) (by kernel_rfl) (by kernel_rfl) (fun _ _ _ h => h) (yieldsIf_load1 (by rfl) _ _ rfl _ _ rfl oneO26 _ (fun w hSw => ((bT16.mod ((hW0.mod _).trans hSw) ngT).cell (by decide)).trans (congrArg some kgas))) HH.out ?_
  change wpAnyH _ _ _ _ _ _ _ (Act.put _ (some 74) _) _
  simp only [Act.put, List.setIfInBounds_toArray, List.set_cons_zero, List.set_cons_succ]
  refine wpAnyH_take (i := 3) rfl (by kernel_rfl) (by kernel_rfl) (by kernel_rfl) (fun _ _ _ h => h) (yields_Re rt35h (by rfl) rfl rfl (fun w hSw => BTR _ ((hW0.mod _).trans hSw)) hr) HH.out ?_
  change wpAnyH _ _ _ _ _ _ _ (Act.put _ (some 75) _) _
  simp only [Act.put, List.setIfInBounds_toArray, List.set_cons_zero, List.set_cons_succ]
  refine wpAnyH_ready (rs := [4]) (by kernel_rfl) (by simp) ?_
  refine AllReadyH.cons rfl (fun K hK => ?_) AllReadyH.nil
  go_simp
  go_at_call 103; refine (HIn _ (M16.trans (Ext.mod (by (repeat (first | with_reducible exact Ext.refl _ | with_reducible assumption | refine Ext.trans ?_ (by with_reducible assumption) | refine Ext.alloc ?_ _ _ | refine Ext.drew ?_ | refine Ext.drewN ?_ _))) _))).mono ?_; rintro e wa ⟨rfl, he⟩
  refine hK.out _ _ ?_ (fun hHeld => ?_)
  · first | exact HH.out.trans hmY | exact HH.out.trans_ext he | exact HH.out
  clear hK K HH
  have HH : Hid (Mod (fun x => x = g) W0 _) := hHeld
  clear hHeld
  refine wpAnyH_take (i := 5) (v := ?_) rfl (by kernel_rfl) (by kernel_rfl) (by kernel_rfl) (fun _ _ _ h => h) (Or.inl ⟨by rfl, ?_⟩) HH.out ?_
  rotate_left
  · intro w hSw; go_simp; try with_reducible rfl
  change wpAnyH _ _ _ _ _ _ _ (Act.put _ (some 77) _) _
  simp only [Act.put, List.setIfInBounds_toArray, List.set_cons_zero, List.set_cons_succ]
  refine wpAnyH_take (i := 6) (v := ?_) rfl (by kernel_rfl) (by kernel_rfl) (by kernel_rfl) (fun _ _ _ h => h) (Or.inl ⟨by rfl, ?_⟩) HH.out ?_
  rotate_left
  · intro w hSw; go_simp; try with_reducible rfl
  change wpAnyH _ _ _ _ _ _ _ (Act.put _ (some 78) _) _
  simp only [Act.put, List.setIfInBounds_toArray, List.set_cons_zero, List.set_cons_succ]
  refine wpAnyH_take (i := 7) (v := ?_) rfl (by kernel_rfl) (by kernel_rfl) (by kernel_rfl) (fun _ _ _ h => h) (Or.inl ⟨by rfl, ?_⟩) HH.out ?_
  rotate_left
  · intro w hSw; go_simp; try with_reducible rfl
  change wpAnyH _ _ _ _ _ _ _ (Act.put _ (some 79) _) _
  simp only [Act.put, List.setIfInBounds_toArray, List.set_cons_zero, List.set_cons_succ]
  refine wpAnyH_ready (rs := [8]) (by kernel_rfl) (by simp) ?_
  refine AllReadyH.cons rfl (fun K hK => ?_) AllReadyH.nil
  refine step_any rfl (op_store1 rfl oneO26 rfl rfl rfl (b16.ext (by (repeat (first | with_reducible exact Ext.refl _ | with_reducible assumption | refine Ext.trans ?_ (by with_reducible assumption) | refine Ext.alloc ?_ _ _ | refine Ext.drew ?_ | refine Ext.drewN ?_ _)))) (by decide) ?_)
  rintro W17 b17 m17
  have m17' : Mod (fun x => x = g) W16 W17 := (Ext.mod (by (repeat (first | with_reducible exact Ext.refl _ | with_reducible assumption | refine Ext.trans ?_ (by with_reducible assumption) | refine Ext.alloc ?_ _ _ | refine Ext.drew ?_ | refine Ext.drewN ?_ _))) _).trans m17
  refine hK.out _ _ (HH.out.trans m17) (fun hHeld => ?_)
  clear hK K HH
  have HH : Hid (Mod (fun x => x = g) W0 _) := hHeld
  clear hHeld
  change wpAnyH _ _ _ _ _ _ _ (Act.put _ none _) _
  simp only [Act.put, List.setIfInBounds_toArray, List.set_cons_zero, List.set_cons_succ]
  refine wpAnyH_done (by kernel_rfl) ?_ _
  exact key W17 ⟨_, b17, (show Hid _ from rfl), m17'⟩
  rintro W17 ⟨c17, b17, hc17, m17⟩
  have M17 := M16.trans m17
  have bT17 := bT16.mod m17 ngT
  have bP17 := bP16.mod m17 ngP
  have b817 := b816.mod m17 ng8
  clear bT16 bP16 b816 m17 b16 HIn M16
  go_upto_region 18 with (first | ((with_reducible (refine Veil.out ?_; apply wl_loadC oneO26)); (case hw => rfl); (case hx => rfl); (case hc => exact (bT17.cell (i := 42) (by decide)).trans (congrArg some kgas))) | ((with_reducible (refine Veil.out ?_; apply wl_loadWB)); (case hx => rfl); (case hB => exact bP17); (case hW => exact aP); (case hi => decide)) | (go_at_call 104; refine (HMu _).mono ?_; rintro e wa ⟨rfl, he⟩) | ((with_reducible (refine Veil.out ?_; apply wl_storeWB)); (case hx => rfl); (case hy => rfl); (case hB => exact b17.ext he); (case hi => decide); rintro W18 c18 b18 a18 n18 m18))
  replace n18 := (show Hid _ from n18)
  have m18' : Mod (fun x => x = g) W17 W18 := (he.mod _).trans m18
  have bP18 := bP17.mod m18' ngP
  clear he b17 m18
  go_upto_region 19 with (first | ((with_reducible (refine Veil.out ?_; apply wl_loadWB)); (case hx => rfl); (case hB => exact bP18); (case hW => exact aP); (case hi => decide)) | ((with_reducible (refine Veil.out ?_; apply wl_storeWB)); (case hx => rfl); (case hy => rfl); (case hB => exact b18); (case hi => decide); rintro W19 c19 b19 a19 n19 m19))
  replace n19 := (show Hid _ from n19)
  have m19' := m18'.trans m19
  have bT19 := bT17.mod m19' ngT
  have b819 := b817.mod m19' ng8
  clear m19 m18' b18 bP18 bP17 bT17 b817
  go_upto_region 20 with (first | ((with_reducible (refine Veil.out ?_; apply wl_loadA)); (case hx => rfl); (case hB => exact bT19); (case hA => exact kfr); (case hs => exact tF); (case ho => decide)) | ((with_reducible (refine Veil.out ?_; apply wl_storeA)); (case hx => rfl); (case hy => rfl); (case hv => exact tF); (case hB => exact b19); (case hi => decide); rintro W20 c20 b20 a20 n20 m20))
  replace n20 := (show Hid _ from n20)
  clear b19
  go_upto_region 21 with ((with_reducible (refine Veil.out ?_; apply wl_storeC oneO32)); (case hx => rfl); (case hy => rfl); (case h1 => rfl); (case hB => exact b20); (case hi => decide); rintro W21 b21 m21)
  change Blk W21 g 27024 105 (updv c20 2259 (.slice none 0 0)) at b21
  have m21' := (m19'.trans m20).trans m21
  have M21 := M17.trans m21'
  have bT21 := bT19.mod (m20.trans m21) ngT
  have b821 := b819.mod (m20.trans m21) ng8
  have far : ∀ i, i ≠ 2259 → (i < 2380 ∨ 2435 ≤ i ∨ i = 2404 ∨ i = 2405) → updv c20 2259 (.slice none 0 0) i = c i := fun i h0 h1 => by
    rw [updv_ne _ _ h0, n20.out i (by omega), n19.out i (by omega), n18.out i (by omega), hc17.out, updv_ne _ _ (by omega), ← hc16.out, updv_ne _ _ (by omega), updv_ne _ _ (by omega), updv_ne _ _ (by omega), updv_ne _ _ (by omega)]
    exact hfar.out i (by omega)
  have k18 : ∀ i, i ≠ 2259 → (i < 2380 ∨ 2404 ≤ i) → (i < 2409 ∨ 2413 ≤ i) → updv c20 2259 (.slice none 0 0) i = c17 i := fun i h0 h1 h2 => by
    rw [updv_ne _ _ h0, n20.out i (by omega), n19.out i (by omega), n18.out i (by omega)]
  have k06 : updv c20 2259 (.slice none 0 0) 2406 = .int .u8 (ap1 : Nat) := by
    rw [k18 2406 (by decide) (by decide) (by decide), hc17.out, updv_ne _ _ (by decide), ← hc16.out, updv_ne _ _ (by decide), updv_same]
  have k07 : updv c20 2259 (.slice none 0 0) 2407 = .int .u64 (ga : Nat) := by
    rw [k18 2407 (by decide) (by decide) (by decide), hc17.out, updv_ne _ _ (by decide), ← hc16.out, updv_same]
  have k08 : updv c20 2259 (.slice none 0 0) 2408 = .int .u64 (tx : Nat) := by
    rw [k18 2408 (by decide) (by decide) (by decide), hc17.out, updv_same]
  have k09 : WAt (updv c20 2259 (.slice none 0 0)) 2409 hd := a18.farO (fun j h1 h2 => by rw [updv_ne _ _ (by omega), n20.out j (by omega), n19.out j (by omega)])
  have k00 : WAt (updv c20 2259 (.slice none 0 0)) 2400 pr := a19.farO (fun j h1 h2 => by rw [updv_ne _ _ (by omega), n20.out j (by omega)])
  have k80 : AAt (updv c20 2259 (.slice none 0 0)) 2380 t.from_ := a20.farO tF (fun j h1 h2 => by rw [updv_ne _ _ (by omega)])
  have k15 : AAt (updv c20 2259 (.slice none 0 0)) 2415 md := hmd.farO hml (fun j h1 h2 => by
    rw [k18 j (by omega) (by omega) (by omega), hc17.out, updv_ne _ _ (by omega), ← hc16.out, updv_ne _ _ (by omega), updv_ne _ _ (by omega), updv_ne _ _ (by omega), updv_ne _ _ (by omega)])
  have k59 : updv c20 2259 (.slice none 0 0) 2259 = .slice none 0 0 := updv_same _ _ _
  obtain ⟨cZ, hcZ⟩ : ∃ z, Hid (updv c20 2259 (.slice none 0 0) = z) := ⟨_, rfl⟩
  rw [hcZ.out] at far k06 k07 k08 k09 k00 k80 k15 k59 b21
  obtain ⟨hH, hS⟩ := MRep.header (ap := ap1) (lm := ga) (tg := tx) (pr := pr) (og := t.from_) (md := md) h.out hf M21 b21 (fun i hi => far i (by omega) (by omega)) k59 k80 tF k00 hprl k06 (by have := hap1.out; have := vk.out.ap; omega) k07 hgal k15 hml hor.out
  have hTf := HTW.out _ M21
  have oT : own BT = 0 := h.out.v.fresh _ gT
  have o8 : own B8 = 0 := h.out.v.fresh _ g8
  have hOS : OS own W21 g cZ V { st with orig := st.now.slot, frames := [], ret := [], applied := ap1, limit := ga, txGas := tx, price := pr, origin := t.from_, made := md } stale BT B8 r t c8 := ⟨hH, bT21, oT, hTf, b821, o8⟩
  have hend := opened_end (st := st) (t := t) (tg := tg) (md := md) (ap1 := ap1) (bl := st.now.bal t.from_) e1.out e2.out hap1.out rfl
  have eo := ASt.opened_eq st t tg
  have ok' := ok.out
  have hle := ok'.le
  have hok0 := ok'.ok0
  have hok1 := ok'.ok1
  have hle0 := ok'.le0
  have hov0 := ok'.ov0
  have hle1 := ok'.le1
  have hov1 := ok'.ov1
  rw [eo] at hok0 hok1 hle0 hov0 hle1 hov1
  rw [hpr.out, hga.out] at hend
  rw [hit.out, htx.out, hhd.out] at hend
  rw [hpr.out, hga.out] at hle hok0 hok1 hle0 hov0 hle1 hov1
  rw [hhd.out] at hle hok0 hok1 hle0 hov0 hle1 hov1
  rw [hit.out, htx.out] at hok0 hok1
  have hlist : t.access.length ≤ 16 ∧ keysN t.access ≤ 64 := by have := vk.out.list; unfold ATx.listOK at this; simpa using this
  have hnon : t.nonce < 18446744073709551615 := by
    have q1 := vk.out.nonce
    have q2 := vk.out.nmax
    have q3 := hTf.nLt
    omega
  have hdat := vk.out.data
  have hQ2 : ∀ w', (∃ own' c' V' sn', MRep own' w' g c' V' (st.begin_ t) sn' stale ∧ MStep own W21 own' w' ∧ V.Grew V' (12 + (t.access.length + keysN t.access)) (12 + (t.access.length + keysN t.access)) (keysN t.access) 0 0 1) → R (.returned (.int .u8 (0 : Nat))) w' := fun w' q => by
    obtain ⟨own', c', V', sn', q1, q2, q3⟩ := q
    exact hQ'.out w' ⟨own', c', V', sn', q1, hS.trans q2, q3⟩
  rw [hend] at hQ2
  refine opMid _ _ _ _ _ _ _ _ _ _ _ _ _ _ _ _ _ _ _ _ _ _ _ _ _ _ _ _ _ _ _ _ _ _ _ _ _ _ _ _ _ _ _ _ _ _ _ _ _ _ _ _ _ _ _ _ _ _ _ _ _ _ _ _ _ _ _ _ _ _ _ _ _ _ _ _ _ _ _ _ _ _ _ _ _ _ _ _ _ _ _ _ _ _ _ _ _ _ _ _ _ _ _ _ _ _ _ _ _ _ _ _ _ _ _ _ _ _ _ _ _ _ _ _ _ _ _ _ _ _ _ _ _ _ _ _ _ _ _ _ _ _ _ _ _ _ _ _ _ _ _ _ _ _ _ _ _ _ _ _ _ _ _ _ _ _ _ _ _ _ _ _ _ _ _ _ _ _ _ _ _ _ _ _ _ _ _ _ _ _ _ _ _ _ _ _ _ _ _ _ _ _ _ _ _ _ _ _ _ _ _ _ _ _ _ _ _ _ _ _ _ _ _ _ _ _ _ _ _ hOS rfl k08 k09 hhdl hle a8 htg hrm hnon hlist.1 hlist.2 (Nat.le_trans hdat (by decide)) hok0 hok1 (fun _ => hle0) (fun _ _ => hov0) (fun _ => hle1) (fun _ _ => hov1) hQ2 (by assumption)
end
end Go.Proofs.YgvahwGreat
