import Derived.Test.YgvahwGreatYb8
import Derived.Test.YgvahwGreatBg0
import Derived.Test.YgvahwGreatTa
import Derived.Test.YgvahwGreatIb
import Derived.Test.YgvahwGreatYf0
namespace Go.Proofs.YgvahwGreat
open Go.RowKit
set_option linter.unusedSimpArgs false
theorem cell_ltb {w : World} {b o : Nat} {v : Value} (h : w.cell? ⟨b, o, none⟩ = some v) : b < w.heap.size := by
  unfold World.cell? at h
  rcases Nat.lt_or_ge b w.heap.size with q | q
  · exact q
  · simp [Array.getElem?_eq_none q] at h
/-- What region 28 leaves alone. -/
def BgS (Y : Nat) (u v : Value) (w0 w : World) : Prop := Mod (fun x => x = Y) w0 w ∧ w.cell? ⟨Y, 14, none⟩ = some u ∧ w.cell? ⟨Y, 17, none⟩ = some v
theorem BgS.ext {Y : Nat} {u v : Value} {w0 w w' : World} (h : BgS Y u v w0 w) (e : Ext w w') : BgS Y u v w0 w' := ⟨h.1.trans_ext e, (e.cell (cell_ltb h.2.1)).trans h.2.1, (e.cell (cell_ltb h.2.2)).trans h.2.2⟩
theorem BgS.drew {Y : Nat} {u v : Value} {w0 w : World} (h : BgS Y u v w0 w) : BgS Y u v w0 w.drew := h.ext (Ext.refl _).drew
theorem meas_lt {n j j2 : Nat} (h9 : j + 1 = j2) (h : j < n) : n - (intOf (.int .i64 (j2 : Nat))).toNat < n - (intOf (.int .i64 (j : Nat))).toNat := by
  simp [intOf]; omega
theorem onet33b : OneT 38 := oneT_of (by kernel_rfl) (by kernel_rfl)
theorem onet29b : OneT 34 := oneT_of (by kernel_rfl) (by kernel_rfl)
def z144r : Array Value := #[.int .u8 0, .int .u8 0, .int .u8 0, .int .u8 0, .int .u8 0, .int .u8 0, .int .u8 0, .int .u8 0, .int .u8 0, .int .u8 0, .int .u8 0, .int .u8 0, .int .u8 0, .int .u8 0, .int .u8 0, .int .u8 0, .int .u8 0, .int .u8 0, .int .u8 0, .int .u8 0, .slice none 0 0]
theorem z144q : zeroOf Hvah.prog 153 = some z144r := by kernel_rfl
theorem b25n (k : Nat) (hk : k = 4 ∨ k = 5) : ∀ w, (Instr.build 31 ([(19, .int .u8 (k : Nat))] : List (Nat × Value)).toArray).run Hvah.prog w = .ok (.agg (av k)) w := by
  rcases hk with rfl | rfl
  · intro w; kernel_rfl
  · intro w; kernel_rfl
theorem EL.sl {α : Type} {sz : Nat} {R : (Nat → Value) → Nat → α → Prop} {O : Nat → Prop} {w : World} {v : Value} {l : List α} (h : EL sz R O w v l) : ∃ o cap, v = .slice o l.length cap ∧ l.length ≤ cap ∧ cap ≤ 9223372036854775807 := by
  rcases h with ⟨rfl, p, rfl⟩ | ⟨b, off, cap, c, h1, h2, h3, _⟩
  · exact ⟨p, 0, rfl, Nat.le_refl _, by decide⟩
  · exact ⟨_, cap, h1, h2, h3⟩
section
variable {O Oz TL : Nat → Prop} {W : World} {Y F n BT BA B8 tg nn bl T S : Nat} {og : Nat → Nat → Nat} {c d cA c8 : Nat → Value} {V : YW} {start : List (Nat × Nat × Nat)} {st : ASt} {tot : Nat} {r : Array Value} {t : ATx}
set_option maxRecDepth 100000 in
set_option maxHeartbeats 6400000 in
theorem bgMid {K : Act → World → Prop} {R : Ending → World → Prop} (u1 u2 u4 u6 u9 u10 u11 u12 u13 u14 u15 u16 u17 u18 u19 u20 u21 u22 u23 u24 u25 u26 u27 u28 u29 u30 u31 u32 u33 u34 u35 u36 u37 u38 u39 u40 u41 u42 u43 u44 u45 u46 u47 u48 u49 u50 u51 u52 u53 u54 u55 u56 u57 u58 u59 u60 u61 u62 u63 u64 u65 u66 u67 u68 u69 u70 u71 u72 u73 u74 u75 u76 u77 u78 u79 u80 u81 u82 u83 u84 u85 u86 u87 u88 u89 u90 u91 u92 u93 u94 u95 u96 u97 u98 u99 u100 u101 u102 u103 u104 u105 u106 u107 u108 u109 u110 u111 u112 u113 u114 u115 u116 u117 u118 u119 u120 u121 u122 u123 u124 u125 u126 u127 u128 u129 u130 u131 u132 u133 u134 u135 u136 u137 u138 u139 u140 u141 u142 u143 u144 u145 u146 u147 u148 u149 u150 u151 u152 u153 u154 u155 u156 u157 u158 u159 u160 u161 u162 u163 u164 u165 u166 u167 u168 u169 u170 u171 u172 u173 u174 u175 u176 u177 u178 u179 u180 u181 u182 u183 u184 u185 u186 u187 u188 u189 u190 u191 u192 u193 u194 u195 u196 u197 u198 u199 u200 u201 u202 u203 u204 u205 u206 u207 u208 u209 u210 u211 u212 u213 u214 u215 u216 u217 u218 u219 u220 u221 u222 u223 u224 u225 u226 u227 u228 u229 u230 u231 u232 u233 u234 u235 u236 u237 u238 u239 u240 u241 u242 u243 u244 u245 u246 u247 u248 u249 u250 u251 u252 u253 u254 u255 u256 u257 u258 u259 u260 u261 u262 u263 u264 u265 u266 u267 u268 u269 u270 : Value) (HLG : ∀ {O T : Nat → Prop} {w : World} {v : Value} {l : List ALog}, Small O w → LogL T O w v l → l.length ≤ 100000 → Calls Hvah.prog 80 #[v] w fun e w' => ∃ r, e = .returned r ∧ GRow 141 22 (LgC O w') (fun b => ¬ O b) w' r l ∧ Full r ∧ Ext w w') (h : YZ O TL W Y F n c d V start st tot []) (bT : Blk W BT 174 40 (cf r)) (hT : TxC Oz W (cf r) t) (nTY : BT ≠ Y) (bA : Blk W BA 24 121 cA) (nA : NV O W (cA 20) nn) (pA : NV O W (cA 21) bl) (nAY : BA ≠ Y) (b8 : Blk W B8 20 31 c8) (a8 : AAt c8 0 tg) (htg : tg < 2 ^ 160) (n8Y : B8 ≠ Y) (hYz : Oz Y) (_hOz : ∀ b, b < W.heap.size → Oz b → O b)
    (hsz : V.siz ≤ 80000) (hTl : T < P256) (hSl : 199 * S < 18446744073709551616) (hnn : nn < 18446744073709551615) (_hbl : bl < P256) (hgas : st.limit ≤ 1048576) (htx : st.txGas ≤ 1048576) (hinit : t.create = true → t.data.length ≤ 512) (hdata : t.data.length ≤ 1024) (hlen : t.access.length ≤ 16) (hkey : keysN t.access ≤ 64)
    (hw1 : WInv T S og (V.setNonce t.from_ (nn + 1)).abs) (hw2 : WInv T S og ((V.setNonce t.from_ (nn + 1)).setBal t.from_ (bl - st.limit * st.price)).abs)
    (hQ : ∀ w' W' L', (∃ O' F' n' c' d', YZ O' TL w' Y F' n' c' d' W' start (bgEnd ({ st with now := (((((((st.now.setNonce t.from_ (nn + 1)).setBal t.from_ (bl - st.limit * st.price)).warm t.from_).warm st.env.coinbase).warm tg).warm 4).warm 5).warmList t.access } : ASt) t tg) tot L' ∧ (∀ b, b < W.heap.size → (O' b ↔ O b)) ∧ Mod (fun b => b = Y ∨ b = F) W w') → W'.siz ≤ V.siz + 100 → (∀ y ∈ L', y.sv.siz ≤ V.siz + 100) → R (.returned (.int .u8 (0 : Nat))) w')
    (hK : ∀ x y, Code.wp Hvah.prog (ltail 16 (bbody Hvah.f29)) (BQ R) x y → K x y) : Code.wp Hvah.prog (lhead (ltail 15 (bbody Hvah.f29))) (Exit.then K (BQ R)) { tmps := #[.pointer (some ⟨Y, 0, none⟩), u1, u2, .pointer (some ⟨BT, 0, none⟩), u4, .pointer (some ⟨Y, 0, none⟩), u6, .pointer (some ⟨BA, 0, none⟩), .pointer (some ⟨B8, 0, none⟩), u9, u10, u11, u12, u13, u14, u15, u16, u17, u18, u19, u20, u21, u22, u23, u24, u25, u26, u27, u28, u29, u30, u31, u32, u33, u34, u35, u36, u37, u38, u39, u40, u41, u42, u43, u44, u45, u46, u47, u48, u49, u50, u51, u52, u53, u54, u55, u56, u57, u58, u59, u60, u61, u62, u63, u64, u65, u66, u67, u68, u69, u70, u71, u72, u73, u74, u75, u76, u77, u78, u79, u80, u81, u82, u83, u84, u85, u86, u87, u88, u89, u90, u91, u92, u93, u94, u95, u96, u97, u98, u99, u100, u101, u102, u103, u104, u105, u106, u107, u108, u109, u110, u111, u112, u113, u114, u115, u116, u117, u118, u119, u120, u121, u122, u123, u124, u125, u126, u127, u128, u129, u130, u131, u132, u133, u134, u135, u136, u137, u138, u139, u140, u141, u142, u143, u144, u145, u146, u147, u148, u149, u150, u151, u152, u153, u154, u155, u156, u157, u158, u159, u160, u161, u162, u163, u164, u165, u166, u167, u168, u169, u170, u171, u172, u173, u174, u175, u176, u177, u178, u179, u180, u181, u182, u183, u184, u185, u186, u187, u188, u189, u190, u191, u192, u193, u194, u195, u196, u197, u198, u199, u200, u201, u202, u203, u204, u205, u206, u207, u208, u209, u210, u211, u212, u213, u214, u215, u216, u217, u218, u219, u220, u221, u222, u223, u224, u225, u226, u227, u228, u229, u230, u231, u232, u233, u234, u235, u236, u237, u238, u239, u240, u241, u242, u243, u244, u245, u246, u247, u248, u249, u250, u251, u252, u253, u254, u255, u256, u257, u258, u259, u260, u261, u262, u263, u264, u265, u266, u267, u268, u269, u270], defers := [] } W := by
  have hfl := hT.fLt
  have hfr := hT.from_
  have hcl := h.env.cLt
  have hpl := h.pLt
  have s1 := (siz_setNonce V t.from_ (nn + 1)).1
  have s2 := (siz_setBal (V.setNonce t.from_ (nn + 1)) t.from_ (bl - st.limit * st.price)).1
  have s3 := (siz_warm ((V.setNonce t.from_ (nn + 1)).setBal t.from_ (bl - st.limit * st.price)) t.from_).1
  have s4 := (siz_warm (((V.setNonce t.from_ (nn + 1)).setBal t.from_ (bl - st.limit * st.price)).warm t.from_) st.env.coinbase).1
  have s5 := (siz_warm ((((V.setNonce t.from_ (nn + 1)).setBal t.from_ (bl - st.limit * st.price)).warm t.from_).warm st.env.coinbase) tg).1
  have s6 := (siz_warm (((((V.setNonce t.from_ (nn + 1)).setBal t.from_ (bl - st.limit * st.price)).warm t.from_).warm st.env.coinbase).warm tg) 4).1
  have s7 := (siz_warm ((((((V.setNonce t.from_ (nn + 1)).setBal t.from_ (bl - st.limit * st.price)).warm t.from_).warm st.env.coinbase).warm tg).warm 4) 5).1
  have wi3 : WInv T S og (((V.setNonce t.from_ (nn + 1)).setBal t.from_ (bl - st.limit * st.price)).warm t.from_).abs := by rw [YW.warm_abs]; exact hw2.warm _
  have wi4 : WInv T S og ((((V.setNonce t.from_ (nn + 1)).setBal t.from_ (bl - st.limit * st.price)).warm t.from_).warm st.env.coinbase).abs := by rw [YW.warm_abs]; exact wi3.warm _
  have wi5 : WInv T S og (((((V.setNonce t.from_ (nn + 1)).setBal t.from_ (bl - st.limit * st.price)).warm t.from_).warm st.env.coinbase).warm tg).abs := by rw [YW.warm_abs]; exact wi4.warm _
  have wi6 : WInv T S og ((((((V.setNonce t.from_ (nn + 1)).setBal t.from_ (bl - st.limit * st.price)).warm t.from_).warm st.env.coinbase).warm tg).warm 4).abs := by rw [YW.warm_abs]; exact wi5.warm _
  have wi7 : WInv T S og (((((((V.setNonce t.from_ (nn + 1)).setBal t.from_ (bl - st.limit * st.price)).warm t.from_).warm st.env.coinbase).warm tg).warm 4).warm 5).abs := by rw [YW.warm_abs]; exact wi6.warm _
  have l1 : YLim (V.setNonce t.from_ (nn + 1)) := YLim.inv (by omega) hw1 hTl hSl
  have l2 : YLim ((V.setNonce t.from_ (nn + 1)).setBal t.from_ (bl - st.limit * st.price)) := YLim.inv (by omega) hw2 hTl hSl
  have l3 : YLim (((V.setNonce t.from_ (nn + 1)).setBal t.from_ (bl - st.limit * st.price)).warm t.from_) := YLim.inv (by omega) wi3 hTl hSl
  have l4 : YLim ((((V.setNonce t.from_ (nn + 1)).setBal t.from_ (bl - st.limit * st.price)).warm t.from_).warm st.env.coinbase) := YLim.inv (by omega) wi4 hTl hSl
  have l5 : YLim (((((V.setNonce t.from_ (nn + 1)).setBal t.from_ (bl - st.limit * st.price)).warm t.from_).warm st.env.coinbase).warm tg) := YLim.inv (by omega) wi5 hTl hSl
  have l6 : YLim ((((((V.setNonce t.from_ (nn + 1)).setBal t.from_ (bl - st.limit * st.price)).warm t.from_).warm st.env.coinbase).warm tg).warm 4) := YLim.inv (by omega) wi6 hTl hSl
  have l7 : YLim (((((((V.setNonce t.from_ (nn + 1)).setBal t.from_ (bl - st.limit * st.price)).warm t.from_).warm st.env.coinbase).warm tg).warm 4).warm 5) := YLim.inv (by omega) wi7 hTl hSl
  have hs7 : (((((((V.setNonce t.from_ (nn + 1)).setBal t.from_ (bl - st.limit * st.price)).warm t.from_).warm st.env.coinbase).warm tg).warm 4).warm 5).siz ≤ V.siz + 7 := by omega
  have hdn : dl nn ≤ 2000 := Nat.le_trans (dl_u64 _ (by omega)) (by decide)
  have hd1 : dl 1 ≤ 2000 := Nat.le_trans (dl_u64 _ (by decide)) (by decide)
  have hdg : dl st.limit ≤ 2000 := Nat.le_trans (dl_u64 _ (by omega)) (by decide)
  have hdp : dl st.price ≤ 2000 := Nat.le_trans ((dl_le_iff _ 32).2 (by rw [P256_eq] at hpl; exact hpl)) (by decide)
  simp only [ltail, lhead, bbody, Hvah.f29] at hK ⊢
  unfold BQ at hK ⊢
  have h0 := h
  have M : Mod (· = Y) W W := Mod.refl _ _
  have nA0 := nA
  clear h
  refine w_ext ?_
  rintro W0 hW0
  refine wp_region_held_drew (S := fun w' => Mod (fun x => x = Y) W0 w') (by kernel_rfl) (Mod.refl _ _).drew (fun hHeld => ?_)
  have HH : Hid (Mod (fun x => x = Y) W0 _) := hHeld
  clear hHeld
  refine wpAnyH_take (i := 0) (v := ?_) rfl (by kernel_rfl) (by kernel_rfl) (by kernel_rfl) (fun _ _ _ h => h) (Or.inl ⟨by rfl, ?_⟩) HH.out ?_
  rotate_left
  · intro w hSw; go_simp; try with_reducible rfl
  change wpAnyH _ _ _ _ _ _ _ (Act.put _ (some 125) _) _
  simp only [Act.put, List.setIfInBounds_toArray, List.set_cons_zero, List.set_cons_succ]
  refine wpAnyH_take (i := 1) (v := ?_) rfl (by kernel_rfl) (by kernel_rfl) (by kernel_rfl) (fun _ _ _ h => h) (Or.inl ⟨by rfl, ?_⟩) HH.out ?_
  rotate_left
  · intro w hSw; go_simp; try with_reducible rfl
  change wpAnyH _ _ _ _ _ _ _ (Act.put _ (some 126) _) _
  simp only [Act.put, List.setIfInBounds_toArray, List.set_cons_zero, List.set_cons_succ]
  refine wpAnyH_take (i := 2) (v := ?_) rfl (by kernel_rfl) (by kernel_rfl) (by kernel_rfl) (fun _ _ _ h => h) (Or.inl ⟨by rfl, ?_⟩) HH.out ?_
  rotate_left
  · intro w hSw; go_simp; try with_reducible rfl
  change wpAnyH _ _ _ _ _ _ _ (Act.put _ (some 127) _) _
  simp only [Act.put, List.setIfInBounds_toArray, List.set_cons_zero, List.set_cons_succ]
  refine wpAnyH_take (i := 3) (v := ?_) rfl (by kernel_rfl) (by kernel_rfl) (by kernel_rfl) (fun _ _ _ h => h) (Or.inl ⟨by rfl, ?_⟩) HH.out ?_
  rotate_left
  · intro w hSw; go_simp; try with_reducible rfl
  change wpAnyH _ _ _ _ _ _ _ (Act.put _ (some 128) _) _
  simp only [Act.put, List.setIfInBounds_toArray, List.set_cons_zero, List.set_cons_succ]
  refine wpAnyH_take (i := 4) rfl (by kernel_rfl) (by kernel_rfl) (by kernel_rfl) (fun _ _ _ h => h) (yields_A (by rfl) rfl rfl (fun w hSw => (bT.ext hW0).mod hSw (fun e => nTY e)) hfr hfl (by decide)) HH.out ?_
  change wpAnyH _ _ _ _ _ _ _ (Act.put _ (some 129) _) _
  simp only [Act.put, List.setIfInBounds_toArray, List.set_cons_zero, List.set_cons_succ]
  refine wpAnyH_take (i := 5) (v := ?_) rfl (by kernel_rfl) (by kernel_rfl) (by kernel_rfl) (fun _ _ _ h => h) (Or.inl ⟨by rfl, ?_⟩) HH.out ?_
  rotate_left
  · intro w hSw; go_simp; try with_reducible rfl
  change wpAnyH _ _ _ _ _ _ _ (Act.put _ (some 130) _) _
  simp only [Act.put, List.setIfInBounds_toArray, List.set_cons_zero, List.set_cons_succ]
  refine wpAnyH_take (i := 6) rfl (by kernel_rfl) (by kernel_rfl) (by kernel_rfl) (fun _ _ _ h => h) (yieldsIf_load1 (by rfl) _ _ rfl _ _ rfl onet96b _ (fun w hSw => ((bA.ext hW0).mod hSw (fun e => nAY e)).cell (by decide))) HH.out ?_
  change wpAnyH _ _ _ _ _ _ _ (Act.put _ (some 131) _) _
  simp only [Act.put, List.setIfInBounds_toArray, List.set_cons_zero, List.set_cons_succ]
  refine wpAnyH_ready (rs := [7]) (by kernel_rfl) (by simp) ?_
  refine AllReadyH.cons rfl (fun K hK => ?_) AllReadyH.nil
  go_simp
  go_at_call 42; refine (nNum O 1 _ (h0.small.ext (by (repeat (first | with_reducible exact Ext.refl _ | with_reducible assumption | refine Ext.trans ?_ (by with_reducible assumption) | refine Ext.alloc ?_ _ _ | refine Ext.drew ?_ | refine Ext.drewN ?_ _)))) (by decide)).mono ?_; rintro e wa ⟨ra, rfl, hra, he⟩
  refine hK.out _ _ ?_ (fun hHeld => ?_)
  · first | exact HH.out.trans hmY | exact HH.out.trans_ext he | exact HH.out
  clear hK K HH
  have HH : Hid (Mod (fun x => x = Y) W0 _) := hHeld
  clear hHeld
  refine wpAnyH_ready (rs := [8]) (by kernel_rfl) (by simp) ?_
  refine AllReadyH.cons rfl (fun K hK => ?_) AllReadyH.nil
  go_simp
  go_at_call 44; refine (nAdd O _ _ nn 1 _ (h0.small.ext (by (repeat (first | with_reducible exact Ext.refl _ | with_reducible assumption | refine Ext.trans ?_ (by with_reducible assumption) | refine Ext.alloc ?_ _ _ | refine Ext.drew ?_ | refine Ext.drewN ?_ _)))) (nA.ext (by (repeat (first | with_reducible exact Ext.refl _ | with_reducible assumption | refine Ext.trans ?_ (by with_reducible assumption) | refine Ext.alloc ?_ _ _ | refine Ext.drew ?_ | refine Ext.drewN ?_ _)))) (hra.ext (by (repeat (first | with_reducible exact Ext.refl _ | with_reducible assumption | refine Ext.trans ?_ (by with_reducible assumption) | refine Ext.alloc ?_ _ _ | refine Ext.drew ?_ | refine Ext.drewN ?_ _)))) hdn hd1).mono ?_; rintro e wb ⟨rb, rfl, hrb, he⟩
  refine hK.out _ _ ?_ (fun hHeld => ?_)
  · first | exact HH.out.trans hmY | exact HH.out.trans_ext he | exact HH.out
  clear hK K HH
  have HH : Hid (Mod (fun x => x = Y) W0 _) := hHeld
  clear hHeld
  refine wpAnyH_ready (rs := [9]) (by kernel_rfl) (by simp) ?_
  refine AllReadyH.cons rfl (fun K hK => ?_) AllReadyH.nil
  go_simp
  go_at_call 58; refine (zSetNonce (h0.ext (by (repeat (first | with_reducible exact Ext.refl _ | with_reducible assumption | refine Ext.trans ?_ (by with_reducible assumption) | refine Ext.alloc ?_ _ _ | refine Ext.drew ?_ | refine Ext.drewN ?_ _)))) t.from_ hfl _ (nn + 1) (hrb.ext (by (repeat (first | with_reducible exact Ext.refl _ | with_reducible assumption | refine Ext.trans ?_ (by with_reducible assumption) | refine Ext.alloc ?_ _ _ | refine Ext.drew ?_ | refine Ext.drewN ?_ _)))) l1).mono ?_; rintro e w1 ⟨c1, rfl, h1, hmY⟩
  refine hK.out _ _ ?_ (fun hHeld => ?_)
  · first | exact HH.out.trans hmY | exact HH.out.trans_ext he | exact HH.out
  clear hK K HH
  have HH : Hid (Mod (fun x => x = Y) W0 _) := hHeld
  clear hHeld
  refine wpAnyH_done (by kernel_rfl) ?_ _
  have m1 : Mod (· = Y) W w1 := (hW0.mod _).trans HH.out
  have bT1 := bT.mod m1 nTY
  have b81 := b8.mod m1 n8Y
  have M1 := M.trans m1
  have bA1 := bA.mod m1 nAY
  have pA1 := pA.keep m1 h0.hsY
  clear HH hW0 hmY m1 h0 nA nA0 pA bA hra hrb bT b8 M
  go_upto_region 28 with (fail)
  have lim1 : NV O w1 (c1 14) st.limit := h1.limit
  have pri1 : NV O w1 (c1 17) st.price := h1.price
  refine w_ext ?_
  rintro W0 hW0
  refine wp_region_held_drew (S := fun w' => (BgS Y (c1 14) (c1 17) W0 w')) (by kernel_rfl) (BgS.drew ⟨Mod.refl _ _, (h1.bY.ext hW0).cell (by decide), (h1.bY.ext hW0).cell (by decide)⟩) (fun hHeld => ?_)
  have HH : Hid ((BgS Y (c1 14) (c1 17) W0 _)) := hHeld
  clear hHeld
  refine wpAnyH_take (i := 0) (v := ?_) rfl (by kernel_rfl) (by kernel_rfl) (by kernel_rfl) (fun _ _ _ h => h) (Or.inl ⟨by rfl, ?_⟩) HH.out ?_
  rotate_left
  · intro w hSw; go_simp; try with_reducible rfl
  change wpAnyH _ _ _ _ _ _ _ (Act.put _ (some 135) _) _
  simp only [Act.put, List.setIfInBounds_toArray, List.set_cons_zero, List.set_cons_succ]
  refine wpAnyH_take (i := 1) (v := ?_) rfl (by kernel_rfl) (by kernel_rfl) (by kernel_rfl) (fun _ _ _ h => h) (Or.inl ⟨by rfl, ?_⟩) HH.out ?_
  rotate_left
  · intro w hSw; go_simp; try with_reducible rfl
  change wpAnyH _ _ _ _ _ _ _ (Act.put _ (some 136) _) _
  simp only [Act.put, List.setIfInBounds_toArray, List.set_cons_zero, List.set_cons_succ]
  refine wpAnyH_take (i := 2) (v := ?_) rfl (by kernel_rfl) (by kernel_rfl) (by kernel_rfl) (fun _ _ _ h => h) (Or.inl ⟨by rfl, ?_⟩) HH.out ?_
  rotate_left
  · intro w hSw; go_simp; try with_reducible rfl
  change wpAnyH _ _ _ _ _ _ _ (Act.put _ (some 137) _) _
  simp only [Act.put, List.setIfInBounds_toArray, List.set_cons_zero, List.set_cons_succ]
  refine wpAnyH_take (i := 3) (v := ?_) rfl (by kernel_rfl) (by kernel_rfl) (by kernel_rfl) (fun _ _ _ h => h) (Or.inl ⟨by rfl, ?_⟩) HH.out ?_
  rotate_left
  · intro w hSw; go_simp; try with_reducible rfl
  change wpAnyH _ _ _ _ _ _ _ (Act.put _ (some 138) _) _
  simp only [Act.put, List.setIfInBounds_toArray, List.set_cons_zero, List.set_cons_succ]
  refine wpAnyH_take (i := 4) rfl (by kernel_rfl) (by kernel_rfl) (by kernel_rfl) (fun _ _ _ h => h) (yields_A (by rfl) rfl rfl (fun w hSw => (bT1.ext hW0).mod hSw.1 (fun e => nTY e)) hfr hfl (by decide)) HH.out ?_
  change wpAnyH _ _ _ _ _ _ _ (Act.put _ (some 139) _) _
  simp only [Act.put, List.setIfInBounds_toArray, List.set_cons_zero, List.set_cons_succ]
  refine wpAnyH_take (i := 5) (v := ?_) rfl (by kernel_rfl) (by kernel_rfl) (by kernel_rfl) (fun _ _ _ h => h) (Or.inl ⟨by rfl, ?_⟩) HH.out ?_
  rotate_left
  · intro w hSw; go_simp; try with_reducible rfl
  change wpAnyH _ _ _ _ _ _ _ (Act.put _ (some 140) _) _
  simp only [Act.put, List.setIfInBounds_toArray, List.set_cons_zero, List.set_cons_succ]
  refine wpAnyH_take (i := 6) rfl (by kernel_rfl) (by kernel_rfl) (by kernel_rfl) (fun _ _ _ h => h) (yieldsIf_load1 (by rfl) _ _ rfl _ _ rfl onet96b _ (fun w hSw => ((bA1.ext hW0).mod hSw.1 (fun e => nAY e)).cell (by decide))) HH.out ?_
  change wpAnyH _ _ _ _ _ _ _ (Act.put _ (some 141) _) _
  simp only [Act.put, List.setIfInBounds_toArray, List.set_cons_zero, List.set_cons_succ]
  refine wpAnyH_take (i := 7) (v := ?_) rfl (by kernel_rfl) (by kernel_rfl) (by kernel_rfl) (fun _ _ _ h => h) (Or.inl ⟨by rfl, ?_⟩) HH.out ?_
  rotate_left
  · intro w hSw; go_simp; try with_reducible rfl
  change wpAnyH _ _ _ _ _ _ _ (Act.put _ (some 142) _) _
  simp only [Act.put, List.setIfInBounds_toArray, List.set_cons_zero, List.set_cons_succ]
  refine wpAnyH_take (i := 8) (v := ?_) rfl (by kernel_rfl) (by kernel_rfl) (by kernel_rfl) (fun _ _ _ h => h) (Or.inl ⟨by rfl, ?_⟩) HH.out ?_
  rotate_left
  · intro w hSw; go_simp; try with_reducible rfl
  change wpAnyH _ _ _ _ _ _ _ (Act.put _ (some 143) _) _
  simp only [Act.put, List.setIfInBounds_toArray, List.set_cons_zero, List.set_cons_succ]
  refine wpAnyH_take (i := 9) (v := ?_) rfl (by kernel_rfl) (by kernel_rfl) (by kernel_rfl) (fun _ _ _ h => h) (Or.inl ⟨by rfl, ?_⟩) HH.out ?_
  rotate_left
  · intro w hSw; go_simp; try with_reducible rfl
  change wpAnyH _ _ _ _ _ _ _ (Act.put _ (some 144) _) _
  simp only [Act.put, List.setIfInBounds_toArray, List.set_cons_zero, List.set_cons_succ]
  refine wpAnyH_take (i := 10) rfl (by kernel_rfl) (by kernel_rfl) (by kernel_rfl) (fun _ _ _ h => h) (yieldsIf_load1 (by rfl) _ _ rfl _ _ rfl onet96b _ (fun w hSw => hSw.2.1)) HH.out ?_
  change wpAnyH _ _ _ _ _ _ _ (Act.put _ (some 145) _) _
  simp only [Act.put, List.setIfInBounds_toArray, List.set_cons_zero, List.set_cons_succ]
  refine wpAnyH_take (i := 11) (v := ?_) rfl (by kernel_rfl) (by kernel_rfl) (by kernel_rfl) (fun _ _ _ h => h) (Or.inl ⟨by rfl, ?_⟩) HH.out ?_
  rotate_left
  · intro w hSw; go_simp; try with_reducible rfl
  change wpAnyH _ _ _ _ _ _ _ (Act.put _ (some 146) _) _
  simp only [Act.put, List.setIfInBounds_toArray, List.set_cons_zero, List.set_cons_succ]
  refine wpAnyH_take (i := 12) (v := ?_) rfl (by kernel_rfl) (by kernel_rfl) (by kernel_rfl) (fun _ _ _ h => h) (Or.inl ⟨by rfl, ?_⟩) HH.out ?_
  rotate_left
  · intro w hSw; go_simp; try with_reducible rfl
  change wpAnyH _ _ _ _ _ _ _ (Act.put _ (some 147) _) _
  simp only [Act.put, List.setIfInBounds_toArray, List.set_cons_zero, List.set_cons_succ]
  refine wpAnyH_take (i := 13) (v := ?_) rfl (by kernel_rfl) (by kernel_rfl) (by kernel_rfl) (fun _ _ _ h => h) (Or.inl ⟨by rfl, ?_⟩) HH.out ?_
  rotate_left
  · intro w hSw; go_simp; try with_reducible rfl
  change wpAnyH _ _ _ _ _ _ _ (Act.put _ (some 148) _) _
  simp only [Act.put, List.setIfInBounds_toArray, List.set_cons_zero, List.set_cons_succ]
  refine wpAnyH_take (i := 14) rfl (by kernel_rfl) (by kernel_rfl) (by kernel_rfl) (fun _ _ _ h => h) (yieldsIf_load1 (by rfl) _ _ rfl _ _ rfl onet96b _ (fun w hSw => hSw.2.2)) HH.out ?_
  change wpAnyH _ _ _ _ _ _ _ (Act.put _ (some 149) _) _
  simp only [Act.put, List.setIfInBounds_toArray, List.set_cons_zero, List.set_cons_succ]
  refine wpAnyH_ready (rs := [15]) (by kernel_rfl) (by simp) ?_
  refine AllReadyH.cons rfl (fun K hK => ?_) AllReadyH.nil
  go_simp
  go_at_call 60; refine (nMul O _ _ st.limit st.price _ (h1.small.ext (by (repeat (first | with_reducible exact Ext.refl _ | with_reducible assumption | refine Ext.trans ?_ (by with_reducible assumption) | refine Ext.alloc ?_ _ _ | refine Ext.drew ?_ | refine Ext.drewN ?_ _)))) (lim1.ext (by (repeat (first | with_reducible exact Ext.refl _ | with_reducible assumption | refine Ext.trans ?_ (by with_reducible assumption) | refine Ext.alloc ?_ _ _ | refine Ext.drew ?_ | refine Ext.drewN ?_ _)))) (pri1.ext (by (repeat (first | with_reducible exact Ext.refl _ | with_reducible assumption | refine Ext.trans ?_ (by with_reducible assumption) | refine Ext.alloc ?_ _ _ | refine Ext.drew ?_ | refine Ext.drewN ?_ _)))) hdg hdp).mono ?_; rintro e wa ⟨ra, rfl, hra, he⟩
  refine hK.out _ _ ?_ (fun hHeld => ?_)
  · first | exact ⟨HH.out.1.trans hmY, by rw [h2.bY.cell (by decide), hc2 14 (by decide)], by rw [h2.bY.cell (by decide), hc2 17 (by decide)]⟩ | exact HH.out.ext he
  clear hK K HH
  have HH : Hid ((BgS Y (c1 14) (c1 17) W0 _)) := hHeld
  clear hHeld
  refine wpAnyH_ready (rs := [16]) (by kernel_rfl) (by simp) ?_
  refine AllReadyH.cons rfl (fun K hK => ?_) AllReadyH.nil
  go_simp
  go_at_call 55; refine (nLess O _ _ _ _ _ (h1.small.ext (by (repeat (first | with_reducible exact Ext.refl _ | with_reducible assumption | refine Ext.trans ?_ (by with_reducible assumption) | refine Ext.alloc ?_ _ _ | refine Ext.drew ?_ | refine Ext.drewN ?_ _)))) (pA1.ext (by (repeat (first | with_reducible exact Ext.refl _ | with_reducible assumption | refine Ext.trans ?_ (by with_reducible assumption) | refine Ext.alloc ?_ _ _ | refine Ext.drew ?_ | refine Ext.drewN ?_ _)))) (hra.ext (by (repeat (first | with_reducible exact Ext.refl _ | with_reducible assumption | refine Ext.trans ?_ (by with_reducible assumption) | refine Ext.alloc ?_ _ _ | refine Ext.drew ?_ | refine Ext.drewN ?_ _))))).mono ?_; rintro e wb ⟨rb, rfl, hrb, he⟩
  refine hK.out _ _ ?_ (fun hHeld => ?_)
  · first | exact ⟨HH.out.1.trans hmY, by rw [h2.bY.cell (by decide), hc2 14 (by decide)], by rw [h2.bY.cell (by decide), hc2 17 (by decide)]⟩ | exact HH.out.ext he
  clear hK K HH
  have HH : Hid ((BgS Y (c1 14) (c1 17) W0 _)) := hHeld
  clear hHeld
  refine wpAnyH_ready (rs := [17]) (by kernel_rfl) (by simp) ?_
  refine AllReadyH.cons rfl (fun K hK => ?_) AllReadyH.nil
  go_simp
  go_at_call 59; refine (zSetBal8 (h1.ext (by (repeat (first | with_reducible exact Ext.refl _ | with_reducible assumption | refine Ext.trans ?_ (by with_reducible assumption) | refine Ext.alloc ?_ _ _ | refine Ext.drew ?_ | refine Ext.drewN ?_ _)))) t.from_ hfl _ (bl - st.limit * st.price) (hrb.ext (by (repeat (first | with_reducible exact Ext.refl _ | with_reducible assumption | refine Ext.trans ?_ (by with_reducible assumption) | refine Ext.alloc ?_ _ _ | refine Ext.drew ?_ | refine Ext.drewN ?_ _)))) l2).mono ?_; rintro e w2 ⟨c2, rfl, h2, hmY, hc2⟩; have M28 : Mod (· = Y) w1 w2 := ((show Ext w1 _ by (repeat (first | with_reducible exact Ext.refl _ | with_reducible assumption | refine Ext.trans ?_ (by with_reducible assumption) | refine Ext.alloc ?_ _ _ | refine Ext.drew ?_ | refine Ext.drewN ?_ _))).mod _).trans hmY
  refine hK.out _ _ ?_ (fun hHeld => ?_)
  · first | exact ⟨HH.out.1.trans hmY, by rw [h2.bY.cell (by decide), hc2 14 (by decide)], by rw [h2.bY.cell (by decide), hc2 17 (by decide)]⟩ | exact HH.out.ext he
  clear hK K HH
  have HH : Hid ((BgS Y (c1 14) (c1 17) W0 _)) := hHeld
  clear hHeld
  refine wpAnyH_done (by kernel_rfl) ?_ _
  have bT2 := bT1.mod M28 nTY
  have b82 := b81.mod M28 n8Y
  have M2 := M1.trans M28
  clear HH hW0 hmY M28 h1 bT1 b81 M1 bA1 pA1 lim1 pri1 hra hrb hc2
  go_upto_region 29 with (fail)
  refine w_ext ?_
  rintro W0 hW0
  refine wp_region_held_drew (S := fun w' => Mod (fun x => x = Y) W0 w') (by kernel_rfl) (Mod.refl _ _).drew (fun hHeld => ?_)
  have HH : Hid (Mod (fun x => x = Y) W0 _) := hHeld
  clear hHeld
  refine wpAnyH_take (i := 0) (v := ?_) rfl (by kernel_rfl) (by kernel_rfl) (by kernel_rfl) (fun _ _ _ h => h) (Or.inl ⟨by rfl, ?_⟩) HH.out ?_
  rotate_left
  · intro w hSw; go_simp; try with_reducible rfl
  change wpAnyH _ _ _ _ _ _ _ (Act.put _ (some 153) _) _
  simp only [Act.put, List.setIfInBounds_toArray, List.set_cons_zero, List.set_cons_succ]
  refine wpAnyH_take (i := 1) (v := ?_) rfl (by kernel_rfl) (by kernel_rfl) (by kernel_rfl) (fun _ _ _ h => h) (Or.inl ⟨by rfl, ?_⟩) HH.out ?_
  rotate_left
  · intro w hSw; go_simp; try with_reducible rfl
  change wpAnyH _ _ _ _ _ _ _ (Act.put _ (some 154) _) _
  simp only [Act.put, List.setIfInBounds_toArray, List.set_cons_zero, List.set_cons_succ]
  refine wpAnyH_take (i := 2) (v := ?_) rfl (by kernel_rfl) (by kernel_rfl) (by kernel_rfl) (fun _ _ _ h => h) (Or.inl ⟨by rfl, ?_⟩) HH.out ?_
  rotate_left
  · intro w hSw; go_simp; try with_reducible rfl
  change wpAnyH _ _ _ _ _ _ _ (Act.put _ (some 155) _) _
  simp only [Act.put, List.setIfInBounds_toArray, List.set_cons_zero, List.set_cons_succ]
  refine wpAnyH_take (i := 3) (v := ?_) rfl (by kernel_rfl) (by kernel_rfl) (by kernel_rfl) (fun _ _ _ h => h) (Or.inl ⟨by rfl, ?_⟩) HH.out ?_
  rotate_left
  · intro w hSw; go_simp; try with_reducible rfl
  change wpAnyH _ _ _ _ _ _ _ (Act.put _ (some 156) _) _
  simp only [Act.put, List.setIfInBounds_toArray, List.set_cons_zero, List.set_cons_succ]
  refine wpAnyH_take (i := 4) rfl (by kernel_rfl) (by kernel_rfl) (by kernel_rfl) (fun _ _ _ h => h) (yields_A (by rfl) rfl rfl (fun w hSw => (bT2.ext hW0).mod hSw (fun e => nTY e)) hfr hfl (by decide)) HH.out ?_
  change wpAnyH _ _ _ _ _ _ _ (Act.put _ (some 157) _) _
  simp only [Act.put, List.setIfInBounds_toArray, List.set_cons_zero, List.set_cons_succ]
  refine wpAnyH_ready (rs := [5]) (by kernel_rfl) (by simp) ?_
  refine AllReadyH.cons rfl (fun K hK => ?_) AllReadyH.nil
  go_simp
  go_at_call 61; refine (zWarm (h2.ext (by (repeat (first | with_reducible exact Ext.refl _ | with_reducible assumption | refine Ext.trans ?_ (by with_reducible assumption) | refine Ext.alloc ?_ _ _ | refine Ext.drew ?_ | refine Ext.drewN ?_ _)))) t.from_ hfl l3 (YW.warm_wf h2.wf _)).mono ?_; rintro e w3 ⟨c3, rfl, h3, hmY⟩
  refine hK.out _ _ ?_ (fun hHeld => ?_)
  · first | exact HH.out.trans hmY | exact HH.out.trans_ext he | exact HH.out
  clear hK K HH
  have HH : Hid (Mod (fun x => x = Y) W0 _) := hHeld
  clear hHeld
  refine wpAnyH_done (by kernel_rfl) ?_ _
  have m3 : Mod (· = Y) w2 w3 := (hW0.mod _).trans HH.out
  have bT3 := bT2.mod m3 nTY
  have b83 := b82.mod m3 n8Y
  have M3 := M2.trans m3
  clear HH hW0 hmY m3 h2 bT2 b82 M2
  go_upto_region 30 with (fail)
  refine w_ext ?_
  rintro W0 hW0
  refine wp_region_held_drew (S := fun w' => (∃ n tt c, Blk (w') Y n tt c ∧ AAt c 59 st.env.coinbase ∧ 59 + 20 ≤ n)) (by kernel_rfl) (⟨_, _, _, (h3.bY.ext hW0).drew, h3.env.coinbase, by decide⟩) (fun hHeld => ?_)
  have HH : Hid ((∃ n tt c, Blk (_) Y n tt c ∧ AAt c 59 st.env.coinbase ∧ 59 + 20 ≤ n)) := hHeld
  clear hHeld
  refine wpAnyH_take (i := 0) (v := ?_) rfl (by kernel_rfl) (by kernel_rfl) (by kernel_rfl) (fun _ _ _ h => h) (Or.inl ⟨by rfl, ?_⟩) HH.out ?_
  rotate_left
  · intro w hSw; go_simp; try with_reducible rfl
  change wpAnyH _ _ _ _ _ _ _ (Act.put _ (some 159) _) _
  simp only [Act.put, List.setIfInBounds_toArray, List.set_cons_zero, List.set_cons_succ]
  refine wpAnyH_take (i := 1) (v := ?_) rfl (by kernel_rfl) (by kernel_rfl) (by kernel_rfl) (fun _ _ _ h => h) (Or.inl ⟨by rfl, ?_⟩) HH.out ?_
  rotate_left
  · intro w hSw; go_simp; try with_reducible rfl
  change wpAnyH _ _ _ _ _ _ _ (Act.put _ (some 160) _) _
  simp only [Act.put, List.setIfInBounds_toArray, List.set_cons_zero, List.set_cons_succ]
  refine wpAnyH_take (i := 2) (v := ?_) rfl (by kernel_rfl) (by kernel_rfl) (by kernel_rfl) (fun _ _ _ h => h) (Or.inl ⟨by rfl, ?_⟩) HH.out ?_
  rotate_left
  · intro w hSw; go_simp; try with_reducible rfl
  change wpAnyH _ _ _ _ _ _ _ (Act.put _ (some 161) _) _
  simp only [Act.put, List.setIfInBounds_toArray, List.set_cons_zero, List.set_cons_succ]
  refine wpAnyH_take (i := 3) (v := ?_) rfl (by kernel_rfl) (by kernel_rfl) (by kernel_rfl) (fun _ _ _ h => h) (Or.inl ⟨by rfl, ?_⟩) HH.out ?_
  rotate_left
  · intro w hSw; go_simp; try with_reducible rfl
  change wpAnyH _ _ _ _ _ _ _ (Act.put _ (some 162) _) _
  simp only [Act.put, List.setIfInBounds_toArray, List.set_cons_zero, List.set_cons_succ]
  refine wpAnyH_take (i := 4) (v := ?_) rfl (by kernel_rfl) (by kernel_rfl) (by kernel_rfl) (fun _ _ _ h => h) (Or.inl ⟨by rfl, ?_⟩) HH.out ?_
  rotate_left
  · intro w hSw; go_simp; try with_reducible rfl
  change wpAnyH _ _ _ _ _ _ _ (Act.put _ (some 163) _) _
  simp only [Act.put, List.setIfInBounds_toArray, List.set_cons_zero, List.set_cons_succ]
  refine wpAnyH_take (i := 5) (v := ?_) rfl (by kernel_rfl) (by kernel_rfl) (by kernel_rfl) (fun _ _ _ h => h) (Or.inl ⟨by rfl, ?_⟩) HH.out ?_
  rotate_left
  · intro w hSw; go_simp; try with_reducible rfl
  change wpAnyH _ _ _ _ _ _ _ (Act.put _ (some 164) _) _
  simp only [Act.put, List.setIfInBounds_toArray, List.set_cons_zero, List.set_cons_succ]
  refine wpAnyH_take (i := 6) (v := ?_) rfl (by kernel_rfl) (by kernel_rfl) (by kernel_rfl) (fun _ _ _ h => h) (Or.inl ⟨by rfl, ?_⟩) HH.out ?_
  rotate_left
  · intro w hSw; go_simp; try with_reducible rfl
  change wpAnyH _ _ _ _ _ _ _ (Act.put _ (some 165) _) _
  simp only [Act.put, List.setIfInBounds_toArray, List.set_cons_zero, List.set_cons_succ]
  refine wpAnyH_take (i := 7) rfl (by kernel_rfl) (by kernel_rfl) (by kernel_rfl) (fun _ _ _ h => h) (yields_Ax (by rfl) rfl rfl (fun w hSw => hSw) hcl) HH.out ?_
  change wpAnyH _ _ _ _ _ _ _ (Act.put _ (some 166) _) _
  simp only [Act.put, List.setIfInBounds_toArray, List.set_cons_zero, List.set_cons_succ]
  refine wpAnyH_ready (rs := [8]) (by kernel_rfl) (by simp) ?_
  refine AllReadyH.cons rfl (fun K hK => ?_) AllReadyH.nil
  go_simp
  go_at_call 61; refine (zWarm (h3.ext (by (repeat (first | with_reducible exact Ext.refl _ | with_reducible assumption | refine Ext.trans ?_ (by with_reducible assumption) | refine Ext.alloc ?_ _ _ | refine Ext.drew ?_ | refine Ext.drewN ?_ _)))) st.env.coinbase hcl l4 (YW.warm_wf h3.wf _)).mono ?_; rintro e w4 ⟨c4, rfl, h4, hmY⟩; have M30 : Mod (· = Y) w3 w4 := ((show Ext w3 _ by (repeat (first | with_reducible exact Ext.refl _ | with_reducible assumption | refine Ext.trans ?_ (by with_reducible assumption) | refine Ext.alloc ?_ _ _ | refine Ext.drew ?_ | refine Ext.drewN ?_ _))).mod _).trans hmY
  refine hK.out _ _ ?_ (fun hHeld => ?_)
  · first | exact ⟨_, _, _, h4.bY, h4.env.coinbase, by decide⟩ | exact HH.out.imp (fun _ k => k.imp (fun _ k => k.imp (fun _ k => ⟨k.1.ext he, k.2⟩)))
  clear hK K HH
  have HH : Hid ((∃ n tt c, Blk (_) Y n tt c ∧ AAt c 59 st.env.coinbase ∧ 59 + 20 ≤ n)) := hHeld
  clear hHeld
  refine wpAnyH_done (by kernel_rfl) ?_ _
  have bT4 := bT3.mod M30 nTY
  have b84 := b83.mod M30 n8Y
  have M4 := M3.trans M30
  clear HH hW0 hmY M30 h3 bT3 b83 M3
  go_upto_region 31 with (fail)
  refine w_ext ?_
  rintro W0 hW0
  refine wp_region_held_drew (S := fun w' => Mod (fun x => x = Y) W0 w') (by kernel_rfl) (Mod.refl _ _).drew (fun hHeld => ?_)
  have HH : Hid (Mod (fun x => x = Y) W0 _) := hHeld
  clear hHeld
  refine wpAnyH_take (i := 0) (v := ?_) rfl (by kernel_rfl) (by kernel_rfl) (by kernel_rfl) (fun _ _ _ h => h) (Or.inl ⟨by rfl, ?_⟩) HH.out ?_
  rotate_left
  · intro w hSw; go_simp; try with_reducible rfl
  change wpAnyH _ _ _ _ _ _ _ (Act.put _ (some 168) _) _
  simp only [Act.put, List.setIfInBounds_toArray, List.set_cons_zero, List.set_cons_succ]
  refine wpAnyH_take (i := 1) (v := ?_) rfl (by kernel_rfl) (by kernel_rfl) (by kernel_rfl) (fun _ _ _ h => h) (Or.inl ⟨by rfl, ?_⟩) HH.out ?_
  rotate_left
  · intro w hSw; go_simp; try with_reducible rfl
  change wpAnyH _ _ _ _ _ _ _ (Act.put _ (some 169) _) _
  simp only [Act.put, List.setIfInBounds_toArray, List.set_cons_zero, List.set_cons_succ]
  refine wpAnyH_take (i := 2) (v := ?_) rfl (by kernel_rfl) (by kernel_rfl) (by kernel_rfl) (fun _ _ _ h => h) (Or.inl ⟨by rfl, ?_⟩) HH.out ?_
  rotate_left
  · intro w hSw; go_simp; try with_reducible rfl
  change wpAnyH _ _ _ _ _ _ _ (Act.put _ (some 170) _) _
  simp only [Act.put, List.setIfInBounds_toArray, List.set_cons_zero, List.set_cons_succ]
  refine wpAnyH_take (i := 3) rfl (by kernel_rfl) (by kernel_rfl) (by kernel_rfl) (fun _ _ _ h => h) (yields_A (by rfl) rfl rfl (fun w hSw => (b84.ext hW0).mod hSw (fun e => n8Y e)) a8 htg (by decide)) HH.out ?_
  change wpAnyH _ _ _ _ _ _ _ (Act.put _ (some 171) _) _
  simp only [Act.put, List.setIfInBounds_toArray, List.set_cons_zero, List.set_cons_succ]
  refine wpAnyH_ready (rs := [4]) (by kernel_rfl) (by simp) ?_
  refine AllReadyH.cons rfl (fun K hK => ?_) AllReadyH.nil
  go_simp
  go_at_call 61; refine (zWarm (h4.ext (by (repeat (first | with_reducible exact Ext.refl _ | with_reducible assumption | refine Ext.trans ?_ (by with_reducible assumption) | refine Ext.alloc ?_ _ _ | refine Ext.drew ?_ | refine Ext.drewN ?_ _)))) tg htg l5 (YW.warm_wf h4.wf _)).mono ?_; rintro e w5 ⟨c5, rfl, h5, hmY⟩
  refine hK.out _ _ ?_ (fun hHeld => ?_)
  · first | exact HH.out.trans hmY | exact HH.out.trans_ext he | exact HH.out
  clear hK K HH
  have HH : Hid (Mod (fun x => x = Y) W0 _) := hHeld
  clear hHeld
  refine wpAnyH_done (by kernel_rfl) ?_ _
  have m5 : Mod (· = Y) w4 w5 := (hW0.mod _).trans HH.out
  have bT5 := bT4.mod m5 nTY
  have b85 := b84.mod m5 n8Y
  have M5 := M4.trans m5
  clear HH hW0 hmY m5 h4 bT4 b84 M4
  go_upto_region 32 with (fail)
  go_upto_region 33 with (first | ((with_reducible (refine Veil.out ?_; apply wl_buildV (b25n 4 (by decide)))); (case he => rfl)) | (go_at_call 61; refine (zWarm h5 4 (by decide) l6 (YW.warm_wf h5.wf _)).mono ?_; rintro e w6 ⟨c6, rfl, h6, m6⟩))
  have bT6 := bT5.mod m6 nTY
  have b86 := b85.mod m6 n8Y
  have M6 := M5.trans m6
  clear m6 h5 bT5 b85 M5
  obtain ⟨obase, ocap, hacv, hcap1, hcap2⟩ := hT.access.sl
  obtain ⟨l, hl⟩ : ∃ x, Hid (t.access = x) := ⟨_, rfl⟩
  rw [hl.out] at hacv hcap1
  go_upto_block 4 with (first | ((with_reducible (refine Veil.out ?_; apply wl_buildV (b25n 5 (by decide)))); (case he => rfl)) | (go_at_call 61; refine (zWarm h6 5 (by decide) l7 (YW.warm_wf h6.wf _)).mono ?_; rintro e w7 ⟨c7, rfl, h7, m7⟩) | ((with_reducible (refine Veil.out ?_; apply wl_loadC onet33b)); (case hw => rfl); (case hx => rfl); (case hc => exact ((bT6.mod m7 nTY).cell (i := 173) (by decide)).trans (congrArg some hacv))))
  have bT7 := bT6.mod m7 nTY
  have b87 := b86.mod m7 n8Y
  have M7 := M6.trans m7
  clear m7 h6 bT6 b86 M6
  obtain ⟨V7, hV7⟩ : ∃ X, Hid ((((((((V.setNonce t.from_ (nn + 1)).setBal t.from_ (bl - st.limit * st.price)).warm t.from_).warm st.env.coinbase).warm tg).warm 4).warm 5) = X) := ⟨_, rfl⟩
  obtain ⟨A7, hA7⟩ : ∃ X, Hid ((((((((st.now.setNonce t.from_ (nn + 1)).setBal t.from_ (bl - st.limit * st.price)).warm t.from_).warm st.env.coinbase).warm tg).warm 4).warm 5) = X) := ⟨_, rfl⟩
  have h7a : A7 = V7.abs := by have := h7.now; rw [hV7.out, hA7.out] at this; exact this
  rw [hV7.out, hA7.out] at h7
  rw [hV7.out] at wi7 hs7
  rw [hA7.out] at hQ
  clear l1 l2 l3 l4 l5 l6 l7 wi3 wi4 wi5 wi6 hw1 hw2 s1 s2 s3 s4 s5 s6 s7
  have hacc := hT.access
  rw [hl.out] at hacc hlen hkey hQ
  have hkP : ∀ p ∈ l, ∀ k ∈ p.2, k < Pk := fun p hp k hk => acc_keys hacc p hp k hk
  have hWL := fun i => warmList_all (l.take i) V7 h7.wf (fun p hp => hkP p (List.mem_of_mem_take hp))
  try simp only [Act.put]
  go_cut [] (fun wx => ∃ c', YZ O TL wx Y F n c' d (V7.warmList l) start { st with now := A7.warmList l } tot [] ∧ Mod (· = Y) w7 wx)
  case first =>
    go_upto_region 35 with (fail)
    try simp only [Act.put]
    go_loopw [186] (fun iv wr => ∃ (i : Nat) (c' : Nat → Value), iv = .int .i64 (i : Nat) ∧ i ≤ l.length ∧ YZ O TL wr Y F n c' d (V7.warmList (l.take i)) start { st with now := A7.warmList (l.take i) } tot [] ∧ Mod (· = Y) w7 wr) (fun iv _ => l.length - (intOf iv).toNat)
    case atStart => exact ⟨0, c7, rfl, Nat.zero_le _, h7, Mod.refl _ _⟩
    case round =>
      obtain ⟨i, ci, rfl, hi, hz, hm⟩ := hrel
      rcases Nat.lt_or_ge i l.length with hlt | hge
      · have z1 : (i : Int) < l.length := by omega
        rcases hacc with ⟨rfl, _⟩ | ⟨b, off, cap, cs, hv, hcap, hc2, hOb, hb, hcell, hrow⟩
        · simp at hlt
        rw [hacv] at hv
        injection hv with hv1 hv2 hv3
        clear hv2 hv3
        rw [hv1] at hacv
        subst hv1
        have hri := hrow i hlt
        have hbY : ¬ b = Y := fun q => hOb (q ▸ hYz)
        have hMr : Mod (· = Y) W wr := M7.trans hm
        have hR : RowIn wr b (off + i * 21) (rowOf cs (i * 21) 21) := RowIn.keep (S := (· = Y)) (fun q u hu => el_row (l := l) hcell hlt q u hu) hb hMr hbY
        obtain ⟨ok, ck, hkv, hk1, hk2⟩ := hri.keys.slice
        obtain ⟨x, hx⟩ : ∃ x, Hid (l[i] = x) := ⟨l[i], rfl⟩
        have hsuc := warmList_succ V7 l i hlt
        have hsucA := aWarmList_succ A7 l i hlt
        have hkn := bkeysN_get l i hlt
        have hWi := hWL i
        rw [hx.out] at hri hkv hsuc hsucA hkn
        have hones : Ones (rowOf cs (i * 21) 21) := ones_of (fun q hq => by
          rw [rowOf_size] at hq
          rw [cf_rowOf _ _ _ hq]
          rcases (show q < 20 ∨ q = 20 by omega) with h | rfl
          · exact aat_one hri.addr hri.aLt q h
          · rw [hkv]; rfl)
        obtain ⟨i1, hi1⟩ : ∃ z : Nat, Hid ((i + 1 : Nat) = z) := ⟨_, rfl⟩
        have j1 : IntKind.i64.wrap ((i : Int) + 1) = (i1 : Int) := by rw [IntKind.wrap_i64, ← hi1.out]; omega
        go_upto_region 37 with (first | ((with_reducible (refine Veil.out ?_; apply wl_loadR rt144 b (off + i * 21) (rowOf cs (i * 21) 21) (rowOf_size _ _ _))); (case hx => rfl); (case hr => exact hR)) | ((with_reducible (refine Veil.out ?_; apply wl_allocB z144q)); (case hn => rfl); rintro L W3 e3 b3 g3) | ((with_reducible (refine Veil.out ?_; apply wl_storeRow rt144)); (case hx => rfl); (case hy => rfl); (case hr => exact rowOf_size _ _ _); (case h1 => exact hones); (case hB => exact b3); (case hi => decide); rintro W4 b4 m4))
        have hE0 : Ext wr W4 := Ext.trans_mod e3 m4 (fun q hq => by have hq2 : q = L := hq; rw [hq2]; exact g3)
        obtain ⟨cL, hcL⟩ : ∃ z, Hid (layv (cf z144r) 0 (rowOf cs (i * 21) 21) = z) := ⟨_, rfl⟩
        have hLc : ∀ j, j < 21 → cL j = cs (i * 21 + j) := fun j hj => by
          rw [← hcL.out]
          have := layv_in (cf z144r) 0 (rowOf cs (i * 21) 21) (j := j) (by rw [rowOf_size]; exact hj)
          rw [Nat.zero_add] at this
          rw [this, cf_rowOf _ _ _ hj]
        rw [hcL.out] at b4
        have hL20 : cL 20 = .slice ok x.2.length ck := by rw [hLc 20 (by decide)]; exact hkv
        have hLa : AAt cL 0 x.1 := fun j u hu => by
          have hj := (Array.getElem?_eq_some_iff.1 hu).1
          rw [av_size hri.aLt] at hj
          rw [Nat.zero_add, hLc j (by omega)]
          exact hri.addr j u hu
        have hax := hri.aLt
        have hLY : ¬ L = Y := fun q => by have := hz.bY.lt; omega
        have hz4 := hz.ext hE0
        have hkW : KL Oz W (cs (i * 21 + 20)) x.2 := hri.keys
        rw [hkv] at hkW
        have ls1 := (siz_warm (V7.warmList (l.take i)) x.1).1
        have hiW : WInv T S og (V7.warmList (l.take i)).abs := by rw [hWi.2.1]; exact WInv.warmList _ _ wi7
        have hiS : (V7.warmList (l.take i)).siz + x.2.length ≤ V.siz + 100 := by
          have := hWi.2.2
          rw [List.length_take] at this
          omega
        have lw : YLim ((V7.warmList (l.take i)).warm x.1) := YLim.inv (by omega) (by rw [YW.warm_abs]; exact hiW.warm _) hTl hSl
        have M4' : Mod (· = Y) W W4 := hMr.trans_ext hE0
        have m74 : Mod (· = Y) w7 W4 := hm.trans_ext hE0
        clear b3 hR hones hrow hcell hri hkv m4 e3 hcL hLc hz hWi hacv hE0 hMr
        refine w_ext ?_
        rintro W0 hW0
        refine wp_region_held_drew (S := fun w' => Mod (fun x => x = Y) W0 w') (by kernel_rfl) (Mod.refl _ _).drew (fun hHeld => ?_)
        have HH : Hid (Mod (fun x => x = Y) W0 _) := hHeld
        clear hHeld
        refine wpAnyH_take (i := 0) (v := ?_) rfl (by kernel_rfl) (by kernel_rfl) (by kernel_rfl) (fun _ _ _ h => h) (Or.inl ⟨by rfl, ?_⟩) HH.out ?_
        rotate_left
        · intro w hSw; go_simp; try with_reducible rfl
        change wpAnyH _ _ _ _ _ _ _ (Act.put _ (some 190) _) _
        simp only [Act.put, List.setIfInBounds_toArray, List.set_cons_zero, List.set_cons_succ]
        refine wpAnyH_take (i := 1) (v := ?_) rfl (by kernel_rfl) (by kernel_rfl) (by kernel_rfl) (fun _ _ _ h => h) (Or.inl ⟨by rfl, ?_⟩) HH.out ?_
        rotate_left
        · intro w hSw; go_simp; try with_reducible rfl
        change wpAnyH _ _ _ _ _ _ _ (Act.put _ (some 191) _) _
        simp only [Act.put, List.setIfInBounds_toArray, List.set_cons_zero, List.set_cons_succ]
        refine wpAnyH_take (i := 2) (v := ?_) rfl (by kernel_rfl) (by kernel_rfl) (by kernel_rfl) (fun _ _ _ h => h) (Or.inl ⟨by rfl, ?_⟩) HH.out ?_
        rotate_left
        · intro w hSw; go_simp; try with_reducible rfl
        change wpAnyH _ _ _ _ _ _ _ (Act.put _ (some 192) _) _
        simp only [Act.put, List.setIfInBounds_toArray, List.set_cons_zero, List.set_cons_succ]
        refine wpAnyH_take (i := 3) (v := ?_) rfl (by kernel_rfl) (by kernel_rfl) (by kernel_rfl) (fun _ _ _ h => h) (Or.inl ⟨by rfl, ?_⟩) HH.out ?_
        rotate_left
        · intro w hSw; go_simp; try with_reducible rfl
        change wpAnyH _ _ _ _ _ _ _ (Act.put _ (some 193) _) _
        simp only [Act.put, List.setIfInBounds_toArray, List.set_cons_zero, List.set_cons_succ]
        refine wpAnyH_take (i := 4) rfl (by kernel_rfl) (by kernel_rfl) (by kernel_rfl) (fun _ _ _ h => h) (yields_A (by rfl) rfl rfl (fun w hSw => (b4.ext hW0).mod hSw (fun e => hLY e)) hLa hax (by decide)) HH.out ?_
        change wpAnyH _ _ _ _ _ _ _ (Act.put _ (some 194) _) _
        simp only [Act.put, List.setIfInBounds_toArray, List.set_cons_zero, List.set_cons_succ]
        refine wpAnyH_ready (rs := [5]) (by kernel_rfl) (by simp) ?_
        refine AllReadyH.cons rfl (fun K hK => ?_) AllReadyH.nil
        go_simp
        go_at_call 61; refine (zWarm (hz4.ext (by (repeat (first | with_reducible exact Ext.refl _ | with_reducible assumption | refine Ext.trans ?_ (by with_reducible assumption) | refine Ext.alloc ?_ _ _ | refine Ext.drew ?_ | refine Ext.drewN ?_ _)))) x.1 hax lw (YW.warm_wf hz4.wf _)).mono ?_; rintro e w5 ⟨c5, rfl, hz5, hmY⟩
        refine hK.out _ _ ?_ (fun hHeld => ?_)
        · first | exact HH.out.trans hmY | exact HH.out.trans_ext he | exact HH.out
        clear hK K HH
        have HH : Hid (Mod (fun x => x = Y) W0 _) := hHeld
        clear hHeld
        refine wpAnyH_done (by kernel_rfl) ?_ _
        have mA : Mod (· = Y) W4 w5 := (hW0.mod _).trans HH.out
        have b5 := b4.mod mA hLY
        have M5' := M4'.trans mA
        have m75 := m74.trans mA
        clear HH hW0 hmY hz4 b4 mA M4' m74
        obtain ⟨VB, hVB⟩ : ∃ X, Hid ((V7.warmList (l.take i)).warm x.1 = X) := ⟨_, rfl⟩
        obtain ⟨AB, hAB⟩ : ∃ X, Hid ((A7.warmList (l.take i)).warm x.1 = X) := ⟨_, rfl⟩
        have hw5 : WInv T S og VB.abs := by rw [← hVB.out, YW.warm_abs]; exact hiW.warm _
        have hs5 : VB.siz + x.2.length ≤ V.siz + 101 := by rw [← hVB.out]; omega
        rw [hVB.out, hAB.out] at hz5
        rw [hVB.out] at hsuc
        rw [hAB.out] at hsucA
        obtain ⟨ks, hks⟩ : ∃ z, Hid (x.2 = z) := ⟨_, rfl⟩
        have hkk : ∀ k ∈ ks, k < Pk := fun k hk => hkP l[i] (List.getElem_mem _) k (by rw [hx.out, hks.out]; exact hk)
        rw [hks.out] at hL20 hkW hs5 hsuc hsucA hkn
        replace hsuc := (show Hid _ from hsuc)
        replace hsucA := (show Hid _ from hsucA)
        have hWK := fun j => warmKeys_all x.1 (ks.take j) VB hz5.wf (fun k hk => hkk k (List.mem_of_mem_take hk))
        go_upto_region 38 with (fail)
        go_upto_block 6 with ((with_reducible (refine Veil.out ?_; apply wl_loadC onet29b)); (case hw => rfl); (case hx => rfl); (case hc => exact (b5.cell (i := 20) (by decide)).trans (congrArg some hL20)))
        try simp only [Act.put]
        go_upto_region 39 with (fail)
        try simp only [Act.put]
        go_loopw [199] (fun iv wr => ∃ (j : Nat) (c' : Nat → Value), iv = .int .i64 (j : Nat) ∧ j ≤ ks.length ∧ YZ O TL wr Y F n c' d (VB.warmKeys x.1 (ks.take j)) start { st with now := (ks.take j).foldl (fun w k => w.warmSlot x.1 k) AB } tot [] ∧ Mod (· = Y) w5 wr) (fun iv _ => ks.length - (intOf iv).toNat)
        case atStart => exact ⟨0, _, rfl, Nat.zero_le _, hz5, Mod.refl _ _⟩
        case round =>
          obtain ⟨j, cj, rfl, hj, hzj, hmj⟩ := hrel
          rcases Nat.lt_or_ge j ks.length with hjlt | hjge
          · have zj : (j : Int) < ks.length := by omega
            rcases hkW with ⟨q, _⟩ | ⟨kb, koff, kcap, q1, q2, q3, q4, q5, q6⟩
            · rw [q] at hjlt; simp at hjlt
            injection q1 with q1a q1b q1c
            clear q1b q1c
            subst q1a
            obtain ⟨kLt, kRow⟩ := q6 j hjlt
            have kbY : ¬ kb = Y := fun q => q4 (q ▸ hYz)
            have hRk : RowIn _ kb (koff + j * 32) (bw ks[j]) := RowIn.keep (S := (· = Y)) kRow q5 (M5'.trans hmj) kbY
            have hkPk := hkk ks[j] (List.getElem_mem _)
            have hsk := warmKeys_succ VB x.1 ks j hjlt
            have hskA := aWarmKeys_succ AB x.1 ks j hjlt
            have hWj := hWK j
            obtain ⟨kx, hkx⟩ : ∃ z, Hid (ks[j] = z) := ⟨ks[j], rfl⟩
            rw [hkx.out] at hRk kLt hkPk hsk hskA
            replace hsk := (show Hid _ from hsk)
            replace hskA := (show Hid _ from hskA)
            obtain ⟨j2, hj2⟩ : ∃ z : Nat, Hid ((j + 1 : Nat) = z) := ⟨_, rfl⟩
            have jj1 : IntKind.i64.wrap ((j : Int) + 1) = (j2 : Int) := by rw [IntKind.wrap_i64, ← hj2.out]; omega
            have lk : YLim ((VB.warmKeys x.1 (ks.take j)).warmSlot x.1 kx) := by
              have a1 := hWj.2.2
              rw [List.length_take] at a1
              have a2 := (siz_warmSlot (VB.warmKeys x.1 (ks.take j)) x.1 kx).1
              refine YLim.inv (by omega) (by rw [YW.warmSlot_abs hWj.1 _ _ hkPk, hWj.2.1]; exact (WInv.warmKeys x.1 _ _ hw5).warmSlot _ _) hTl hSl
            go_upto_region 41 with (first | ((with_reducible (refine Veil.out ?_; apply wl_loadR rt28 kb (koff + j * 32) (bw kx) (bwS kLt))); (case hx => rfl); (case hr => exact hRk)) | ((with_reducible (refine Veil.out ?_; apply wl_allocBB)); rintro BK WK cK eK bK _ gK) | ((with_reducible (refine Veil.out ?_; apply wl_storeBB (v := kx))); (case hx => rfl); (case hy => rfl); (case hv => exact kLt); (case hB => exact bK); (case hi => decide); rintro WL_ cK2 bK2 aK2 _ mK))
            have hEk : Ext _ WL_ := Ext.trans_mod eK mK (fun q hq => by have hq2 : q = BK := hq; rw [hq2]; exact gK)
            have hzk := hzj.ext hEk
            have b5k := (b5.mod hmj hLY).ext hEk
            have mk5 := hmj.trans_ext hEk
            have hBKY : ¬ BK = Y := fun q => by have := hzj.bY.lt; omega
            clear hRk kRow bK eK mK hzj hWj
            refine w_ext ?_
            rintro W0 hW0
            refine wp_region_held_drew (S := fun w' => Mod (fun x => x = Y) W0 w') (by kernel_rfl) (Mod.refl _ _).drew (fun hHeld => ?_)
            have HH : Hid (Mod (fun x => x = Y) W0 _) := hHeld
            clear hHeld
            refine wpAnyH_take (i := 0) (v := ?_) rfl (by kernel_rfl) (by kernel_rfl) (by kernel_rfl) (fun _ _ _ h => h) (Or.inl ⟨by rfl, ?_⟩) HH.out ?_
            rotate_left
            · intro w hSw; go_simp; try with_reducible rfl
            change wpAnyH _ _ _ _ _ _ _ (Act.put _ (some 203) _) _
            simp only [Act.put, List.setIfInBounds_toArray, List.set_cons_zero, List.set_cons_succ]
            refine wpAnyH_take (i := 1) (v := ?_) rfl (by kernel_rfl) (by kernel_rfl) (by kernel_rfl) (fun _ _ _ h => h) (Or.inl ⟨by rfl, ?_⟩) HH.out ?_
            rotate_left
            · intro w hSw; go_simp; try with_reducible rfl
            change wpAnyH _ _ _ _ _ _ _ (Act.put _ (some 204) _) _
            simp only [Act.put, List.setIfInBounds_toArray, List.set_cons_zero, List.set_cons_succ]
            refine wpAnyH_take (i := 2) (v := ?_) rfl (by kernel_rfl) (by kernel_rfl) (by kernel_rfl) (fun _ _ _ h => h) (Or.inl ⟨by rfl, ?_⟩) HH.out ?_
            rotate_left
            · intro w hSw; go_simp; try with_reducible rfl
            change wpAnyH _ _ _ _ _ _ _ (Act.put _ (some 205) _) _
            simp only [Act.put, List.setIfInBounds_toArray, List.set_cons_zero, List.set_cons_succ]
            refine wpAnyH_take (i := 3) (v := ?_) rfl (by kernel_rfl) (by kernel_rfl) (by kernel_rfl) (fun _ _ _ h => h) (Or.inl ⟨by rfl, ?_⟩) HH.out ?_
            rotate_left
            · intro w hSw; go_simp; try with_reducible rfl
            change wpAnyH _ _ _ _ _ _ _ (Act.put _ (some 206) _) _
            simp only [Act.put, List.setIfInBounds_toArray, List.set_cons_zero, List.set_cons_succ]
            refine wpAnyH_take (i := 4) rfl (by kernel_rfl) (by kernel_rfl) (by kernel_rfl) (fun _ _ _ h => h) (yields_A (by rfl) rfl rfl (fun w hSw => (b5k.ext hW0).mod hSw (fun e => hLY e)) hLa hax (by decide)) HH.out ?_
            change wpAnyH _ _ _ _ _ _ _ (Act.put _ (some 207) _) _
            simp only [Act.put, List.setIfInBounds_toArray, List.set_cons_zero, List.set_cons_succ]
            refine wpAnyH_take (i := 5) (v := ?_) rfl (by kernel_rfl) (by kernel_rfl) (by kernel_rfl) (fun _ _ _ h => h) (Or.inl ⟨by rfl, ?_⟩) HH.out ?_
            rotate_left
            · intro w hSw; go_simp; try with_reducible rfl
            change wpAnyH _ _ _ _ _ _ _ (Act.put _ (some 208) _) _
            simp only [Act.put, List.setIfInBounds_toArray, List.set_cons_zero, List.set_cons_succ]
            refine wpAnyH_ready (rs := [6]) (by kernel_rfl) (by simp) ?_
            refine AllReadyH.cons rfl (fun K hK => ?_) AllReadyH.nil
            go_simp
            go_at_call 43; refine (nFromB (O := O) (hzk.small.ext (by (repeat (first | with_reducible exact Ext.refl _ | with_reducible assumption | refine Ext.trans ?_ (by with_reducible assumption) | refine Ext.alloc ?_ _ _ | refine Ext.drew ?_ | refine Ext.drewN ?_ _)))) (bK2.ext (by (repeat (first | with_reducible exact Ext.refl _ | with_reducible assumption | refine Ext.trans ?_ (by with_reducible assumption) | refine Ext.alloc ?_ _ _ | refine Ext.drew ?_ | refine Ext.drewN ?_ _)))) aK2 kLt (by decide)).mono ?_; rintro e wq ⟨rq, rfl, hrq, he⟩
            refine hK.out _ _ ?_ (fun hHeld => ?_)
            · first | exact HH.out.trans hmY | exact HH.out.trans_ext he | exact HH.out
            clear hK K HH
            have HH : Hid (Mod (fun x => x = Y) W0 _) := hHeld
            clear hHeld
            refine wpAnyH_ready (rs := [7]) (by kernel_rfl) (by simp) ?_
            refine AllReadyH.cons rfl (fun K hK => ?_) AllReadyH.nil
            go_simp
            go_at_call 62; refine (zWarmSlot (hzk.ext (by (repeat (first | with_reducible exact Ext.refl _ | with_reducible assumption | refine Ext.trans ?_ (by with_reducible assumption) | refine Ext.alloc ?_ _ _ | refine Ext.drew ?_ | refine Ext.drewN ?_ _)))) x.1 hax _ kx (hrq.ext (by (repeat (first | with_reducible exact Ext.refl _ | with_reducible assumption | refine Ext.trans ?_ (by with_reducible assumption) | refine Ext.alloc ?_ _ _ | refine Ext.drew ?_ | refine Ext.drewN ?_ _)))) hkPk lk).mono ?_; rintro e w6 ⟨c6, rfl, hz6, hmY⟩
            refine hK.out _ _ ?_ (fun hHeld => ?_)
            · first | exact HH.out.trans hmY | exact HH.out.trans_ext he | exact HH.out
            clear hK K HH
            have HH : Hid (Mod (fun x => x = Y) W0 _) := hHeld
            clear hHeld
            refine wpAnyH_done (by kernel_rfl) ?_ _
            have mB : Mod (· = Y) WL_ w6 := (hW0.mod _).trans HH.out
            have mF := mk5.trans mB
            clear HH hW0 hmY hzk
            go_wp2
            go_roundw
            case rel =>
              have h9 := hj2.out
              refine ⟨j2, c6, rfl, by rw [← h9]; exact hjlt, ?_, mF⟩
              rw [← h9, hsk.out, hskA.out]
              exact hz6
            case measure => exact meas_lt hj2.out hjlt
          · have zj : ¬ (j : Int) < ks.length := by omega
            obtain rfl : j = ks.length := by omega
            rw [List.take_length] at hzj
            go_wp2
            go_roundw
            case rel =>
              have h9 := hi1.out
              refine ⟨i1, cj, rfl, by rw [← h9]; exact hlt, ?_, m75.trans hmj⟩
              rw [← h9, hsuc.out, hsucA.out]
              exact hzj
            case measure => exact meas_lt hi1.out hlt
      · have z1 : ¬ (i : Int) < l.length := by omega
        obtain rfl : i = l.length := by omega
        go_wp2
        go_meet
        case rel => exact ⟨ci, by rw [List.take_length] at hz; exact hz, hm⟩
  case rest =>
  obtain ⟨cE, hzE, hmE⟩ := hcut
  obtain ⟨WE, eWE⟩ : ∃ X, X = wc := ⟨_, rfl⟩
  subst eWE
  have bTE := bT7.mod hmE nTY
  have b8E := b87.mod hmE n8Y
  have ME := M7.trans hmE
  go_upto_region 44 with (fail)
  have hWF := warmList_all l V7 h7.wf hkP
  have hwE : WInv T S og (V7.warmList l).abs := by rw [hWF.2.1]; exact WInv.warmList _ _ wi7
  have hsE : (V7.warmList l).siz ≤ V.siz + 90 := by have := hWF.2.2; omega
  have hTE := hT.keepb ME hYz
  have hs88 : (V7.warmList l).siz ≤ 88000 := by omega
  refine bgTail2 (T := T) (S := S) (og := og) _ _ _ _ _ _ _ _ _ _ _ _ _ _ _ _ _ _ _ _ _ _ _ _ _ _ _ _ _ _ _ _ _ _ _ _ _ _ _ _ _ _ _ _ _ _ _ _ _ _ _ _ _ _ _ _ _ _ _ _ _ _ _ _ _ _ _ _ _ _ _ _ _ _ _ _ _ _ _ _ _ _ _ _ _ _ _ _ _ _ _ _ _ _ _ _ _ _ _ _ _ _ _ _ _ _ _ _ _ _ _ _ _ _ _ _ _ _ _ _ _ _ _ _ _ _ _ _ _ _ _ _ _ _ _ _ _ _ _ _ _ _ _ _ _ _ _ _ _ _ _ _ _ _ _ _ _ _ _ _ _ _ _ _ _ _ _ _ _ _ _ _ _ _ _ _ _ _ _ _ _ _ _ _ _ _ _ _ _ _ _ _ _ _ _ _ _ _ _ _ _ _ _ _ _ _ _ _ _ _ _ _ _ _ _ _ _ _ _ _ _ _ _ _ _ _ _ _ _ _ _ _ _ _ _ _ _ _ _ _ _ _ _ _ _ _ _ _ _ _ _ _ _ _ _ _ _ _ _ _ _ _ _ _ _ _ _ HLG hzE bTE hTE nTY b8E a8 htg n8Y hYz hs88 hwE hTl hSl htx hinit hdata ?_ (by assumption)
  intro w' W' L' hfin hs1 hs2
  obtain ⟨O', F', n', c', d', q1, q2, q3⟩ := hfin
  exact hQ w' W' L' ⟨O', F', n', c', d', q1, fun b hb => q2 b (Nat.lt_of_lt_of_le hb ME.size), (ME.sub (fun b hb => Or.inl hb)).trans q3⟩ (by omega) (fun y hy => by rw [hs2 y hy]; omega)
end
end Go.Proofs.YgvahwGreat
