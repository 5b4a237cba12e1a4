import Derived.Test.YgvahwGreatYb5
import Derived.Test.YgvahwGreatBg0
namespace Go.Proofs.YgvahwGreat
open Go.RowKit
set_option linter.unusedSimpArgs false
section
variable {O Oz TL : Nat → Prop} {W : World} {Y F n BT B8 tg T S : Nat} {og : Nat → Nat → Nat} {c d c8 : Nat → Value} {V : YW} {start : List (Nat × Nat × Nat)} {st : ASt} {tot : Nat} {r : Array Value} {t : ATx}
theorem bgTail2 {K : Act → World → Prop} {R : Ending → World → Prop} (u1 u2 u4 u6 u7 u9 u10 u11 u12 u13 u14 u15 u16 u17 u18 u19 u20 u21 u22 u23 u24 u25 u26 u27 u28 u29 u30 u31 u32 u33 u34 u35 u36 u37 u38 u39 u40 u41 u42 u43 u44 u45 u46 u47 u48 u49 u50 u51 u52 u53 u54 u55 u56 u57 u58 u59 u60 u61 u62 u63 u64 u65 u66 u67 u68 u69 u70 u71 u72 u73 u74 u75 u76 u77 u78 u79 u80 u81 u82 u83 u84 u85 u86 u87 u88 u89 u90 u91 u92 u93 u94 u95 u96 u97 u98 u99 u100 u101 u102 u103 u104 u105 u106 u107 u108 u109 u110 u111 u112 u113 u114 u115 u116 u117 u118 u119 u120 u121 u122 u123 u124 u125 u126 u127 u128 u129 u130 u131 u132 u133 u134 u135 u136 u137 u138 u139 u140 u141 u142 u143 u144 u145 u146 u147 u148 u149 u150 u151 u152 u153 u154 u155 u156 u157 u158 u159 u160 u161 u162 u163 u164 u165 u166 u167 u168 u169 u170 u171 u172 u173 u174 u175 u176 u177 u178 u179 u180 u181 u182 u183 u184 u185 u186 u187 u188 u189 u190 u191 u192 u193 u194 u195 u196 u197 u198 u199 u200 u201 u202 u203 u204 u205 u206 u207 u208 u209 u210 u211 u212 u213 u214 u215 u216 u217 u218 u219 u220 u221 u222 u223 u224 u225 u226 u227 u228 u229 u230 u231 u232 u233 u234 u235 u236 u237 u238 u239 u240 u241 u242 u243 u244 u245 u246 u247 u248 u249 u250 u251 u252 u253 u254 u255 u256 u257 u258 u259 u260 u261 u262 u263 u264 u265 u266 u267 u268 u269 u270 : Value) (HLG : ∀ {O T : Nat → Prop} {w : World} {v : Value} {l : List ALog}, Small O w → LogL T O w v l → l.length ≤ 100000 → Calls Hvah.prog 80 #[v] w fun e w' => ∃ r, e = .returned r ∧ GRow 141 22 (LgC O w') (fun b => ¬ O b) w' r l ∧ Full r ∧ Ext w w') (h : YZ O TL W Y F n c d V start st tot []) (bT : Blk W BT 174 40 (cf r)) (hT : TxC Oz W (cf r) t) (nTY : BT ≠ Y) (b8 : Blk W B8 20 31 c8) (a8 : AAt c8 0 tg) (htg : tg < 2 ^ 160) (n8Y : B8 ≠ Y) (hYz : Oz Y)
    (hs : V.siz ≤ 88000) (hw : WInv T S og V.abs) (hTl : T < P256) (hSl : 199 * S < 18446744073709551616) (htx : st.txGas ≤ 1048576) (hinit : t.create = true → t.data.length ≤ 512) (hdata : t.data.length ≤ 1024)
    (hQ : ∀ w' W' L', (∃ O' F' n' c' d', YZ O' TL w' Y F' n' c' d' W' start (bgEnd st t tg) tot L' ∧ (∀ b, b < W.heap.size → (O' b ↔ O b)) ∧ Mod (fun b => b = Y ∨ b = F) W w') → W'.siz ≤ V.siz + 3 → (∀ y ∈ L', y.sv = V) → R (.returned (.int .u8 (0 : Nat))) w')
    (hK : ∀ x y, Code.wp Hvah.prog (ltail 24 (bbody Hvah.f29)) (BQ R) x y → K x y) : Code.wp Hvah.prog (lhead (ltail 23 (bbody Hvah.f29))) (Exit.then K (BQ R)) { tmps := #[.pointer (some ⟨Y, 0, none⟩), u1, u2, .pointer (some ⟨BT, 0, none⟩), u4, .pointer (some ⟨Y, 0, none⟩), u6, u7, .pointer (some ⟨B8, 0, none⟩), u9, u10, u11, u12, u13, u14, u15, u16, u17, u18, u19, u20, u21, u22, u23, u24, u25, u26, u27, u28, u29, u30, u31, u32, u33, u34, u35, u36, u37, u38, u39, u40, u41, u42, u43, u44, u45, u46, u47, u48, u49, u50, u51, u52, u53, u54, u55, u56, u57, u58, u59, u60, u61, u62, u63, u64, u65, u66, u67, u68, u69, u70, u71, u72, u73, u74, u75, u76, u77, u78, u79, u80, u81, u82, u83, u84, u85, u86, u87, u88, u89, u90, u91, u92, u93, u94, u95, u96, u97, u98, u99, u100, u101, u102, u103, u104, u105, u106, u107, u108, u109, u110, u111, u112, u113, u114, u115, u116, u117, u118, u119, u120, u121, u122, u123, u124, u125, u126, u127, u128, u129, u130, u131, u132, u133, u134, u135, u136, u137, u138, u139, u140, u141, u142, u143, u144, u145, u146, u147, u148, u149, u150, u151, u152, u153, u154, u155, u156, u157, u158, u159, u160, u161, u162, u163, u164, u165, u166, u167, u168, u169, u170, u171, u172, u173, u174, u175, u176, u177, u178, u179, u180, u181, u182, u183, u184, u185, u186, u187, u188, u189, u190, u191, u192, u193, u194, u195, u196, u197, u198, u199, u200, u201, u202, u203, u204, u205, u206, u207, u208, u209, u210, u211, u212, u213, u214, u215, u216, u217, u218, u219, u220, u221, u222, u223, u224, u225, u226, u227, u228, u229, u230, u231, u232, u233, u234, u235, u236, u237, u238, u239, u240, u241, u242, u243, u244, u245, u246, u247, u248, u249, u250, u251, u252, u253, u254, u255, u256, u257, u258, u259, u260, u261, u262, u263, u264, u265, u266, u267, u268, u269, u270], defers := [] } W := by
  have hfl := hT.fLt
  have hvl := hT.vLt
  have a1 := (siz_setNonce V tg 1).1
  have a2 := siz_markMade (V.setNonce tg 1) tg
  have a3 := (siz_move ((V.setNonce tg 1).markMade tg) t.from_ tg t.value).2.1
  have a4 := (siz_move V t.from_ tg t.value).2.1
  have i1 : WInv T S og (V.setNonce tg 1).abs := by rw [YW.setNonce_abs]; exact hw.setNonce _ _ (by decide)
  have i2 : WInv T S og ((V.setNonce tg 1).markMade tg).abs := by rw [YW.markMade_abs]; exact i1.markMade _
  have hc : (st.now.code tg).length ≤ 256 := by rw [h.now]; exact hw.code tg
  have l1 := limLow (by omega) hw hTl hSl t.from_ t.value
  have l2 : YLim (V.move t.from_ tg t.value) := YLim.inv (by omega) (by rw [YW.move_abs]; exact hw.move _ _ _) hTl hSl
  have l3 : YLim (V.setNonce tg 1) := YLim.inv (by omega) i1 hTl hSl
  have l4 : YLim ((V.setNonce tg 1).markMade tg) := YLim.inv (by omega) i2 hTl hSl
  have l5 := limLow (by omega) i2 hTl hSl t.from_ t.value
  have l6 : YLim (((V.setNonce tg 1).markMade tg).move t.from_ tg t.value) := YLim.inv (by omega) (by rw [YW.move_abs]; exact i2.move _ _ _) hTl hSl
  have f0 : FOK (bgF0 st.now t tg st.txGas) := by
    refine ⟨(show (0 : Nat) ≤ 7 by decide), preA_or tg, (show (0 : Nat) ≤ 60000 by decide), by simp [bgF0], by simp [bgF0], htx, htg, hfl, hvl, ?_, by simp [bgF0], by simp [bgF0], by simp [bgF0], by simp [bgF0], by simp [bgF0]⟩
    show (if preA tg = 0 then _ else []).length ≤ 512
    split
    · omega
    · simp
  have f1 : t.create = true → FOK (bgF1 st.now t tg st.txGas) := fun q => ⟨(show (1 : Nat) ≤ 7 by decide), Or.inl rfl, (show (0 : Nat) ≤ 60000 by decide), by simp [bgF1], by simp [bgF1], htx, htg, hfl, hvl, hinit q, by simp [bgF1], by simp [bgF1], by simp [bgF1], by simp [bgF1], by simp [bgF1]⟩
  have hsl : ∀ y ∈ V.accts, y.slots.length ≤ 90000 := fun y hy => by
    have h1 := wts_mem hy
    have h3 : wts V.accts ≤ V.siz := by unfold YW.siz; omega
    have h4 : y.wt = 1 + y.slots.length := rfl
    omega
  exact bgTail u1 u2 u4 u6 u7 u9 u10 u11 u12 u13 u14 u15 u16 u17 u18 u19 u20 u21 u22 u23 u24 u25 u26 u27 u28 u29 u30 u31 u32 u33 u34 u35 u36 u37 u38 u39 u40 u41 u42 u43 u44 u45 u46 u47 u48 u49 u50 u51 u52 u53 u54 u55 u56 u57 u58 u59 u60 u61 u62 u63 u64 u65 u66 u67 u68 u69 u70 u71 u72 u73 u74 u75 u76 u77 u78 u79 u80 u81 u82 u83 u84 u85 u86 u87 u88 u89 u90 u91 u92 u93 u94 u95 u96 u97 u98 u99 u100 u101 u102 u103 u104 u105 u106 u107 u108 u109 u110 u111 u112 u113 u114 u115 u116 u117 u118 u119 u120 u121 u122 u123 u124 u125 u126 u127 u128 u129 u130 u131 u132 u133 u134 u135 u136 u137 u138 u139 u140 u141 u142 u143 u144 u145 u146 u147 u148 u149 u150 u151 u152 u153 u154 u155 u156 u157 u158 u159 u160 u161 u162 u163 u164 u165 u166 u167 u168 u169 u170 u171 u172 u173 u174 u175 u176 u177 u178 u179 u180 u181 u182 u183 u184 u185 u186 u187 u188 u189 u190 u191 u192 u193 u194 u195 u196 u197 u198 u199 u200 u201 u202 u203 u204 u205 u206 u207 u208 u209 u210 u211 u212 u213 u214 u215 u216 u217 u218 u219 u220 u221 u222 u223 u224 u225 u226 u227 u228 u229 u230 u231 u232 u233 u234 u235 u236 u237 u238 u239 u240 u241 u242 u243 u244 u245 u246 u247 u248 u249 u250 u251 u252 u253 u254 u255 u256 u257 u258 u259 u260 u261 u262 u263 u264 u265 u266 u267 u268 u269 u270 HLG h bT hT nTY b8 a8 htg n8Y (by omega) hYz (fun _ => f0) f1 hsl l1 l2 l3 l4 l5 l6 hQ hK
end
end Go.Proofs.YgvahwGreat
