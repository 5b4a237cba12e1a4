import Derived.Test.YgvahwGreatYb4
import Derived.Test.YgvahwGreatYb6
import Derived.Test.YgvahwGreatYc
namespace Go.Proofs.YgvahwGreat
open Go.RowKit
set_option linter.unusedSimpArgs false
theorem onet100b : OneT 113 := oneT_of (by kernel_rfl) (by kernel_rfl)
theorem onet93b : OneT 106 := oneT_of (by kernel_rfl) (by kernel_rfl)
theorem onet106b : OneT 119 := oneT_of (by kernel_rfl) (by kernel_rfl)
theorem rt108b : RowT 121 24 := rowT_of (by kernel_rfl) (by kernel_rfl)
theorem joinB4 {P Fc : World → Value → Nat → Prop} {G : Prop} (h : (∀ W u v, Fc W u v → P W u v) → G) (k : ∀ W u v, Fc W u v → P W u v) : G := h k
theorem upd_upd (c : Nat → Value) (i : Nat) (u v : Value) : updv (updv c i u) i v = updv c i v := by
  funext j; unfold updv; split <;> rfl
theorem startL_take (l : List YA) (i : Nat) : (startL (l.take i)).length ≤ (startL l).length := by
  have h := congrArg startL (List.take_append_drop i l)
  rw [startL_append] at h
  rw [← h, List.length_append]; omega
theorem onet101b : OneT 114 := oneT_of (by kernel_rfl) (by kernel_rfl)
section
variable {O : Nat → Prop} {W23 : World} {Y BT BA B8 tg bl T : Nat} {og : Nat → Nat → Nat} {c23 d cA cx : Nat → Value} {W : YW} {st : ASt} {tot : Nat} {r : Array Value} {t : ATx}
set_option maxRecDepth 100000 in
set_option maxHeartbeats 6400000 in
theorem bgStart {K : Act → World → Prop} {R : Ending → World → Prop} (u1 u2 u4 u6 u9 u10 u11 u12 u13 u14 u15 u16 u17 u18 u19 u20 u21 u22 u23 u24 u25 u26 u27 u28 u29 u30 u31 u32 u33 u34 u35 u36 u37 u38 u39 u40 u41 u42 u43 u44 u45 u46 u47 u48 u49 u50 u51 u52 u53 u54 u55 u56 u57 u58 u59 u60 u61 u62 u63 u64 u65 u66 u67 u68 u69 u70 u71 u72 u73 u74 u75 u76 u77 u78 u79 u80 u81 u82 u83 u84 u85 u86 u87 u88 u89 u90 u91 u92 u93 u94 u95 u96 u97 u98 u99 u100 u101 u102 u103 u104 u105 u106 u107 u108 u109 u110 u111 u112 u113 u114 u115 u116 u117 u118 u119 u120 u121 u122 u123 u124 u125 u126 u127 u128 u129 u130 u131 u132 u133 u134 u135 u136 u137 u138 u139 u140 u141 u142 u143 u144 u145 u146 u147 u148 u149 u150 u151 u152 u153 u154 u155 u156 u157 u158 u159 u160 u161 u162 u163 u164 u165 u166 u167 u168 u169 u170 u171 u172 u173 u174 u175 u176 u177 u178 u179 u180 u181 u182 u183 u184 u185 u186 u187 u188 u189 u190 u191 u192 u193 u194 u195 u196 u197 u198 u199 u200 u201 u202 u203 u204 u205 u206 u207 u208 u209 u210 u211 u212 u213 u214 u215 u216 u217 u218 u219 u220 u221 u222 u223 u224 u225 u226 u227 u228 u229 u230 u231 u232 u233 u234 u235 u236 u237 u238 u239 u240 u241 u242 u243 u244 u245 u246 u247 u248 u249 u250 u251 u252 u253 u254 u255 u256 u257 u258 u259 u260 u261 u262 u263 u264 u265 u266 u267 u268 u269 u270 : Value) (HLG : ∀ {O T : Nat → Prop} {w : World} {v : Value} {l : List ALog}, Small O w → LogL T O w v l → l.length ≤ 100000 → Calls Hvah.prog 80 #[v] w fun e w' => ∃ r, e = .returned r ∧ GRow 141 22 (LgC O w') (fun b => ¬ O b) w' r l ∧ Full r ∧ Ext w w') (b23 : Blk W23 Y 179 118 c23) (hZ0 : ∀ W', Mod (· = Y) W23 W' → Blk W' Y 179 118 (updv c23 8 (.slice none 0 0)) → YZ O (fun _ => False) W' Y BT 0 (updv c23 8 (.slice none 0 0)) d W [] st tot []) (bT23 : Blk W23 BT 174 40 (cf r)) (hT23 : TxC O W23 (cf r) t) (nTY : BT ≠ Y) (bA23 : Blk W23 BA 24 121 cA) (n123 : NV O W23 (cA 20) t.nonce) (n223 : NV O W23 (cA 21) bl) (nAY : BA ≠ Y) (bx23 : Blk W23 B8 20 31 cx) (ax : AAt cx 0 tg) (htgl : tg < 2 ^ 160) (n8Y : B8 ≠ Y) (hOY : O Y)
    (hsz : W.siz ≤ 70000) (hTl : T < P256) (hnn : t.nonce < 18446744073709551615) (hbP : bl < P256) (hgas : st.limit ≤ 1048576) (htx : st.txGas ≤ 1048576) (hinit : t.create = true → t.data.length ≤ 512) (hdata : t.data.length ≤ 1024) (hlen16 : t.access.length ≤ 16) (hkey : keysN t.access ≤ 64)
    (hw1 : WInv T 0 og (W.setNonce t.from_ (t.nonce + 1)).abs) (hw2 : WInv T 0 og ((W.setNonce t.from_ (t.nonce + 1)).setBal t.from_ (bl - st.limit * st.price)).abs)
    (hQ : ∀ w' W' L', (∃ O' F' n' c' d', YZ O' (fun _ => False) w' Y F' n' c' d' W' (startL W.accts) (bgEnd ({ st with orig := lookT (startL W.accts), now := (((((((st.now.setNonce t.from_ (t.nonce + 1)).setBal t.from_ (bl - st.limit * st.price)).warm t.from_).warm st.env.coinbase).warm tg).warm 4).warm 5).warmList t.access } : ASt) t tg) tot L' ∧ (∀ b, b < W23.heap.size → (O' b ↔ O b)) ∧ Mod (fun b => b = Y ∨ b = BT) W23 w') → W'.siz ≤ W.siz + 100 → (∀ y ∈ L', y.sv.siz ≤ W.siz + 100) → R (.returned (.int .u8 (0 : Nat))) w')
    (hK : ∀ x y, Code.wp Hvah.prog (ltail 14 (bbody Hvah.f29)) (BQ R) x y → K x y) : Code.wp Hvah.prog (lhead (ltail 13 (bbody Hvah.f29))) (Exit.then K (BQ R)) { tmps := #[.pointer (some ⟨Y, 0, none⟩), u1, u2, .pointer (some ⟨BT, 0, none⟩), u4, .pointer (some ⟨Y, 0, none⟩), u6, .pointer (some ⟨BA, 0, none⟩), .pointer (some ⟨B8, 0, none⟩), u9, u10, u11, u12, u13, u14, u15, u16, u17, u18, u19, u20, u21, u22, u23, u24, u25, u26, u27, u28, u29, u30, u31, u32, u33, u34, u35, u36, u37, u38, u39, u40, u41, u42, u43, u44, u45, u46, u47, u48, u49, u50, u51, u52, u53, u54, u55, u56, u57, u58, u59, u60, u61, u62, u63, u64, u65, u66, u67, u68, u69, u70, u71, u72, u73, u74, u75, u76, u77, u78, u79, u80, u81, u82, u83, u84, u85, u86, u87, u88, u89, u90, u91, u92, u93, u94, u95, u96, u97, u98, u99, u100, u101, u102, u103, u104, u105, u106, u107, u108, u109, u110, u111, u112, u113, u114, u115, u116, u117, u118, u119, u120, u121, u122, u123, u124, u125, u126, u127, u128, u129, u130, u131, u132, u133, u134, u135, u136, u137, u138, u139, u140, u141, u142, u143, u144, u145, u146, u147, u148, u149, u150, u151, u152, u153, u154, u155, u156, u157, u158, u159, u160, u161, u162, u163, u164, u165, u166, u167, u168, u169, u170, u171, u172, u173, u174, u175, u176, u177, u178, u179, u180, u181, u182, u183, u184, u185, u186, u187, u188, u189, u190, u191, u192, u193, u194, u195, u196, u197, u198, u199, u200, u201, u202, u203, u204, u205, u206, u207, u208, u209, u210, u211, u212, u213, u214, u215, u216, u217, u218, u219, u220, u221, u222, u223, u224, u225, u226, u227, u228, u229, u230, u231, u232, u233, u234, u235, u236, u237, u238, u239, u240, u241, u242, u243, u244, u245, u246, u247, u248, u249, u250, u251, u252, u253, u254, u255, u256, u257, u258, u259, u260, u261, u262, u263, u264, u265, u266, u267, u268, u269, u270], defers := [] } W23 := by
  have hsY : ∀ b, ¬ O b → ¬ b = Y := fun b hb q => hb (q ▸ hOY)
  simp only [ltail, lhead, bbody, Hvah.f29] at hK ⊢
  unfold BQ at hK ⊢
  go_upto_region 18 with ((with_reducible (refine Veil.out ?_; apply wl_storeC onet100b)); (case hx => rfl); (case hy => rfl); (case h1 => rfl); (case hB => exact b23); (case hi => decide); rintro W24 b24 m24)
  have hZ' := hZ0 W24 m24 b24
  obtain ⟨c24, hZ, s24⟩ : ∃ f, YZ O (fun _ => False) W24 Y BT 0 f d W [] st tot [] ∧ Hid (f 8 = .slice none 0 0) := ⟨_, hZ', updv_same _ _ _⟩
  have bT24 := bT23.mod m24 nTY
  have bA24 := bA23.mod m24 nAY
  have bx24 := bx23.mod m24 n8Y
  have n124 := n123.keep m24 hsY
  have n224 := n223.keep m24 hsY
  have hT24 : TxC O W24 (cf r) t := hT23.keepb m24 hOY
  clear hZ' hZ0 b24 b23 bT23 bA23 bx23 n123 n223 hT23
  have hacc := hZ.wc.accts
  obtain ⟨obase, ocap, hav, hocap⟩ := hacc.slice
  have hav' : c24 0 = .slice obase W.accts.length ocap := hav
  have hwf := hZ.wf
  obtain ⟨l, hl⟩ : ∃ x, Hid (W.accts = x) := ⟨_, rfl⟩
  have hsl : (startL W.accts).length ≤ W.siz := start_siz W
  rw [hl.out] at hacc hav' hsl
  have hslots : ∀ x ∈ l, x.slots.length ≤ 80000 := fun x hx => by
    have h1 := wts_mem (l := W.accts) (by rw [hl.out]; exact hx)
    have h3 : wts W.accts ≤ W.siz := by unfold YW.siz; omega
    have h4 : x.wt = 1 + x.slots.length := rfl
    omega
  have bY24 := hZ.bY
  have hYl24 := bY24.lt
  clear hav
  go_upto_block 0 with ((with_reducible (refine Veil.out ?_; apply wl_loadC onet93b)); (case hw => rfl); (case hx => rfl); (case hc => exact (bY24.cell (i := 0) (by decide)).trans (congrArg some hav')))
  try simp only [Act.put]
  go_cut [] (fun wx => ∃ v, Blk wx Y 179 118 (updv c24 8 v) ∧ GRow 149 22 (TmC O W24) (fun b => W24.heap.size ≤ b) wx v (startL l) ∧ Mod (· = Y) W24 wx)
  case first =>
    go_upto_region 19 with (fail)
    try simp only [Act.put]
    go_loopw [96] (fun iv wr => ∃ (i : Nat) (v : Value), iv = .int .i64 (i : Nat) ∧ i ≤ l.length ∧ Blk wr Y 179 118 (updv c24 8 v) ∧ GRow 149 22 (TmC O W24) (fun b => W24.heap.size ≤ b) wr v (startL (l.take i)) ∧ Mod (· = Y) W24 wr) (fun iv _ => l.length - (intOf iv).toNat)
    case atStart => exact ⟨0, .slice none 0 0, rfl, Nat.zero_le _, bY24.same (fun j hj => by unfold updv; split <;> first | rfl | (rename_i q; rw [q, s24.out])), Or.inl ⟨rfl, rfl⟩, Mod.refl _ _⟩
    case round =>
      obtain ⟨i, v, rfl, hi, bYr, hGr, hm⟩ := hrel
      rcases Nat.lt_or_ge i l.length with hlt | hge
      · have z1 : (i : Int) < l.length := by omega
        rcases hacc with ⟨rfl, _⟩ | ⟨b0, cap0, cs, hv0', hc1, hc2, hb0, hOb0, hrow0⟩
        · simp at hlt
        rw [hav'] at hv0'
        injection hv0' with q1 q2 q3
        clear q2
        subst q1
        subst q3
        have hb0Y : ¬ b0 = Y := fun q => hOb0 (q ▸ hOY)
        have hri := hrow0 i hlt
        obtain ⟨x, hx⟩ : ∃ x, Hid (l[i] = x) := ⟨l[i], rfl⟩
        have hxs := hslots l[i] (List.getElem_mem _)
        have hst1 : startL (l.take (i + 1)) = startL (l.take i) ++ (l[i].slots.map fun s => (l[i].addr, s.1, s.2)) := by
          rw [List.take_succ_eq_append_getElem hlt, startL_append, startL_cons, startL_nil, List.append_nil]
        have hln : (startL (l.take i)).length ≤ 70000 := by
          have := startL_take l i
          omega
        rw [hx.out] at hri hxs hst1
        have hax := hri.parts.aLt
        have hsl2 := hri.parts.slots
        obtain ⟨so, sc, hsv, _⟩ := hsl2.slice
        have hones : Ones (rowOf cs (i * 24) 24) := ones_of (fun q hq => by
          rw [rowOf_size] at hq
          rw [cf_rowOf _ _ _ hq]
          rcases (show q < 20 ∨ q = 20 ∨ q = 21 ∨ q = 22 ∨ q = 23 by omega) with h | rfl | rfl | rfl | rfl
          · exact aat_one hri.addr hax q h
          · exact hri.parts.nonce.one
          · exact hri.parts.bal.one
          · exact hri.parts.code.one
          · rw [hsv]; rfl)
        obtain ⟨i1, hi1⟩ : ∃ z : Nat, Hid ((i + 1 : Nat) = z) := ⟨_, rfl⟩
        have j1 : IntKind.i64.wrap ((i : Int) + 1) = (i1 : Int) := by rw [IntKind.wrap_i64, ← hi1.out]; omega
        have hb0r := hb0.mod hm hb0Y
        obtain ⟨z8, hz81, hz82⟩ := z108m
        go_upto_region 21 with (first | ((with_reducible (refine Veil.out ?_; apply wl_loadRow rt108b)); (case hx => rfl); (case hB => exact hb0r); (case hi => omega)) | ((with_reducible (refine Veil.out ?_; apply wl_allocB hz81)); (case hn => exact hz82); rintro L W3 e3 b3 g3) | ((with_reducible (refine Veil.out ?_; apply wl_storeRow rt108b)); (case hx => rfl); (case hy => rfl); (case hr => exact rowOf_size _ _ _); (case h1 => exact hones); (case hB => exact b3); (case hi => decide); rintro W4 b4 m4))
        have hE0 : Ext wr W4 := Ext.trans_mod e3 m4 (fun q hq => by have hq2 : q = L := hq; rw [hq2]; exact g3)
        obtain ⟨cL, hcL⟩ : ∃ z, Hid (layv (cf z8) 0 (rowOf cs (i * 24) 24) = z) := ⟨_, rfl⟩
        have hLc : ∀ j, j < 24 → cL j = cs (i * 24 + j) := fun j hj => by
          rw [← hcL.out]
          have := layv_in (cf z8) 0 (rowOf cs (i * 24) 24) (j := j) (by rw [rowOf_size]; exact hj)
          rw [Nat.zero_add] at this
          rw [this, cf_rowOf _ _ _ hj]
        rw [hcL.out] at b4
        have hL23 : cL 23 = .slice so x.slots.length sc := by rw [hLc 23 (by decide)]; exact hsv
        have hLa : AAt cL 0 x.addr := fun j u hu => by
          have hj := (Array.getElem?_eq_some_iff.1 hu).1
          rw [av_size hax] at hj
          rw [Nat.zero_add, hLc j (by omega)]
          exact hri.addr j u hu
        have hLY : ¬ L = Y := fun q => by have := hm.size; omega
        have bY4 := bYr.ext hE0
        have gL : W24.heap.size ≤ L := Nat.le_trans hm.size g3
        have hG4 : GRow 149 22 (TmC O W24) (fun b => W24.heap.size ≤ b ∧ b ≠ L) W4 v (startL (l.take i)) := (hGr.mono (fun _ _ _ k => k) (fun b hb q => ⟨q, fun e => by omega⟩) (fun _ _ _ _ k _ => k)).ext hE0 (fun _ _ _ k => k)
        have m4' : Mod (· = Y) W24 W4 := hm.trans_ext hE0
        rw [hsv] at hsl2
        obtain ⟨sl, hsl9⟩ : ∃ z, Hid (x.slots = z) := ⟨_, rfl⟩
        obtain ⟨S0, hS0⟩ : ∃ z, Hid (startL (l.take i) = z) := ⟨_, rfl⟩
        rw [hsl9.out] at hsl2 hL23 hxs hst1
        rw [hS0.out] at hG4 hln hst1
        replace hst1 := (show Hid _ from hst1)
        clear b3 m4 e3 hcL hLc hri hsv hones hGr hb0r hrow0 bYr
        go_upto_block 2 with ((with_reducible (refine Veil.out ?_; apply wl_loadC onet106b)); (case hw => rfl); (case hx => rfl); (case hc => exact (b4.cell (i := 23) (by decide)).trans (congrArg some hL23)))
        try simp only [Act.put]
        go_upto_region 22 with (fail)
        try simp only [Act.put]
        go_loopw [103] (fun iv wr => ∃ (j : Nat) (v' : Value), iv = .int .i64 (j : Nat) ∧ j ≤ sl.length ∧ Blk wr Y 179 118 (updv c24 8 v') ∧ GRow 149 22 (TmC O W24) (fun b => W24.heap.size ≤ b ∧ b ≠ L) wr v' (S0 ++ (sl.take j).map fun s => (x.addr, s.1, s.2)) ∧ Blk wr L 24 121 cL ∧ Mod (· = Y) W24 wr) (fun iv _ => sl.length - (intOf iv).toNat)
        case atStart => exact ⟨0, v, rfl, Nat.zero_le _, bY4, by simpa using hG4, b4, m4'⟩
        case round =>
          obtain ⟨j, vj, rfl, hj, bYj, hGj, bLj, hmj⟩ := hrel
          rcases Nat.lt_or_ge j sl.length with hjlt | hjge
          · have zj : (j : Int) < sl.length := by omega
            rcases hsl2 with ⟨q, _⟩ | ⟨sb, scap, ss, q1, q2, q3, q4, q5, q6⟩
            · rw [q] at hjlt; simp at hjlt
            injection q1 with q1a q1b q1c
            clear q1b
            subst q1a
            subst q1c
            have hsj := q6 j hjlt
            have sbY : ¬ sb = Y := fun q => q5 (q ▸ hOY)
            have hsb := q4.mod hmj sbY
            obtain ⟨sx, hsx⟩ : ∃ z, Hid (sl[j] = z) := ⟨sl[j], rfl⟩
            have htk : (sl.take (j + 1)).map (fun s => (x.addr, s.1, s.2)) = (sl.take j).map (fun s => (x.addr, s.1, s.2)) ++ [(x.addr, sl[j].1, sl[j].2)] := by
              rw [List.take_succ_eq_append_getElem hjlt, List.map_append]; rfl
            rw [hsx.out] at hsj htk
            replace htk := (show Hid _ from htk)
            have hk1 := hsj.key
            have hk2 := hsj.val
            have honeS : Ones (rowOf ss (j * 2) 2) := ones_of (fun q hq => by
              rw [rowOf_size] at hq
              rw [cf_rowOf _ _ _ hq]
              rcases (show q = 0 ∨ q = 1 by omega) with rfl | rfl
              · exact hk1.one
              · exact hk2.one)
            obtain ⟨j2, hj2⟩ : ∃ z : Nat, Hid ((j + 1 : Nat) = z) := ⟨_, rfl⟩
            have jj1 : IntKind.i64.wrap ((j : Int) + 1) = (j2 : Int) := by rw [IntKind.wrap_i64, ← hj2.out]; omega
            go_upto_region 24 with (first | ((with_reducible (refine Veil.out ?_; apply wl_loadRow rt116)); (case hx => rfl); (case hB => exact hsb); (case hi => omega)) | ((with_reducible (refine Veil.out ?_; apply wl_allocB zero116')); (case hn => rfl); rintro BS WS eS bS gS) | ((with_reducible (refine Veil.out ?_; apply wl_storeRow rt116)); (case hx => rfl); (case hy => rfl); (case hr => exact rowOf_size _ _ _); (case h1 => exact honeS); (case hB => exact bS); (case hi => decide); rintro W5 b5 m5))
            have hE5 : Ext wr W5 := Ext.trans_mod eS m5 (fun q hq => by have hq2 : q = BS := hq; rw [hq2]; exact gS)
            have bY5 := bYj.ext hE5
            have bL5 := bLj.ext hE5
            have m5' := hmj.trans_ext hE5
            have c50 : layv (cf #[.slice none 0 0, .slice none 0 0]) 0 (rowOf ss (j * 2) 2) 0 = ss (j * 2) := by
              have := layv_in (cf #[.slice none 0 0, .slice none 0 0]) 0 (rowOf ss (j * 2) 2) (j := 0) (by rw [rowOf_size]; decide)
              rw [Nat.zero_add] at this
              rw [this, cf_rowOf _ _ _ (by decide), Nat.add_zero]
            have c51 : layv (cf #[.slice none 0 0, .slice none 0 0]) 0 (rowOf ss (j * 2) 2) 1 = ss (j * 2 + 1) := by
              have := layv_in (cf #[.slice none 0 0, .slice none 0 0]) 0 (rowOf ss (j * 2) 2) (j := 1) (by rw [rowOf_size]; decide)
              rw [Nat.zero_add] at this
              rw [this, cf_rowOf _ _ _ (by decide)]
            obtain ⟨cS, hcS⟩ : ∃ z, Hid (layv (cf #[.slice none 0 0, .slice none 0 0]) 0 (rowOf ss (j * 2) 2) = z) := ⟨_, rfl⟩
            rw [hcS.out] at b5 c50 c51
            rw [← c50] at hk1
            rw [← c51] at hk2
            have hBSL : BS ≠ L := fun q => by have := bLj.lt; omega
            have hBSY : BS ≠ Y := fun q => by have := bYj.lt; omega
            have hG5 : GRow 149 22 (TmC O W24) (fun b => (W24.heap.size ≤ b ∧ b ≠ L) ∧ b ≠ BS) W5 vj (S0 ++ (sl.take j).map fun s => (x.addr, s.1, s.2)) := (hGj.mono (fun _ _ _ k => k) (fun b hb q => ⟨q, fun e => by omega⟩) (fun _ _ _ _ k _ => k)).ext hE5 (fun _ _ _ k => k)
            have hTN : ∀ W', Ext W5 W' → ∀ b, W'.heap.size ≤ b → (W24.heap.size ≤ b ∧ b ≠ L) ∧ b ≠ BS := fun W' hW b hb => ⟨⟨Nat.le_trans (Nat.le_trans m5'.size hW.size) hb, fun e => by have := bL5.lt; have := hW.size; omega⟩, fun e => by have := b5.lt; have := hW.size; omega⟩
            have hlen : (S0 ++ (sl.take j).map fun s => (x.addr, s.1, s.2)).length ≤ 1048576 := by
              rw [List.length_append, List.length_map, List.length_take]; omega
            have k8 : updv c24 8 vj 8 = vj := updv_same _ _ _
            have K8 : ∀ W', Ext W5 W' → W'.cell? ⟨Y, 8, none⟩ = some vj := fun W' hW => by rw [(bY5.ext hW).cell (by decide), k8]
            obtain ⟨LS, hLS⟩ : ∃ z, Hid ((S0 ++ (sl.take j).map fun s => (x.addr, s.1, s.2)) = z) := ⟨_, rfl⟩
            rw [hLS.out] at hG5 hlen
            clear bS eS m5 hcS hsb honeS hsj bYj bLj hGj hE5 c50 c51 hmj
            refine w_ext ?_
            rintro W0 hW0
            refine' joinB4 (P := _) (Fc := fun W11 v9 B9 => Blk W11 Y 179 118 (updv (updv c24 8 vj) 8 v9) ∧ GRow 149 22 (TmC O W24) (fun b => W24.heap.size ≤ b ∧ b ≠ L) W11 v9 (LS ++ [(x.addr, sx.1, sx.2)]) ∧ Blk W11 L 24 121 cL ∧ Mod (· = Y) W24 W11) (fun key => _) _
            rotate_left
            refine wp_region_held_drew (S := fun w' => Mod (fun b => b = Y ∨ ((W24.heap.size ≤ b ∧ b ≠ L) ∧ b ≠ BS)) W0 w') (by kernel_rfl) (Mod.refl _ _).drew (fun hHeld => ?_)
            have HH : Hid (Mod (fun b => b = Y ∨ ((W24.heap.size ≤ b ∧ b ≠ L) ∧ b ≠ BS)) W0 _) := hHeld
            clear hHeld
            refine wpAnyH_take (i := 0) (v := ?_) rfl (by kernel_rfl) (by kernel_rfl) (by kernel_rfl) (fun _ _ _ h => h) (Or.inl ⟨by rfl, ?_⟩) HH.out ?_
            rotate_left
            · intro w hSw; go_simp; try with_reducible rfl
            change wpAnyH _ _ _ _ _ _ _ (Act.put _ (some 107) _) _
            simp only [Act.put, List.setIfInBounds_toArray, List.set_cons_zero, List.set_cons_succ]
            refine wpAnyH_take (i := 1) (v := ?_) rfl (by kernel_rfl) (by kernel_rfl) (by kernel_rfl) (fun _ _ _ h => h) (Or.inl ⟨by rfl, ?_⟩) HH.out ?_
            rotate_left
            · intro w hSw; go_simp; try with_reducible rfl
            change wpAnyH _ _ _ _ _ _ _ (Act.put _ (some 108) _) _
            simp only [Act.put, List.setIfInBounds_toArray, List.set_cons_zero, List.set_cons_succ]
            refine wpAnyH_take (i := 2) (v := ?_) rfl (by kernel_rfl) (by kernel_rfl) (by kernel_rfl) (fun _ _ _ h => h) (Or.inl ⟨by rfl, ?_⟩) HH.out ?_
            rotate_left
            · intro w hSw; go_simp; try with_reducible rfl
            change wpAnyH _ _ _ _ _ _ _ (Act.put _ (some 109) _) _
            simp only [Act.put, List.setIfInBounds_toArray, List.set_cons_zero, List.set_cons_succ]
            refine wpAnyH_take (i := 3) (v := ?_) rfl (by kernel_rfl) (by kernel_rfl) (by kernel_rfl) (fun _ _ _ h => h) (Or.inl ⟨by rfl, ?_⟩) HH.out ?_
            rotate_left
            · intro w hSw; go_simp; try with_reducible rfl
            change wpAnyH _ _ _ _ _ _ _ (Act.put _ (some 110) _) _
            simp only [Act.put, List.setIfInBounds_toArray, List.set_cons_zero, List.set_cons_succ]
            refine wpAnyH_take (i := 5) (v := ?_) rfl (by kernel_rfl) (by kernel_rfl) (by kernel_rfl) (fun _ _ _ h => h) (Or.inl ⟨by rfl, ?_⟩) HH.out ?_
            rotate_left
            · intro w hSw; go_simp; try with_reducible rfl
            change wpAnyH _ _ _ _ _ _ _ (Act.put _ (some 112) _) _
            simp only [Act.put, List.setIfInBounds_toArray, List.set_cons_zero, List.set_cons_succ]
            refine wpAnyH_take (i := 6) rfl (by kernel_rfl) (by kernel_rfl) (by kernel_rfl) (fun _ _ _ h => h) (yields_A (by rfl) rfl rfl (fun w hSw => (bL5.ext hW0).mod hSw (fun e => e.elim hLY (fun e => e.1.2 rfl))) hLa hax (by decide)) HH.out ?_
            change wpAnyH _ _ _ _ _ _ _ (Act.put _ (some 113) _) _
            simp only [Act.put, List.setIfInBounds_toArray, List.set_cons_zero, List.set_cons_succ]
            refine wpAnyH_take (i := 7) (v := ?_) rfl (by kernel_rfl) (by kernel_rfl) (by kernel_rfl) (fun _ _ _ h => h) (Or.inl ⟨by rfl, ?_⟩) HH.out ?_
            rotate_left
            · intro w hSw; go_simp; try with_reducible rfl
            change wpAnyH _ _ _ _ _ _ _ (Act.put _ (some 114) _) _
            simp only [Act.put, List.setIfInBounds_toArray, List.set_cons_zero, List.set_cons_succ]
            refine wpAnyH_take (i := 8) rfl (by kernel_rfl) (by kernel_rfl) (by kernel_rfl) (fun _ _ _ h => h) (yieldsIf_load1 (by rfl) _ _ rfl _ _ rfl onet96b _ (fun w hSw => ((b5.ext hW0).mod hSw (fun e => e.elim hBSY (fun e => e.2 rfl))).cell (by decide))) HH.out ?_
            change wpAnyH _ _ _ _ _ _ _ (Act.put _ (some 115) _) _
            simp only [Act.put, List.setIfInBounds_toArray, List.set_cons_zero, List.set_cons_succ]
            refine wpAnyH_take (i := 9) (v := ?_) rfl (by kernel_rfl) (by kernel_rfl) (by kernel_rfl) (fun _ _ _ h => h) (Or.inl ⟨by rfl, ?_⟩) HH.out ?_
            rotate_left
            · intro w hSw; go_simp; try with_reducible rfl
            change wpAnyH _ _ _ _ _ _ _ (Act.put _ (some 116) _) _
            simp only [Act.put, List.setIfInBounds_toArray, List.set_cons_zero, List.set_cons_succ]
            refine wpAnyH_take (i := 10) rfl (by kernel_rfl) (by kernel_rfl) (by kernel_rfl) (fun _ _ _ h => h) (yieldsIf_load1 (by rfl) _ _ rfl _ _ rfl onet96b _ (fun w hSw => ((b5.ext hW0).mod hSw (fun e => e.elim hBSY (fun e => e.2 rfl))).cell (by decide))) HH.out ?_
            change wpAnyH _ _ _ _ _ _ _ (Act.put _ (some 117) _) _
            simp only [Act.put, List.setIfInBounds_toArray, List.set_cons_zero, List.set_cons_succ]
            refine wpAnyH_take (i := 11) rfl (by kernel_rfl) (by kernel_rfl) (by kernel_rfl) (fun _ _ _ h => h) (yields_build (ps := [(0, .agg (av x.addr)), (1, cS 0), (2, cS 1)]) (by rfl) rfl (b140s hax hk1.one hk2.one) (by simp [Act.eval])) HH.out ?_
            change wpAnyH _ _ _ _ _ _ _ (Act.put _ (some 118) _) _
            simp only [Act.put, List.setIfInBounds_toArray, List.set_cons_zero, List.set_cons_succ]
            refine wpAnyH_ready (rs := [4, 12]) (by kernel_rfl) (by simp) ?_
            refine (AllReadyH.cons rfl (fun K hK => ?_) (AllReadyH.cons rfl (fun K hK => ?_) AllReadyH.nil))
            refine step_any rfl (op_loadK rfl onet100b rfl (K8 _ (by (repeat (first | with_reducible exact Ext.refl _ | with_reducible assumption | refine Ext.trans ?_ (by with_reducible assumption) | refine Ext.alloc ?_ _ _ | refine Ext.drew ?_ | refine Ext.drewN ?_ _)))) ?_)
            refine hK.out _ _ HH.out (fun hHeld => ?_)
            clear hK K HH
            have HH : Hid (Mod (fun b => b = Y ∨ ((W24.heap.size ≤ b ∧ b ≠ L) ∧ b ≠ BS)) W0 _) := hHeld
            clear hHeld
            change wpAnyH _ _ _ _ _ _ _ (Act.put _ (some 111) _) _
            simp only [Act.put, List.setIfInBounds_toArray, List.set_cons_zero, List.set_cons_succ]
            refine wpAnyH_ready (rs := [12]) (by kernel_rfl) (by simp) ?_
            refine AllReadyH.cons rfl (fun K hK => ?_) AllReadyH.nil
            refine step_any rfl (op_build1 149 Hvah.t149 _ 22 rfl under100 info140 zero140 size140 zs140 (by decide) (by decide) (tmV x.addr (cS 0) (cS 1)) (tmV_size hax _ _) rfl ?_)
            rintro B9 W9 e9 r9 g9
            refine hK.out _ _ (HH.out.trans_ext e9) (fun hHeld => ?_)
            clear hK K HH
            have HH : Hid (Mod (fun b => b = Y ∨ ((W24.heap.size ≤ b ∧ b ≠ L) ∧ b ≠ BS)) W0 _) := hHeld
            clear hHeld
            change wpAnyH _ _ _ _ _ _ _ (Act.put _ (some 119) _) _
            simp only [Act.put, List.setIfInBounds_toArray, List.set_cons_zero, List.set_cons_succ]
            refine wpAnyH_ready (rs := [13]) (by kernel_rfl) (by simp) ?_
            refine AllReadyH.cons rfl (fun K hK => ?_) AllReadyH.nil
            have eX : Ext W5 W9 := by (repeat (first | with_reducible exact Ext.refl _ | with_reducible assumption | refine Ext.trans ?_ (by with_reducible assumption) | refine Ext.alloc ?_ _ _ | refine Ext.drew ?_ | refine Ext.drewN ?_ _))
            refine step_pushT rfl _ _ 113 rfl sl100 vj LS _ (hTN _ eX) (hG5.ext eX (fun _ _ _ k => k)) hlen ⟨B9, 0, none⟩ (tmV x.addr (cS 0) (cS 1)) (tmV_size hax _ _) r9 (tmV_one hk1.one hk2.one) rfl rfl (x.addr, sx.1, sx.2) (fun c o hc => tmV_row hax hk1 hk2 c o hc) (fun c c' o y hc k => k.cells6 hc) ?_
            rintro v9 W10 hG10 m10
            refine hK.out _ _ (HH.out.trans (m10.sub (fun b hb => Or.inr hb))) (fun hHeld => ?_)
            clear hK K HH
            have HH : Hid (Mod (fun b => b = Y ∨ ((W24.heap.size ≤ b ∧ b ≠ L) ∧ b ≠ BS)) W0 _) := hHeld
            clear hHeld
            change wpAnyH _ _ _ _ _ _ _ (Act.put _ (some 120) _) _
            simp only [Act.put, List.setIfInBounds_toArray, List.set_cons_zero, List.set_cons_succ]
            refine wpAnyH_take (i := 14) (v := ?_) rfl (by kernel_rfl) (by kernel_rfl) (by kernel_rfl) (fun _ _ _ h => h) (Or.inl ⟨by rfl, ?_⟩) HH.out ?_
            rotate_left
            · intro w hSw; go_simp; try with_reducible rfl
            change wpAnyH _ _ _ _ _ _ _ (Act.put _ (some 121) _) _
            simp only [Act.put, List.setIfInBounds_toArray, List.set_cons_zero, List.set_cons_succ]
            refine wpAnyH_take (i := 15) (v := ?_) rfl (by kernel_rfl) (by kernel_rfl) (by kernel_rfl) (fun _ _ _ h => h) (Or.inl ⟨by rfl, ?_⟩) HH.out ?_
            rotate_left
            · intro w hSw; go_simp; try with_reducible rfl
            change wpAnyH _ _ _ _ _ _ _ (Act.put _ (some 122) _) _
            simp only [Act.put, List.setIfInBounds_toArray, List.set_cons_zero, List.set_cons_succ]
            refine wpAnyH_ready (rs := [16]) (by kernel_rfl) (by simp) ?_
            refine AllReadyH.cons rfl (fun K hK => ?_) AllReadyH.nil
            have bY10 := (bY5.ext eX).mod m10 (fun q => by have := q.1.1; omega)
            refine step_any rfl (op_store1 rfl onet100b rfl rfl (grow_onez hG10) bY10 (by decide) ?_)
            rintro W11 b9 m11
            have bL9 := ((bL5.ext eX).mod m10 (fun q => q.1.2 rfl)).mod m11 hLY
            have hG9 : GRow 149 22 (TmC O W24) (fun b => W24.heap.size ≤ b ∧ b ≠ L) W11 v9 (LS ++ [(x.addr, sx.1, sx.2)]) := hG10.mono (fun _ _ _ k => k) (fun b _ q => q.1) (fun b n t c k q => k.mod m11 (fun e => by have e2 : b = Y := e; have := q.1.1; omega))
            have m9' : Mod (· = Y) W24 W11 := ((m5'.trans_ext eX).trans' m10 (fun b q => Or.inr q.1.1)).trans m11
            refine hK.out _ _ (HH.out.trans (m11.sub (fun b hb => Or.inl hb))) (fun hHeld => ?_)
            clear hK K HH
            have HH : Hid (Mod (fun b => b = Y ∨ ((W24.heap.size ≤ b ∧ b ≠ L) ∧ b ≠ BS)) W0 _) := hHeld
            clear hHeld
            change wpAnyH _ _ _ _ _ _ _ (Act.put _ none _) _
            simp only [Act.put, List.setIfInBounds_toArray, List.set_cons_zero, List.set_cons_succ]
            refine wpAnyH_done (by kernel_rfl) ?_ _
            exact key W11 v9 B9 ⟨b9, hG9, bL9, m9'⟩
            refine step_any rfl (op_build1 149 Hvah.t149 _ 22 rfl under100 info140 zero140 size140 zs140 (by decide) (by decide) (tmV x.addr (cS 0) (cS 1)) (tmV_size hax _ _) rfl ?_)
            rintro B9 W9 e9 r9 g9
            refine hK.out _ _ (HH.out.trans_ext e9) (fun hHeld => ?_)
            clear hK K HH
            have HH : Hid (Mod (fun b => b = Y ∨ ((W24.heap.size ≤ b ∧ b ≠ L) ∧ b ≠ BS)) W0 _) := hHeld
            clear hHeld
            change wpAnyH _ _ _ _ _ _ _ (Act.put _ (some 119) _) _
            simp only [Act.put, List.setIfInBounds_toArray, List.set_cons_zero, List.set_cons_succ]
            refine wpAnyH_ready (rs := [4]) (by kernel_rfl) (by simp) ?_
            refine AllReadyH.cons rfl (fun K hK => ?_) AllReadyH.nil
            refine step_any rfl (op_loadK rfl onet100b rfl (K8 _ (by (repeat (first | with_reducible exact Ext.refl _ | with_reducible assumption | refine Ext.trans ?_ (by with_reducible assumption) | refine Ext.alloc ?_ _ _ | refine Ext.drew ?_ | refine Ext.drewN ?_ _)))) ?_)
            refine hK.out _ _ HH.out (fun hHeld => ?_)
            clear hK K HH
            have HH : Hid (Mod (fun b => b = Y ∨ ((W24.heap.size ≤ b ∧ b ≠ L) ∧ b ≠ BS)) W0 _) := hHeld
            clear hHeld
            change wpAnyH _ _ _ _ _ _ _ (Act.put _ (some 111) _) _
            simp only [Act.put, List.setIfInBounds_toArray, List.set_cons_zero, List.set_cons_succ]
            refine wpAnyH_ready (rs := [13]) (by kernel_rfl) (by simp) ?_
            refine AllReadyH.cons rfl (fun K hK => ?_) AllReadyH.nil
            have eX : Ext W5 W9 := by (repeat (first | with_reducible exact Ext.refl _ | with_reducible assumption | refine Ext.trans ?_ (by with_reducible assumption) | refine Ext.alloc ?_ _ _ | refine Ext.drew ?_ | refine Ext.drewN ?_ _))
            refine step_pushT rfl _ _ 113 rfl sl100 vj LS _ (hTN _ eX) (hG5.ext eX (fun _ _ _ k => k)) hlen ⟨B9, 0, none⟩ (tmV x.addr (cS 0) (cS 1)) (tmV_size hax _ _) r9 (tmV_one hk1.one hk2.one) rfl rfl (x.addr, sx.1, sx.2) (fun c o hc => tmV_row hax hk1 hk2 c o hc) (fun c c' o y hc k => k.cells6 hc) ?_
            rintro v9 W10 hG10 m10
            refine hK.out _ _ (HH.out.trans (m10.sub (fun b hb => Or.inr hb))) (fun hHeld => ?_)
            clear hK K HH
            have HH : Hid (Mod (fun b => b = Y ∨ ((W24.heap.size ≤ b ∧ b ≠ L) ∧ b ≠ BS)) W0 _) := hHeld
            clear hHeld
            change wpAnyH _ _ _ _ _ _ _ (Act.put _ (some 120) _) _
            simp only [Act.put, List.setIfInBounds_toArray, List.set_cons_zero, List.set_cons_succ]
            refine wpAnyH_take (i := 14) (v := ?_) rfl (by kernel_rfl) (by kernel_rfl) (by kernel_rfl) (fun _ _ _ h => h) (Or.inl ⟨by rfl, ?_⟩) HH.out ?_
            rotate_left
            · intro w hSw; go_simp; try with_reducible rfl
            change wpAnyH _ _ _ _ _ _ _ (Act.put _ (some 121) _) _
            simp only [Act.put, List.setIfInBounds_toArray, List.set_cons_zero, List.set_cons_succ]
            refine wpAnyH_take (i := 15) (v := ?_) rfl (by kernel_rfl) (by kernel_rfl) (by kernel_rfl) (fun _ _ _ h => h) (Or.inl ⟨by rfl, ?_⟩) HH.out ?_
            rotate_left
            · intro w hSw; go_simp; try with_reducible rfl
            change wpAnyH _ _ _ _ _ _ _ (Act.put _ (some 122) _) _
            simp only [Act.put, List.setIfInBounds_toArray, List.set_cons_zero, List.set_cons_succ]
            refine wpAnyH_ready (rs := [16]) (by kernel_rfl) (by simp) ?_
            refine AllReadyH.cons rfl (fun K hK => ?_) AllReadyH.nil
            have bY10 := (bY5.ext eX).mod m10 (fun q => by have := q.1.1; omega)
            refine step_any rfl (op_store1 rfl onet100b rfl rfl (grow_onez hG10) bY10 (by decide) ?_)
            rintro W11 b9 m11
            have bL9 := ((bL5.ext eX).mod m10 (fun q => q.1.2 rfl)).mod m11 hLY
            have hG9 : GRow 149 22 (TmC O W24) (fun b => W24.heap.size ≤ b ∧ b ≠ L) W11 v9 (LS ++ [(x.addr, sx.1, sx.2)]) := hG10.mono (fun _ _ _ k => k) (fun b _ q => q.1) (fun b n t c k q => k.mod m11 (fun e => by have e2 : b = Y := e; have := q.1.1; omega))
            have m9' : Mod (· = Y) W24 W11 := ((m5'.trans_ext eX).trans' m10 (fun b q => Or.inr q.1.1)).trans m11
            refine hK.out _ _ (HH.out.trans (m11.sub (fun b hb => Or.inl hb))) (fun hHeld => ?_)
            clear hK K HH
            have HH : Hid (Mod (fun b => b = Y ∨ ((W24.heap.size ≤ b ∧ b ≠ L) ∧ b ≠ BS)) W0 _) := hHeld
            clear hHeld
            change wpAnyH _ _ _ _ _ _ _ (Act.put _ none _) _
            simp only [Act.put, List.setIfInBounds_toArray, List.set_cons_zero, List.set_cons_succ]
            refine wpAnyH_done (by kernel_rfl) ?_ _
            exact key W11 v9 B9 ⟨b9, hG9, bL9, m9'⟩
            rintro W11 v9 B9 ⟨b9, hG9, bL9, m9'⟩
            go_wp2
            go_roundw
            case rel =>
              have h9 := hj2.out
              refine ⟨j2, v9, rfl, by rw [← h9]; exact hjlt, ?_, ?_, bL9, m9'⟩
              · rw [upd_upd] at b9; exact b9
              · rw [← h9, htk.out, ← List.append_assoc, hLS.out]; exact hG9
            case measure => exact meas_lt hj2.out hjlt
          · have zj : ¬ (j : Int) < sl.length := by omega
            obtain rfl : j = sl.length := by omega
            rw [List.take_length] at hGj
            go_wp2
            go_roundw
            case rel =>
              have h9 := hi1.out
              refine ⟨i1, vj, rfl, by rw [← h9]; exact hlt, bYj, ?_, hmj⟩
              rw [← h9, hst1.out]
              exact hGj.mono (fun _ _ _ k => k) (fun b _ q => q.1) (fun _ _ _ _ k _ => k)
            case measure => exact meas_lt hi1.out hlt
      · have z1 : ¬ (i : Int) < l.length := by omega
        obtain rfl : i = l.length := by omega
        go_wp2
        go_meet
        case rel => exact ⟨v, bYr, by rw [List.take_length] at hGr; exact hGr, hm⟩
  case rest =>
  obtain ⟨vE, bYE, hGE, mE⟩ := hcut
  obtain ⟨WE, eWE⟩ : ∃ X, X = wc := ⟨_, rfl⟩
  subst eWE
  have hTE : TmpL 149 O WE vE (startL l) := hGE.mono (fun _ _ _ k => k.keep6 mE hsY) (fun b _ q k => by have := hZ.small b k; omega) (fun _ _ _ _ k _ => k)
  have hZE := hZ.putStart mE bYE hTE (by omega)
  have bTE := bT24.mod mE nTY
  have bAE := bA24.mod mE nAY
  have bxE := bx24.mod mE n8Y
  have n1E := n124.keep mE hsY
  have n2E := n224.keep mE hsY
  have hTxE : TxC O WE (cf r) t := hT24.keepb mE hOY
  have hs80 : W.siz ≤ 80000 := by omega
  have hq0 : 199 * 0 < 18446744073709551616 := by decide
  go_upto_region 27 with (fail)
  refine bgMid (T := T) (S := 0) (og := og) _ _ _ _ _ _ _ _ _ _ _ _ _ _ _ _ _ _ _ _ _ _ _ _ _ _ _ _ _ _ _ _ _ _ _ _ _ _ _ _ _ _ _ _ _ _ _ _ _ _ _ _ _ _ _ _ _ _ _ _ _ _ _ _ _ _ _ _ _ _ _ _ _ _ _ _ _ _ _ _ _ _ _ _ _ _ _ _ _ _ _ _ _ _ _ _ _ _ _ _ _ _ _ _ _ _ _ _ _ _ _ _ _ _ _ _ _ _ _ _ _ _ _ _ _ _ _ _ _ _ _ _ _ _ _ _ _ _ _ _ _ _ _ _ _ _ _ _ _ _ _ _ _ _ _ _ _ _ _ _ _ _ _ _ _ _ _ _ _ _ _ _ _ _ _ _ _ _ _ _ _ _ _ _ _ _ _ _ _ _ _ _ _ _ _ _ _ _ _ _ _ _ _ _ _ _ _ _ _ _ _ _ _ _ _ _ _ _ _ _ _ _ _ _ _ _ _ _ _ _ _ _ _ _ _ _ _ _ _ _ _ _ _ _ _ _ _ _ _ _ _ _ _ _ _ _ _ _ _ _ _ _ _ _ _ _ HLG hZE bTE hTxE nTY bAE n1E n2E nAY bxE ax htgl n8Y hOY (fun b _ q => q) hs80 hTl hq0 hnn hbP hgas htx hinit hdata hlen16 hkey hw1 hw2 ?_ (by assumption)
  intro w' W' L' hfin hs1 hs2
  obtain ⟨O', F', n', c', d', q1, q2, q3⟩ := hfin
  have m2 : Mod (· = Y) W23 WE := m24.trans mE
  rw [hl.out] at hQ
  exact hQ w' W' L' ⟨O', F', n', c', d', q1, fun b hb => q2 b (Nat.lt_of_lt_of_le hb m2.size), (m2.sub (fun b hb => Or.inl hb)).trans q3⟩ hs1 hs2
end
end Go.Proofs.YgvahwGreat
