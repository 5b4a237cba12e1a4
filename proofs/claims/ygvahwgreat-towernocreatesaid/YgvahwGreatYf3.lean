import Derived.Test.YgvahwGreatYf1
import Derived.Test.YgvahwGreatLb
import Derived.Test.YgvahwGreatYpL
import Derived.Test.YgvahwGreatYj
import Derived.Test.YgvahwGreatYl0
import Derived.Test.YgvahwGreatLc
namespace Go.Proofs.YgvahwGreat
open Go.RowKit
set_option linter.unusedSimpArgs false
/-- The body of Finish. -/
def fbody (f : Func) : Code := match f.body with
  | some c => c
  | none => .region 0 #[] false
/-- What follows it. -/
def FQ (R : Ending → World → Prop) : Exit → Act → World → Prop := bodyPost Hvah.prog Hvah.f31 R
theorem GRow.elf {α : Type} {ty : TypeId} {sz : Nat} {R : (Nat → Value) → Nat → α → Prop} {O : Nat → Prop} {w : World} {v : Value} {l : List α} (h : GRow ty sz R (fun b => ¬ O b) w v l) : EL sz R O w v l := by
  rcases h with h | ⟨b, cap, c, h1, h2, h3, h4, h5, h6⟩
  · exact Or.inl ⟨h.1, none, h.2⟩
  · exact Or.inr ⟨b, 0, cap, c, h1, h2, h3, h5, h4.lt, fun i hi => by rw [Nat.zero_add]; exact h4.cell (Nat.lt_of_lt_of_le hi (Nat.mul_le_mul_right sz h2)), h6⟩
theorem AccL.keepf {O : Nat → Prop} {w w' : World} {v : Value} {l : List YA} {S : Nat → Prop} (h : AccL O w v l) (m : Mod S w w') (hs : ∀ b, ¬ O b → ¬ S b) : AccL O w' v l := AccL.keep h m hs
theorem onet26f : OneT 24 := oneT_of (by kernel_rfl) (by kernel_rfl)
theorem onet5f : OneT 5 := oneT_of (by kernel_rfl) (by kernel_rfl)
theorem onet93f : OneT 106 := oneT_of (by kernel_rfl) (by kernel_rfl)
theorem onet96f : OneT 109 := oneT_of (by kernel_rfl) (by kernel_rfl)
theorem rt103f : RowT 116 179 := rowT_of (by kernel_rfl) (by kernel_rfl)
theorem rt31f : RowT 36 120 := rowT_of (by kernel_rfl) (by kernel_rfl)
theorem rt46t : RowT 51 25 := rowT_of (by kernel_rfl) (by kernel_rfl)
def z99a : Array Value := #[.slice none 0 0, .slice none 0 0, .slice none 0 0, .slice none 0 0, .slice none 0 0, .slice none 0 0, .slice none 0 0, .slice none 0 0]
theorem z99q : zeroOf Hvah.prog 112 = some z99a := by kernel_rfl
theorem z99p : placesOf Hvah.prog 112 = some [(0, 1), (1, 1), (2, 1), (3, 1), (4, 1), (5, 1), (6, 1), (7, 1)] := by kernel_rfl
theorem b99f {v : Value} (hv : v.oneCell' = true) : ∃ R : Array Value, (∀ w, (Instr.build 112 ([(0, v)] : List (Nat × Value)).toArray).run Hvah.prog w = .ok (.agg R) w) ∧ R.size = 8 ∧ cf R 0 = v ∧ Ones R := by
  have e : ∀ i, i < 8 → cf (bld z99a (partsA [(0, 1), (1, 1), (2, 1), (3, 1), (4, 1), (5, 1), (6, 1), (7, 1)] [(0, v)])) i = updv (cf z99a) 0 v i := fun i hi => by
    rw [bld_get _ _ _ hi]
    simp only [partsA, List.map_cons, List.map_nil, List.getD_cons_zero, List.getD_cons_succ, bldc, one_cells hv, layv_one, one_agg]
  refine ⟨_, fun w => run_build_gen z99p z99q ([(0, v)] : List (Nat × Value)) ⟨0, 1, rfl, by rw [one_cells hv]; rfl, by decide, trivial⟩ w, by rw [bld_size]; rfl, by rw [e 0 (by decide), updv_same], ones_of (fun i hi => ?_)⟩
  have hi8 : i < 8 := by rw [bld_size] at hi; exact hi
  rw [e i hi8]
  unfold updv
  split
  · exact hv
  · have z : z99a.toList.all (fun v => v.oneCell') = true := by decide
    exact Ones.get (fun v hv => List.all_eq_true.1 z v hv) hi8
theorem YZ.onesY {O TL : Nat → Prop} {w : World} {Y F n : Nat} {c d : Nat → Value} {W : YW} {start : List (Nat × Nat × Nat)} {st : ASt} {tot : Nat} {L : List YFrm} (h : YZ O TL w Y F n c d W start st tot L) (hph : st.phase = 2) : ∀ i, i < 179 → (c i).oneCell' = true := by
  intro i hi
  by_cases h0 : i < 19
  · have q : i = 0 ∨ i = 1 ∨ i = 2 ∨ i = 3 ∨ i = 4 ∨ i = 5 ∨ i = 6 ∨ i = 7 ∨ i = 8 ∨ i = 9 ∨ i = 10 ∨ i = 11 ∨ i = 12 ∨ i = 13 ∨ i = 14 ∨ i = 15 ∨ i = 16 ∨ i = 17 ∨ i = 18 := by omega
    rcases q with rfl | rfl | rfl | rfl | rfl | rfl | rfl | rfl | rfl | rfl | rfl | rfl | rfl | rfl | rfl | rfl | rfl | rfl | rfl
    · exact grow_onez h.wc.accts
    · exact grow_onez h.wc.warmA
    · exact grow_onez h.wc.warmS
    · exact nv_onez h.wc.refund
    · rcases h.lg with q | q
      · exact grow_onez q
      · exact grow_onez q.1
    · exact grow_onez h.wc.temps
    · exact grow_onez h.wc.made
    · exact grow_onez h.wc.gone
    · exact grow_onez h.st8
    · rcases h.fv with ⟨_, q⟩ | ⟨_, q, _⟩ <;> rw [q] <;> rfl
    · exact nl_onez h.ret
    · rw [h.phase]; rfl
    · rw [h.status]; rfl
    · rw [h.applied]; rfl
    · exact nv_onez h.limit
    · exact nv_onez h.tg
    · exact nv_onez (h.left hph)
    · exact nv_onez h.price
    · exact nv_onez h.total
  by_cases h1 : i < 39
  · have := aat_onez h.origin h.oLt (i - 19) (by omega)
    rwa [show 19 + (i - 19) = i by omega] at this
  by_cases h2 : i < 59
  · have := aat_onez h.made h.mLt (i - 39) (by omega)
    rwa [show 39 + (i - 39) = i by omega] at this
  by_cases h3 : i < 79
  · have := aat_onez h.env.coinbase h.env.cLt (i - 59) (by omega)
    rwa [show 59 + (i - 59) = i by omega] at this
  by_cases h4 : i < 82
  · have q : i = 59 + 20 ∨ i = 59 + 21 ∨ i = 59 + 22 := by omega
    rcases q with rfl | rfl | rfl
    · rw [h.env.number]; rfl
    · rw [h.env.time]; rfl
    · rw [h.env.gasLimit]; rfl
  by_cases h5 : i < 114
  · have := bat_one h.env.randao h.env.rLt (i - 82) (by omega)
    rwa [show 59 + 23 + (i - 82) = i by omega] at this
  by_cases h6 : i < 146
  · have := bat_one h.env.chainID h.env.iLt (i - 114) (by omega)
    rwa [show 59 + 55 + (i - 114) = i by omega] at this
  by_cases h7 : i < 178
  · have := bat_one h.env.baseFee h.env.bLt (i - 146) (by omega)
    rwa [show 59 + 87 + (i - 146) = i by omega] at this
  obtain rfl : i = 59 + 119 := by omega
  rcases h.env.hashes with ⟨_, q⟩ | ⟨_, _, _, q, _⟩ <;> rw [q] <;> rfl
section
variable {O TL : Nat → Prop} {W : World} {Y F n B8 BR us : Nat} {c d c8 : Nat → Value} {V : YW} {start : List (Nat × Nat × Nat)} {st : ASt} {tot : Nat} {vu : Value}
set_option maxRecDepth 100000 in
set_option maxHeartbeats 6400000 in
theorem finTail {K : Act → World → Prop} {R : Ending → World → Prop} (u1 u4 u6 u7 u9 u10 u11 u12 u13 u14 u15 u16 u17 u18 u19 u20 u21 u22 u23 u24 u25 u26 u27 u28 u29 u30 u31 u32 u33 u34 u35 u36 u37 u38 u39 u40 u41 u42 u43 u44 u45 u46 u47 u48 u49 u50 u51 u52 u53 u54 u55 u56 u57 u58 u59 u60 u61 u62 u63 u64 u65 u66 u67 u68 u69 u70 u71 u72 u73 u74 u75 u76 u77 u78 u79 u80 u81 u82 u83 u84 u85 u86 u87 u88 u89 u90 u91 u92 u93 u94 u95 u96 u97 u98 u99 u100 u101 u102 u103 u104 u105 u106 u107 u108 u109 u110 u111 u112 u113 u114 u115 u116 u117 u118 u119 u120 u121 u122 u123 u124 u125 u126 u127 u128 u129 u130 u131 u132 u133 u134 u135 u136 u137 u138 u139 u140 u141 u142 u143 u144 u145 u146 u147 u148 u149 u150 u151 u152 u153 u154 u155 u156 u157 u158 u159 u160 u161 u162 u163 : Value) (h : YZ O TL W Y F n c d V start st tot []) (h8 : O B8) (b8 : Blk W B8 25 51 c8) (e0 : c8 0 = .int .u8 (0 : Nat)) (e1 : c8 1 = .int .u8 (st.status : Nat)) (e3 : NL O W (c8 3) st.ret) (e4 : LogL (fun b => ¬ O b) O W (c8 4) V.logs) (e5 : AAt c8 5 0) (ho8 : ∀ i, i < 25 → (c8 i).oneCell' = true) (n8Y : B8 ≠ Y) (n8F : B8 ≠ F) (htl : ∀ b, TL b → b ≠ B8) (bR : Blk W BR 25 51 (cf z46a)) (nRY : BR ≠ Y) (nR8 : BR ≠ B8) (hRO : O BR) (hph : st.phase = 2)
    (hu : NV O W vu us) (hul : us < 18446744073709551616) (hlim : ∀ i, i ≤ V.gone.length → YLim (V.goesL (V.gone.take i))) (hgl : ∀ a ∈ V.gone, a < 2 ^ 160)
    (hQ : ∀ q w', q.size = 25 → Ones q → RecC O w' (cf q) ⟨0, st.status, us, st.ret, V.logs, if st.status = 0 then st.made else 0⟩ → (∃ c', Blk w' Y 179 118 c' ∧ AccL O w' (c' 0) (V.goesL V.gone).accts) → Mod (fun b => b = Y ∨ b = B8 ∨ b = BR) W w' → R (.returned (.agg q)) w')
    (hK : ∀ x y, Code.wp Hvah.prog (ltail 12 (fbody Hvah.f31)) (FQ R) x y → K x y) : Code.wp Hvah.prog (lhead (ltail 11 (fbody Hvah.f31))) (Exit.then K (FQ R)) { tmps := #[.pointer (some ⟨Y, 0, none⟩), u1, .pointer (some ⟨BR, 0, none⟩), .pointer (some ⟨Y, 0, none⟩), u4, vu, u6, u7, .pointer (some ⟨B8, 0, none⟩), u9, u10, u11, u12, u13, u14, u15, u16, u17, u18, u19, u20, u21, u22, u23, u24, u25, u26, u27, u28, u29, u30, u31, u32, u33, u34, u35, u36, u37, u38, u39, u40, u41, u42, u43, u44, u45, u46, u47, u48, u49, u50, u51, u52, u53, u54, u55, u56, u57, u58, u59, u60, u61, u62, u63, u64, u65, u66, u67, u68, u69, u70, u71, u72, u73, u74, u75, u76, u77, u78, u79, u80, u81, u82, u83, u84, u85, u86, u87, u88, u89, u90, u91, u92, u93, u94, u95, u96, u97, u98, u99, u100, u101, u102, u103, u104, u105, u106, u107, u108, u109, u110, u111, u112, u113, u114, u115, u116, u117, u118, u119, u120, u121, u122, u123, u124, u125, u126, u127, u128, u129, u130, u131, u132, u133, u134, u135, u136, u137, u138, u139, u140, u141, u142, u143, u144, u145, u146, u147, u148, u149, u150, u151, u152, u153, u154, u155, u156, u157, u158, u159, u160, u161, u162, u163], defers := [] } W := by
  have hml := h.mLt
  have hstt : c 12 = .int .u8 (st.status : Nat) := h.status
  have hs8 : ∀ b, ¬ O b → ¬ b = B8 := fun b hb q => hb (q ▸ h8)
  have hsY := h.hsY
  simp only [ltail, lhead, fbody, Hvah.f31] at hK ⊢
  unfold FQ at hK ⊢
  have hus : (if us < 18446744073709551616 then us else 0 : Nat) = us := if_pos hul
  go_upto_region 13 with (first | (go_at_call 34; refine (ySmall hu).mono ?_; rintro e w1 ⟨rfl, hww⟩; rw [hus]; replace hww := hww.symm; subst hww) | ((with_reducible (refine Veil.out ?_; apply wl_storeC onet26f)); (case hx => rfl); (case hy => rfl); (case h1 => rfl); (case hB => exact b8); (case hi => decide); rintro W1 b1 m1))
  have h1 := h.keepS m1 hs8 (fun q => n8Y q.symm) (fun q => n8F q.symm) (fun x hx => by cases hx) (fun b hb => htl b hb)
  have f3 : NL O W1 (c8 3) st.ret := e3.keep m1 hs8
  have f4 : LogL (fun b => ¬ O b) O W1 (c8 4) V.logs := LogL.keep e4 m1 hs8 hs8
  have bR1 := bR.mod m1 nR8
  obtain ⟨c9, b1', g, g2⟩ : ∃ f, Blk W1 B8 25 51 f ∧ (∀ i, i ≠ 2 → f i = c8 i) ∧ f 2 = .int .u64 (us : Nat) := ⟨_, b1, fun i hi => updv_ne _ _ hi, updv_same _ _ _⟩
  replace b1 := b1'
  clear b1'
  have M1 : Mod (fun b => b = Y ∨ b = B8 ∨ b = BR) W W1 := m1.sub (fun b hb => Or.inr (Or.inl hb))
  clear hu b8 bR e3 e4 h
  go_upto_if 137 with ((with_reducible (refine Veil.out ?_; apply wl_loadC onet5f)); (case hw => rfl); (case hx => rfl); (case hc => exact ((h1.bY).cell (i := 12) (by decide)).trans (congrArg some hstt)))
  try simp only [Act.put]
  go_cut [] (fun wx => ∃ cx, Blk wx B8 25 51 cx ∧ Mod (· = B8) W1 wx ∧ (∀ i, i < 5 → cx i = c9 i) ∧ AAt cx 5 (if st.status = 0 then st.made else 0) ∧ ∀ i, i < 25 → (cx i).oneCell' = true)
  case first =>
    have o9 : ∀ i, i < 25 → (c9 i).oneCell' = true := fun i hi => by
      by_cases q : i = 2
      · rw [q, g2]; rfl
      · rw [g i q]; exact ho8 i hi
    have a9 : AAt c9 5 0 := e5.same (by decide) (fun j hj => g _ (by omega))
    rcases Nat.eq_zero_or_pos st.status with z | z
    · have z1 : (st.status : Int) = 0 := by omega
      go_wp2_with (first | ((with_reducible (refine Veil.out ?_; apply wl_loadA)); (case hx => rfl); (case hB => exact h1.bY); (case hA => exact h1.made); (case hs => exact hml); (case ho => decide)) | ((with_reducible (refine Veil.out ?_; apply wl_storeA)); (case hx => rfl); (case hy => rfl); (case hv => exact hml); (case hB => exact b1); (case hi => decide); rintro W2 c10 b2 a2 k2 m2))
      go_meet
      case rel =>
        refine ⟨c10, b2, m2, fun i hi => k2 i (Or.inl (by omega)), by rw [if_pos z]; exact a2, fun i hi => ?_⟩
        rcases Nat.lt_or_ge i 5 with q | q
        · rw [k2 i (Or.inl q)]; exact o9 i hi
        · have := aat_onez a2 hml (i - 5) (by omega)
          rwa [show 5 + (i - 5) = i by omega] at this
    · have z1 : ¬ (st.status : Int) = 0 := by omega
      have z2 : decide ((st.status : Int) = 0) = false := decide_eq_false z1
      go_wp2
      go_meet
      case rel => exact ⟨c9, b1, Mod.refl _ _, fun i hi => rfl, by rw [if_neg (by omega)]; exact a9, o9⟩
  case rest =>
  obtain ⟨cx, bx, mx, kx, ax, ox⟩ := hcut
  obtain ⟨W2, eW2⟩ : ∃ X, X = wc := ⟨_, rfl⟩
  subst eW2
  have h2 := h1.keepS mx hs8 (fun q => n8Y q.symm) (fun q => n8F q.symm) (fun x hx => by cases hx) (fun b hb => htl b hb)
  have p3 : NL O W2 (cx 3) st.ret := by rw [kx 3 (by decide), g 3 (by decide)]; exact f3.keep mx hs8
  have p4 : LogL (fun b => ¬ O b) O W2 (cx 4) V.logs := by rw [kx 4 (by decide), g 4 (by decide)]; exact LogL.keep f4 mx hs8 hs8
  have p0 : cx 0 = .int .u8 (0 : Nat) := by rw [kx 0 (by decide), g 0 (by decide)]; exact e0
  have p1 : cx 1 = .int .u8 (st.status : Nat) := by rw [kx 1 (by decide), g 1 (by decide)]; exact e1
  have p2 : cx 2 = .int .u64 (us : Nat) := by rw [kx 2 (by decide)]; exact g2
  have bR2 := bR1.mod mx nR8
  have M2 := M1.trans (mx.sub (fun b hb => Or.inr (Or.inl hb)))
  clear h1 b1 bR1 f3 f4 g g2 e0 e1 e5 ho8 m1 mx M1 kx
  go_upto_region 15 with (fail)
  go_upto_region 16 with (go_at_call 81; refine (zGoes h2 hlim hgl).mono ?_; rintro e w3 ⟨rfl, c3, h3, m3⟩)
  have q3 := p3.keep m3 hsY
  have q4 := LogL.keep p4 m3 hsY hsY
  have bx3 := bx.mod m3 n8Y
  have bR3 := bR2.mod m3 nRY
  have M3 := M2.trans (m3.sub (fun b hb => Or.inl hb))
  clear h2 p3 p4 bx bR2 M2 m3 hlim
  have hb3 := h3.bY
  have hacc : AccL O w3 (c3 0) (V.goesL V.gone).accts := h3.wc.accts
  have hYl := hb3.lt
  have hO3 := h3.onesY hph
  have hYo : Ones (rowOf c3 0 179) := ones_of (fun q hq => by
    rw [rowOf_size] at hq
    rw [cf_rowOf _ _ _ hq, Nat.zero_add]
    exact hO3 q hq)
  go_upto_region 17 with (first | ((with_reducible (refine Veil.out ?_; apply wl_loadRow rt103f)); (case hx => rfl); (case hB => exact hb3); (case hi => decide)) | ((with_reducible (refine Veil.out ?_; apply wl_allocB z103q)); (case hn => exact z103n); rintro B9 W4 e4 b4 g4) | ((with_reducible (refine Veil.out ?_; apply wl_storeRow rt103f)); (case hx => rfl); (case hy => rfl); (case hr => exact rowOf_size _ _ _); (case h1 => exact hYo); (case hB => exact b4); (case hi => decide); rintro W5 b5 m5))
  have hE5 : Ext w3 W5 := Ext.trans_mod e4 m5 (fun q hq => by have hq2 : q = B9 := hq; rw [hq2]; exact g4)
  obtain ⟨cL, hcL⟩ : ∃ z, Hid (layv (cf z103a) 0 (rowOf c3 0 179) = z) := ⟨_, rfl⟩
  have hL : ∀ j, j < 179 → cL j = c3 j := fun j hj => by
    rw [← hcL.out]
    have := layv_in (cf z103a) 0 (rowOf c3 0 179) (j := j) (by rw [rowOf_size]; exact hj)
    rw [Nat.zero_add] at this
    rw [this, cf_rowOf _ _ _ hj, Nat.zero_add]
  have bL : Blk W5 B9 179 116 cL := by rw [← hcL.out]; exact b5
  have r3 := q3.ext hE5
  have r4 : LogL (fun b => ¬ O b) O W5 (cx 4) V.logs := GRow.ext q4 hE5 (fun _ _ _ k => k.ext hE5)
  have acc5 : AccL O W5 (cL 0) (V.goesL V.gone).accts := by rw [hL 0 (by decide)]; exact AccL.ext hacc hE5
  have b5Y := hb3.ext hE5
  have bx5 := bx3.ext hE5
  have bR5 := bR3.ext hE5
  have M5 := M3.trans_ext hE5
  have oL : ∀ j, j < 179 → (cL j).oneCell' = true := fun j hj => by rw [hL j hj]; exact hO3 j hj
  have oL0 := oL 0 (by decide)
  have oL13 := oL 13 (by decide)
  have oL18 := oL 18 (by decide)
  obtain ⟨v0, hv0⟩ : ∃ v, Hid (cL 0 = v) := ⟨_, rfl⟩
  obtain ⟨v13, hv13⟩ : ∃ v, Hid (cL 13 = v) := ⟨_, rfl⟩
  obtain ⟨v18, hv18⟩ : ∃ v, Hid (cL 18 = v) := ⟨_, rfl⟩
  obtain ⟨re, hre⟩ : ∃ v, Hid (rowOf cL 59 120 = v) := ⟨_, rfl⟩
  have hres : re.size = 120 := by rw [← hre.out]; exact rowOf_size _ _ _
  have hreo : ∀ j, j < 120 → (cf re j).oneCell' = true := fun j hj => by rw [← hre.out, cf_rowOf _ _ _ hj]; exact oL _ (by omega)
  have k0 := bL.cell (i := 0) (by decide)
  have k13 := bL.cell (i := 13) (by decide)
  have k18 := bL.cell (i := 18) (by decide)
  rw [hv0.out] at oL0 acc5 k0
  rw [hv13.out] at oL13 k13
  rw [hv18.out] at oL18 k18
  obtain ⟨r8, hr8, hr8s, hr80, hr8o⟩ := b99f oL0
  obtain ⟨RX, hR1, hR2, hR3⟩ := b103f (r8 := r8) (re := re) hr8s hres oL13 oL18
  clear hcL b5 b4 e4 g4 m5 hE5 q3 q4 bx3 bR3 M3 hb3 hacc h3 hL hYo hO3
  have hRo : Ones RX := ones_of (fun q hq => by
    rw [hR2] at hq
    rw [hR3 q hq]
    by_cases a1 : 59 ≤ q
    · obtain ⟨j, rfl⟩ : ∃ j, q = 59 + j := ⟨q - 59, by omega⟩
      rw [layv_in _ _ _ (by rw [hres]; omega)]
      exact hreo _ (by omega)
    rw [layv_out _ _ _ (Or.inl (by omega))]
    unfold updv
    split
    · exact oL18
    split
    · exact oL13
    by_cases a2 : q < 8
    · have := layv_in (cf z103a) 0 r8 (j := q) (by rw [hr8s]; exact a2)
      rw [Nat.zero_add] at this
      rw [this]
      exact hr8o.get (by rw [hr8s]; exact a2)
    · rw [layv_out _ _ _ (Or.inr (by rw [hr8s]; omega))]
      exact Ones.get z103o (by rw [z103n]; exact hq))
  have hR0 : cf RX 0 = v0 := by
    rw [hR3 0 (by decide), layv_out _ _ _ (Or.inl (by decide)), updv_ne _ _ (by decide), updv_ne _ _ (by decide)]
    have := layv_in (cf z103a) 0 r8 (j := 0) (by rw [hr8s]; decide)
    rw [Nat.zero_add] at this
    rw [this, hr80]
  clear hR3 hr80 hr8o hreo
  refine wp_region_lit ?_
  refine wl_any rfl ?_
  go_simp
  try simp only [Act.put, List.setIfInBounds_toArray, List.set_cons_zero, List.set_cons_succ]
  refine wl_any rfl ?_
  go_simp
  try simp only [Act.put, List.setIfInBounds_toArray, List.set_cons_zero, List.set_cons_succ]
  refine wl_any rfl ?_
  go_simp
  try simp only [Act.put, List.setIfInBounds_toArray, List.set_cons_zero, List.set_cons_succ]
  (with_reducible (refine Veil.out ?_; apply wl_loadC onet93f)); (case hw => rfl); (case hx => rfl); (case hc => exact k0)
  try simp only [Act.put, List.setIfInBounds_toArray, List.set_cons_zero, List.set_cons_succ]
  (with_reducible (refine Veil.out ?_; apply wl_buildV (hb := hr8))); (case he => first | rfl | simp [Act.eval])
  try simp only [Act.put, List.setIfInBounds_toArray, List.set_cons_zero, List.set_cons_succ]
  refine wl_any rfl ?_
  go_simp
  try simp only [Act.put, List.setIfInBounds_toArray, List.set_cons_zero, List.set_cons_succ]
  (with_reducible (refine Veil.out ?_; apply wl_loadC onet5f)); (case hw => rfl); (case hx => rfl); (case hc => exact k13)
  try simp only [Act.put, List.setIfInBounds_toArray, List.set_cons_zero, List.set_cons_succ]
  refine wl_any rfl ?_
  go_simp
  try simp only [Act.put, List.setIfInBounds_toArray, List.set_cons_zero, List.set_cons_succ]
  (with_reducible (refine Veil.out ?_; apply wl_loadC onet96f)); (case hw => rfl); (case hx => rfl); (case hc => exact k18)
  try simp only [Act.put, List.setIfInBounds_toArray, List.set_cons_zero, List.set_cons_succ]
  refine wl_any rfl ?_
  go_simp
  try simp only [Act.put, List.setIfInBounds_toArray, List.set_cons_zero, List.set_cons_succ]
  (with_reducible (refine Veil.out ?_; apply wl_loadRow rt31f)); (case hx => rfl); (case hB => exact bL); (case hi => decide); rw [hre.out]
  try simp only [Act.put, List.setIfInBounds_toArray, List.set_cons_zero, List.set_cons_succ]
  (with_reducible (refine Veil.out ?_; apply wl_buildV (hb := hR1))); (case he => first | rfl | simp [Act.eval])
  try simp only [Act.put, List.setIfInBounds_toArray, List.set_cons_zero, List.set_cons_succ]
  refine wl_any rfl ?_
  go_simp
  try simp only [Act.put, List.setIfInBounds_toArray, List.set_cons_zero, List.set_cons_succ]
  (with_reducible (refine Veil.out ?_; apply wl_storeRow rt103f)); (case hx => rfl); (case hy => rfl); (case hr => exact hR2); (case h1 => exact hRo); (case hB => exact b5Y); (case hi => decide); rintro W6 b6 m6
  go_upto_region 18 with (fail)
  have s3 := r3.keep m6 hsY
  have s4 := LogL.keep r4 m6 hsY hsY
  have acc6 := AccL.keepf acc5 m6 hsY
  have bx6 := bx5.mod m6 n8Y
  have bR6 := bR5.mod m6 nRY
  have M6 := M5.trans (m6.sub (fun b hb => Or.inl hb))
  have e60 : layv c3 0 RX 0 = v0 := by
    have := layv_in c3 0 RX (j := 0) (by rw [hR2]; decide)
    rw [Nat.zero_add] at this
    rw [this]; exact hR0
  obtain ⟨c6, hc6⟩ : ∃ z, Hid (layv c3 0 RX = z) := ⟨_, rfl⟩
  rw [hc6.out] at b6 e60
  have hxo : Ones (rowOf cx 0 25) := ones_of (fun q hq => by
    rw [rowOf_size] at hq
    rw [cf_rowOf _ _ _ hq, Nat.zero_add]
    exact ox q hq)
  clear r3 r4 acc5 bx5 bR5 M5 b5Y bL oL oL0 oL13 oL18 hr8 hr8s hR1 hR2 hRo hR0 hc6 m6
  have hh : ∀ i, i < 25 → cf (rowOf cx 0 25) i = cx i := fun i hi => by rw [cf_rowOf _ _ _ hi, Nat.zero_add]
  go_wp2_with (first | ((with_reducible (refine Veil.out ?_; apply wl_loadRow rt46t)); (case hx => rfl); (case hB => exact bx6); (case hi => decide)) | ((with_reducible (refine Veil.out ?_; apply wl_storeRow rt46t)); (case hx => rfl); (case hy => rfl); (case hr => exact rowOf_size _ _ _); (case h1 => exact hxo); (case hB => exact bR6); (case hi => decide); rintro W7 b7 m7))
  have hsR2 : ∀ b, ¬ O b → ¬ b = BR := fun b hb q => hb (q ▸ hRO)
  refine post_row rt46t (rowOf cx 0 25) (rowOf_size _ _ _) rfl rfl (fun i u hu => ?_) rfl ?_
  · have hi := (Array.getElem?_eq_some_iff.1 hu).1
    have hi2 : i < 25 := by rw [rowOf_size] at hi; exact hi
    have hc := b7.cell (i := i) hi2
    have hly := layv_in (cf z46a) 0 (rowOf cx 0 25) hi
    rw [Nat.zero_add] at hly ⊢
    rw [hc, hly, cf_get hu]
  · refine hQ _ _ (rowOf_size _ _ _) hxo ⟨by rw [hh 0 (by decide)]; exact p0, by rw [hh 1 (by decide)]; exact p1, by rw [hh 2 (by decide)]; exact p2, by rw [hh 3 (by decide)]; exact (s3.keep m7 hsR2).x, ?_, ?_, ?_⟩ ⟨c6, b6.mod m7 (fun q => nRY q.symm), by rw [e60]; exact AccL.keepf acc6 m7 hsR2⟩ (M6.trans (m7.sub (fun b hb => Or.inr (Or.inr hb))))
    · rw [hh 4 (by decide)]; exact GRow.elf (LogL.keep s4 m7 hsR2 hsR2)
    · refine ax.same ?_ (fun j hj => hh _ (by omega))
      split
      · exact hml
      · decide
    · show (if st.status = 0 then st.made else 0) < 2 ^ 160
      split
      · exact hml
      · decide
end
end Go.Proofs.YgvahwGreat
