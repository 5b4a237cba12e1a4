import Derived.Test.YgvahwGreatYpF
import Derived.Test.YgvahwGreatRowsD
namespace Go.Proofs.YgvahwGreat
open Go.RowKit
theorem rt108 : RowT 121 24 := rowT_of (by kernel_rfl) (by kernel_rfl)
/-- A slot of an account. -/
structure SlC (O : Nat → Prop) (w : World) (c : Nat → Value) (o : Nat) (m : Nat × Nat) : Prop where
  key : NV O w (c o) m.1
  val : NV O w (c (o + 1)) m.2
theorem SlC.ext {O : Nat → Prop} {w w' : World} {c : Nat → Value} {o : Nat} {m : Nat × Nat} (h : SlC O w c o m) (e : Ext w w') : SlC O w' c o m := ⟨h.key.ext e, h.val.ext e⟩
abbrev SloL (O : Nat → Prop) (w : World) (v : Value) (l : List (Nat × Nat)) : Prop := GRow 125 2 (SlC O w) (fun b => ¬ O b) w v l
theorem SloL.ext {O : Nat → Prop} {w w' : World} {v : Value} {l : List (Nat × Nat)} (h : SloL O w v l) (e : Ext w w') : SloL O w' v l := GRow.ext h e (fun _ _ _ k => k.ext e)
/-- The four values of an account beside its address. -/
structure AcP (O : Nat → Prop) (w : World) (x : YA) (u1 u2 u3 u4 : Value) : Prop where
  aLt : x.addr < 2 ^ 160
  nonce : NV O w u1 x.nonce
  bal : NV O w u2 x.bal
  code : NL O w u3 x.code
  slots : SloL O w u4 x.slots
theorem AcP.ext {O : Nat → Prop} {w w' : World} {x : YA} {u1 u2 u3 u4 : Value} (h : AcP O w x u1 u2 u3 u4) (e : Ext w w') : AcP O w' x u1 u2 u3 u4 := ⟨h.aLt, h.nonce.ext e, h.bal.ext e, h.code.ext e, h.slots.ext e⟩
/-- An account of a list. -/
structure YAC (O : Nat → Prop) (w : World) (c : Nat → Value) (o : Nat) (x : YA) : Prop where
  addr : AAt c o x.addr
  parts : AcP O w x (c (o + 20)) (c (o + 21)) (c (o + 22)) (c (o + 23))
theorem YAC.ext {O : Nat → Prop} {w w' : World} {c : Nat → Value} {o : Nat} {x : YA} (h : YAC O w c o x) (e : Ext w w') : YAC O w' c o x := ⟨h.addr, h.parts.ext e⟩
abbrev AccL (O : Nat → Prop) (w : World) (v : Value) (l : List YA) : Prop := GRow 121 24 (YAC O w) (fun b => ¬ O b) w v l
/-- Its row. -/
def acR (a : Nat) (u1 u2 u3 u4 : Value) : Array Value := av a ++ #[u1, u2, u3, u4]
theorem acR_size {a : Nat} (h : a < 2 ^ 160) (u1 u2 u3 u4 : Value) : (acR a u1 u2 u3 u4).size = 24 := by simp [acR, av_size h]
theorem acR_one {a : Nat} {u1 u2 u3 u4 : Value} (h1 : u1.oneCell' = true) (h2 : u2.oneCell' = true) (h3 : u3.oneCell' = true) (h4 : u4.oneCell' = true) : ∀ x ∈ (acR a u1 u2 u3 u4).toList, x.oneCell' = true := fun x hx => by
  simp only [acR, Array.toList_append, List.mem_append] at hx
  rcases hx with hx | hx
  · exact av_one a x hx
  · simp at hx
    rcases hx with rfl | rfl | rfl | rfl <;> assumption
theorem NL.one {O : Nat → Prop} {w : World} {v : Value} {x : List Nat} (h : NL O w v x) : v.oneCell' = true := by
  obtain ⟨o, c, rfl, _⟩ := h
  rfl
theorem SloL.one {O : Nat → Prop} {w : World} {v : Value} {l : List (Nat × Nat)} (h : SloL O w v l) : v.oneCell' = true := by
  obtain ⟨o, c, rfl, _⟩ := GRow.slice h
  rfl
theorem YAC.row {O : Nat → Prop} {w W : World} {c : Nat → Value} {o b n : Nat} {t : TypeId} {x : YA} (h : YAC O w c o x) (hB : Blk W b n t c) (hn : o + 24 ≤ n) : RowIn W b o (acR x.addr (c (o + 20)) (c (o + 21)) (c (o + 22)) (c (o + 23))) := fun i v hv => by
  have hs := av_size h.parts.aLt
  by_cases hi : i < 20
  · rw [acR, Array.getElem?_append_left (by omega)] at hv
    rw [hB.cell (by omega), h.addr i v hv]
  · rw [acR, Array.getElem?_append_right (by omega), hs] at hv
    have h2 : i = 20 ∨ i = 21 ∨ i = 22 ∨ i = 23 := by
      have := (Array.getElem?_eq_some_iff.1 hv).1
      simp at this; omega
    rcases h2 with rfl | rfl | rfl | rfl
    all_goals simp at hv; rw [hB.cell (by omega), hv]
theorem ac_parts {W : World} {B x : Nat} {u1 u2 u3 u4 : Value} (h : RowIn W B 0 (acR x u1 u2 u3 u4)) : RowIn W B 0 (av x) ∧ RowIn W B 0 (acR x u1 u2 u3 u4) := by
  obtain ⟨h1, _⟩ := h.app
  exact ⟨h1, h⟩
theorem fold_ac {a : Nat} (ha : a < 2 ^ 160) : Array.foldl (fun cs x => cs.setIfInBounds x.snd x.fst) #[.int .u8 0, .int .u8 0, .int .u8 0, .int .u8 0, .int .u8 0, .int .u8 0, .int .u8 0, .int .u8 0, .int .u8 0, .int .u8 0, .int .u8 0, .int .u8 0, .int .u8 0, .int .u8 0, .int .u8 0, .int .u8 0, .int .u8 0, .int .u8 0, .int .u8 0, .int .u8 0, .slice none 0 0, .slice none 0 0, .slice none 0 0, .slice none 0 0] (av a).zipIdx 0 20 = acR a (.slice none 0 0) (.slice none 0 0) (.slice none 0 0) (.slice none 0 0) := by
  have hs := av_size ha
  rw [lay0_fold _ _ 20 hs]
  apply Array.ext_getElem?
  intro i
  rw [layA_get, acR]
  by_cases hi : i < 20
  · rw [if_pos ⟨by omega, by omega, by simp; omega⟩, Array.getElem?_append_left (by omega)]
    simp
  · rw [if_neg (by omega), Array.getElem?_append_right (by omega), hs]
    by_cases h24 : i < 24
    · have h2 : i = 20 ∨ i = 21 ∨ i = 22 ∨ i = 23 := by omega
      rcases h2 with rfl | rfl | rfl | rfl <;> rfl
    · rw [Array.getElem?_eq_none (by simp; omega), Array.getElem?_eq_none (by simp; omega)]
/-- A value that is an account. -/
def AcV (O : Nat → Prop) (w : World) (v : Value) (x : YA) : Prop := ∃ u1 u2 u3 u4, v = .agg (acR x.addr u1 u2 u3 u4) ∧ AcP O w x u1 u2 u3 u4
theorem AcV.ext {O : Nat → Prop} {w w' : World} {v : Value} {x : YA} (h : AcV O w v x) (e : Ext w w') : AcV O w' v x := by
  obtain ⟨u1, u2, u3, u4, h1, h2⟩ := h
  exact ⟨u1, u2, u3, u4, h1, h2.ext e⟩
section
attribute [local go_sem] run_eq_av
variable {O : Nat → Prop} {w : World} {Y n : Nat} {t : TypeId} {c : Nat → Value}
set_option maxRecDepth 100000 in
set_option maxHeartbeats 3200000 in
theorem yAccount (hB : Blk w Y n t c) (hn : 8 ≤ n) (l : List YA) (h : AccL O w (c 0) l) (a : Nat) (ha : a < 2 ^ 160) (hlen : l.length ≤ 100000) :
    Calls Hvah.prog 53 #[.pointer (some ⟨Y, 0, none⟩), .agg (av a)] w fun e w' => ∃ r, e = .returned r ∧ AcV O w' r ((look YA.addr a l).getD (YA.new a)) ∧ Ext w w' := by
  obtain ⟨o, cap, hv, hmax⟩ := h.slice
  have hlt : (l.length : Int) ≤ 100000 := by omega
  have hsa : (av a).size = 20 := av_size ha
  obtain ⟨W0, hW0⟩ : ∃ W0, Hid (W0 = (w.alloc (.cells (av a) 31)).alloc (.cells #[.int .u8 0, .int .u8 0, .int .u8 0, .int .u8 0, .int .u8 0, .int .u8 0, .int .u8 0, .int .u8 0, .int .u8 0, .int .u8 0, .int .u8 0, .int .u8 0, .int .u8 0, .int .u8 0, .int .u8 0, .int .u8 0, .int .u8 0, .int .u8 0, .int .u8 0, .int .u8 0, .slice none 0 0, .slice none 0 0, .slice none 0 0, .slice none 0 0] 121)) := ⟨_, rfl⟩
  have hE0 : Ext w W0 := by rw [hW0.out]; exact ext2 ..
  have HAA := boxes2 w (av a) #[.int .u8 0, .int .u8 0, .int .u8 0, .int .u8 0, .int .u8 0, .int .u8 0, .int .u8 0, .int .u8 0, .int .u8 0, .int .u8 0, .int .u8 0, .int .u8 0, .int .u8 0, .int .u8 0, .int .u8 0, .int .u8 0, .int .u8 0, .int .u8 0, .int .u8 0, .int .u8 0, .slice none 0 0, .slice none 0 0, .slice none 0 0, .slice none 0 0] 31 121
  have H4 : ∀ W, Ext W0 W → W.there (w.heap.size + 1) 0 24 := fun W hW => by
    rw [hW0.out] at hW
    exact boxes_there _ #[.int .u8 0, .int .u8 0, .int .u8 0, .int .u8 0, .int .u8 0, .int .u8 0, .int .u8 0, .int .u8 0, .int .u8 0, .int .u8 0, .int .u8 0, .int .u8 0, .int .u8 0, .int .u8 0, .int .u8 0, .int .u8 0, .int .u8 0, .int .u8 0, .int .u8 0, .int .u8 0, .slice none 0 0, .slice none 0 0, .slice none 0 0, .slice none 0 0] 121 W _ (by simp) hW
  rw [← hW0.out] at HAA
  have HA : ∀ W, Ext W0 W → RowIn W w.heap.size 0 (av a) := fun W hW => (HAA W hW).1
  clear HAA
  have k2 := (hB.ext (ext2 w (av a) #[.int .u8 0, .int .u8 0, .int .u8 0, .int .u8 0, .int .u8 0, .int .u8 0, .int .u8 0, .int .u8 0, .int .u8 0, .int .u8 0, .int .u8 0, .int .u8 0, .int .u8 0, .int .u8 0, .int .u8 0, .int .u8 0, .int .u8 0, .int .u8 0, .int .u8 0, .int .u8 0, .slice none 0 0, .slice none 0 0, .slice none 0 0, .slice none 0 0] 31 121)).cell (i := 0) (by omega)
  rw [hv] at k2
  have HRow : ∀ k (hk : k < l.length), ∃ b u1 u2 u3 u4, o = some ⟨b, 0, none⟩ ∧ AcP O w (l[k]) u1 u2 u3 u4 ∧ ∀ W, Ext w W → RowIn W b (k * 24) (acR (l[k]).addr u1 u2 u3 u4) := fun k hk => by
    obtain ⟨b, cap', cc, hv', hcap, hcm, hb, hnO, hrow⟩ := h.at_ (fun q => by rw [q] at hk; cases hk)
    rw [hv] at hv'
    injection hv' with hv1 _ hv2
    have hrk := hrow k hk
    exact ⟨b, _, _, _, _, hv1, hrk.parts, fun W hW => hrk.row (hb.ext hW) (by have := Nat.mul_le_mul_right 24 (Nat.le_trans hk hcap); omega)⟩
  go_enter Hvah.func53, Hvah.ntmps53
  go_wp2_with ((with_reducible (refine Veil.out ?_; apply wl_box)); (case hx => rfl))
  clear k2
  go_loopw [12] (fun ix wr => ∃ k, k ≤ l.length ∧ ix = .int .i64 (k : Nat) ∧ (∀ x ∈ l.take k, x.addr ≠ a) ∧ Ext W0 wr) (fun ix _ => l.length - (intOf ix).toNat)
  case atStart => exact ⟨0, by omega, rfl, by simp, by rw [hW0.out]; exact Ext.refl _⟩
  case round =>
    clear hW0
    obtain ⟨k, hk, rfl, hno, hE⟩ := hrel
    by_cases hlt2 : k < l.length
    · have hki : (k : Int) < l.length := by omega
      obtain ⟨b, u1, u2, u3, u4, rfl, hp, HR0⟩ := HRow k hlt2
      have HR := HR0 wr (hE0.trans hE)
      have hmem : ∀ x ∈ l.take (k + 1), x = l[k] ∨ x ∈ l.take k := fun x hx => by
        rw [List.take_add_one, List.getElem?_eq_getElem hlt2] at hx
        rcases List.mem_append.1 hx with hx | hx
        · exact Or.inr hx
        · left; simpa using hx
      have hlook : Hid (l[k].addr = a → look YA.addr a l = some l[k]) := fun q => look_at _ _ l k hlt2 hno q
      clear HR0 HRow
      generalize l[k] = x at *
      have hxl := hp.aLt
      have hsx := av_size hxl
      have hsm := acR_size hxl u1 u2 u3 u4
      have o1 := hp.nonce.one
      have o2 := hp.bal.one
      have o3 := hp.code.one
      have o4 := hp.slots.one
      obtain ⟨Z, hZe⟩ : ∃ Z : Array Value, Hid (Z = #[.int .u8 0, .int .u8 0, .int .u8 0, .int .u8 0, .int .u8 0, .int .u8 0, .int .u8 0, .int .u8 0, .int .u8 0, .int .u8 0, .int .u8 0, .int .u8 0, .int .u8 0, .int .u8 0, .int .u8 0, .int .u8 0, .int .u8 0, .int .u8 0, .int .u8 0, .int .u8 0, .slice none 0 0, .slice none 0 0, .slice none 0 0, .slice none 0 0]) := ⟨_, rfl⟩
      have hE2 : Ext wr (wr.alloc (.cells Z 121)) := (Ext.refl wr).alloc _ _
      have hZ := Ext.refl (wr.alloc (.cells Z 121))
      rw [hZe.out] at hE2 hZ
      by_cases hxa : x.addr = a
      · subst hxa
        have hl2 : Hid (_ = _) := hlook.out rfl
        clear hlook
        go_wp2_with (first | ((with_reducible (refine Veil.out ?_; apply wl_loadR rt25)); (case hx => rfl); (case hr => first | (with_reducible exact HA _ (hE.trans hE3)) | (with_reducible exact hR3) | (with_reducible exact HA _ hE)); (case hn => first | exact hsx | exact hsa)) | ((with_reducible (refine Veil.out ?_; apply wl_loadR rt108)); (case hx => rfl); (case hr => first | (with_reducible exact HR) | (with_reducible exact hF3)); (case hn => exact hsm)) | ((with_reducible (refine Veil.out ?_; apply wl_storeR rt108)); (case hx => rfl); (case hy => rfl); (case hn => exact hsm); (case hth => exact H4 _ (hE.trans hE3)); (case h1 => exact acR_one o1 o2 o3 o4); refine w_gen (fun W => Ext w W ∧ RowIn W (w.heap.size + 1) 0 (acR x.addr u1 u2 u3 u4)) ⟨ext_setRow (hE0.trans (hE.trans hE3)) (by omega), row_set (by rw [hsm]; exact H4 _ (hE.trans hE3))⟩ ?_; rintro W5 ⟨hE5, hR5⟩) | ((with_reducible (refine Veil.out ?_; apply wl_storeR rt108)); (case hx => rfl); (case hy => rfl); (case hn => exact hsm); (case hth => exact boxes_there _ #[.int .u8 0, .int .u8 0, .int .u8 0, .int .u8 0, .int .u8 0, .int .u8 0, .int .u8 0, .int .u8 0, .int .u8 0, .int .u8 0, .int .u8 0, .int .u8 0, .int .u8 0, .int .u8 0, .int .u8 0, .int .u8 0, .int .u8 0, .int .u8 0, .int .u8 0, .int .u8 0, .slice none 0 0, .slice none 0 0, .slice none 0 0, .slice none 0 0] 121 _ _ rfl hZ); (case h1 => exact acR_one o1 o2 o3 o4); refine w_gen (fun W => Ext wr W ∧ RowIn W wr.heap.size 0 (av x.addr) ∧ RowIn W wr.heap.size 0 (acR x.addr u1 u2 u3 u4)) ⟨ext_setRow hE2 (Nat.le_refl _), ac_parts (row_set (by rw [hsm]; exact boxes_there _ #[.int .u8 0, .int .u8 0, .int .u8 0, .int .u8 0, .int .u8 0, .int .u8 0, .int .u8 0, .int .u8 0, .int .u8 0, .int .u8 0, .int .u8 0, .int .u8 0, .int .u8 0, .int .u8 0, .int .u8 0, .int .u8 0, .int .u8 0, .int .u8 0, .int .u8 0, .int .u8 0, .slice none 0 0, .slice none 0 0, .slice none 0 0, .slice none 0 0] 121 _ _ rfl hZ))⟩ ?_; rintro W3 ⟨hE3, hR3, hF3⟩))
        refine post_row rt108 _ hsm Hvah.results53 rfl hR5 rfl ⟨_, rfl, ?_, hE5⟩
        rw [hl2.out]
        exact ⟨u1, u2, u3, u4, rfl, hp.ext hE5⟩
      · clear hlook
        go_wp2_with (first | ((with_reducible (refine Veil.out ?_; apply wl_loadR rt25)); (case hx => rfl); (case hr => first | (with_reducible exact HA _ (hE.trans hE3)) | (with_reducible exact hR3) | (with_reducible exact HA _ hE)); (case hn => first | exact hsx | exact hsa)) | ((with_reducible (refine Veil.out ?_; apply wl_loadR rt108)); (case hx => rfl); (case hr => first | (with_reducible exact HR) | (with_reducible exact hF3)); (case hn => exact hsm)) | ((with_reducible (refine Veil.out ?_; apply wl_storeR rt108)); (case hx => rfl); (case hy => rfl); (case hn => exact hsm); (case hth => exact boxes_there _ #[.int .u8 0, .int .u8 0, .int .u8 0, .int .u8 0, .int .u8 0, .int .u8 0, .int .u8 0, .int .u8 0, .int .u8 0, .int .u8 0, .int .u8 0, .int .u8 0, .int .u8 0, .int .u8 0, .int .u8 0, .int .u8 0, .int .u8 0, .int .u8 0, .int .u8 0, .int .u8 0, .slice none 0 0, .slice none 0 0, .slice none 0 0, .slice none 0 0] 121 _ _ rfl hZ); (case h1 => exact acR_one o1 o2 o3 o4); refine w_gen (fun W => Ext wr W ∧ RowIn W wr.heap.size 0 (av x.addr) ∧ RowIn W wr.heap.size 0 (acR x.addr u1 u2 u3 u4)) ⟨ext_setRow hE2 (Nat.le_refl _), ac_parts (row_set (by rw [hsm]; exact boxes_there _ #[.int .u8 0, .int .u8 0, .int .u8 0, .int .u8 0, .int .u8 0, .int .u8 0, .int .u8 0, .int .u8 0, .int .u8 0, .int .u8 0, .int .u8 0, .int .u8 0, .int .u8 0, .int .u8 0, .int .u8 0, .int .u8 0, .int .u8 0, .int .u8 0, .int .u8 0, .int .u8 0, .slice none 0 0, .slice none 0 0, .slice none 0 0, .slice none 0 0] 121 _ _ rfl hZ))⟩ ?_; rintro W3 ⟨hE3, hR3, hF3⟩))
        refine ⟨⟨k + 1, by omega, int_eq (by omega), fun q hq => ?_, hE.trans hE3⟩, by simp [intOf]; omega⟩
        rcases hmem q hq with rfl | hq
        · exact hxa
        · exact hno q hq
    · have hkn : k = l.length := by omega
      have hki : ¬ (k : Int) < l.length := by omega
      have hl2 : Hid (look YA.addr a l = none) := look_no _ _ l (fun x hx => hno x (by rw [hkn, List.take_length]; exact hx))
      have hsm := acR_size ha (.slice none 0 0) (.slice none 0 0) (.slice none 0 0) (.slice none 0 0)
      go_wp2_with (first | ((with_reducible (refine Veil.out ?_; apply wl_loadR rt25)); (case hx => rfl); (case hr => exact HA _ hE); (case hn => exact hsa)) | ((with_reducible (refine Veil.out ?_; apply wl_storeR rt108)); (case hx => rfl); (case hy => rfl); (case hn => rw [fold_ac ha]; exact hsm); (case hth => exact H4 _ hE); (case h1 => rw [fold_ac ha]; exact acR_one rfl rfl rfl rfl); rw [fold_ac ha]; refine w_gen (fun W => Ext w W ∧ RowIn W (w.heap.size + 1) 0 (acR a (.slice none 0 0) (.slice none 0 0) (.slice none 0 0) (.slice none 0 0))) ⟨ext_setRow (hE0.trans hE) (by omega), row_set (by rw [hsm]; exact H4 _ hE)⟩ ?_; rintro W5 ⟨hE5, hR5⟩))
      refine post_row rt108 _ hsm Hvah.results53 rfl hR5 rfl ⟨_, rfl, ?_, hE5⟩
      rw [hl2.out]
      exact ⟨_, _, _, _, rfl, ha, ⟨[], NL.nil, rfl⟩, ⟨[], NL.nil, rfl⟩, NL.nil, Or.inl ⟨rfl, rfl⟩⟩
end
end Go.Proofs.YgvahwGreat
