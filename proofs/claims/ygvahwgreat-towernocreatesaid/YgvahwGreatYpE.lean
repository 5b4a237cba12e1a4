import Derived.Test.YgvahwGreatYpD
namespace Go.Proofs.YgvahwGreat
open Go.RowKit
theorem rowT_of {t : TypeId} {n : Nat} (h : (Hvah.prog.underlying t).map TypeDesc.isRow = some true) (hs : (Hvah.prog.info? t).map (·.size) = some n) : RowT t n := by
  refine ⟨?_, hs⟩
  cases e : Hvah.prog.underlying t with
  | none => rw [e] at h; cases h
  | some d => rw [e] at h; exact ⟨d, rfl, by simpa using h⟩
theorem rt233 : RowT 241 21 := rowT_of (by kernel_rfl) (by kernel_rfl)
theorem drew_ext {w w' : World} (h : ∃ n, w' = w.drewN n) : Ext w w' := by
  obtain ⟨n, rfl⟩ := h
  exact (Ext.refl w).drewN n
theorem RowIn.app {w : World} {b o : Nat} {r s : Array Value} (h : RowIn w b o (r ++ s)) : RowIn w b o r ∧ RowIn w b (o + r.size) s := by
  refine ⟨fun i v hv => h i v ?_, fun i v hv => ?_⟩
  · rw [Array.getElem?_append_left (Array.getElem?_eq_some_iff.1 hv).1]; exact hv
  · have := h (r.size + i) v (by rw [Array.getElem?_append_right (by omega)]; simpa using hv)
    rw [Nat.add_assoc]; exact this
theorem RowIn.one {w : World} {b o : Nat} {v : Value} (h : RowIn w b o #[v]) : w.cell? ⟨b, o, none⟩ = some v := h 0 v rfl
/-- A warm slot of a list. -/
structure MkC (O : Nat → Prop) (w : World) (c : Nat → Value) (o : Nat) (m : Nat × Nat) : Prop where
  addr : AAt c o m.1
  aLt : m.1 < 2 ^ 160
  key : NV O w (c (o + 20)) m.2
theorem MkC.ext {O : Nat → Prop} {w w' : World} {c : Nat → Value} {o : Nat} {m : Nat × Nat} (h : MkC O w c o m) (e : Ext w w') : MkC O w' c o m := ⟨h.addr, h.aLt, h.key.ext e⟩
abbrev MarkL (O : Nat → Prop) (w : World) (v : Value) (l : List (Nat × Nat)) : Prop := GRow 241 21 (MkC O w) (fun b => ¬ O b) w v l
/-- Its row. -/
def mkR (a : Nat) (v : Value) : Array Value := av a ++ #[v]
theorem mkR_size {a : Nat} (h : a < 2 ^ 160) (v : Value) : (mkR a v).size = 21 := by simp [mkR, av_size h]
theorem NV.one {O : Nat → Prop} {w : World} {v : Value} {x : Nat} (h : NV O w v x) : v.oneCell' = true := by
  obtain ⟨l, ⟨o, c, rfl, _⟩, _⟩ := h
  rfl
theorem mkR_one {a : Nat} {v : Value} (hv : v.oneCell' = true) : ∀ u ∈ (mkR a v).toList, u.oneCell' = true := fun u hu => by
  simp only [mkR, Array.toList_append, List.mem_append] at hu
  rcases hu with hu | hu
  · exact av_one a u hu
  · simp at hu; rw [hu]; exact hv
theorem MkC.row {O : Nat → Prop} {w W : World} {c : Nat → Value} {o b n : Nat} {t : TypeId} {m : Nat × Nat} (h : MkC O w c o m) (hB : Blk W b n t c) (hn : o + 21 ≤ n) : RowIn W b o (mkR m.1 (c (o + 20))) := fun i v hv => by
  have hs := av_size h.aLt
  by_cases hi : i < 20
  · rw [mkR, Array.getElem?_append_left (by omega)] at hv
    rw [hB.cell (by omega), h.addr i v hv]
  · rw [mkR, Array.getElem?_append_right (by omega)] at hv
    have h20 : i = 20 := by
      have := (Array.getElem?_eq_some_iff.1 hv).1
      simp at this; omega
    subst h20
    rw [hs] at hv
    simp at hv
    rw [hB.cell (by omega), hv]
theorem mk_parts {W : World} {B x : Nat} {u : Value} (h : RowIn W B 0 (mkR x u)) (hs : (av x).size = 20) : RowIn W B 0 (av x) ∧ W.cell? ⟨B, 20, none⟩ = some u := by
  obtain ⟨h1, h2⟩ := h.app
  rw [hs] at h2
  exact ⟨h1, h2.one⟩
section
attribute [local go_sem] run_eq_av
variable {O : Nat → Prop} {w : World} {Y n : Nat} {t : TypeId} {c : Nat → Value}
set_option maxRecDepth 100000 in
set_option maxHeartbeats 3200000 in
theorem yIsWarmSlot (hB : Blk w Y n t c) (hn : 8 ≤ n) (l : List (Nat × Nat)) (h : MarkL O w (c 2) l) (a : Nat) (ha : a < 2 ^ 160) (kv : Value) (key : Nat) (hkv : NV O w kv key) (hlen : l.length ≤ 100000) :
    Calls Hvah.prog 138 #[.pointer (some ⟨Y, 0, none⟩), .agg (av a), kv] w fun e w' => e = .returned (.bool (decide ((a, key) ∈ l))) ∧ Ext w w' := by
  obtain ⟨o, cap, hv, hmax⟩ := h.slice
  have hlt : (l.length : Int) ≤ 100000 := by omega
  have hE0 : Ext w (w.alloc (.cells (av a) 31)) := (Ext.refl w).alloc _ _
  have hsa : (av a).size = 20 := av_size ha
  have k2 := (hB.ext hE0).cell (i := 2) (by omega)
  rw [hv] at k2
  have HRow : ∀ k (hk : k < l.length), ∃ b u, o = some ⟨b, 0, none⟩ ∧ (l[k]).1 < 2 ^ 160 ∧ NV O w u (l[k]).2 ∧ ∀ W, Ext w W → RowIn W b (k * 21) (mkR (l[k]).1 u) := fun k hk => by
    obtain ⟨b, cap', cc, hv', hcap, hcm, hb, hnO, hrow⟩ := h.at_ (fun q => by rw [q] at hk; cases hk)
    rw [hv] at hv'
    injection hv' with hv1 _ hv2
    have hrk := hrow k hk
    exact ⟨b, _, hv1, hrk.aLt, hrk.key, fun W hW => hrk.row (hb.ext hW) (by have := Nat.mul_le_mul_right 21 (Nat.le_trans hk hcap); omega)⟩
  go_enter Hvah.func138, Hvah.ntmps138
  go_wp2_with ((with_reducible (refine Veil.out ?_; apply wl_box)); (case hx => rfl))
  clear k2
  go_loopw [14] (fun ix wr => ∃ k, k ≤ l.length ∧ ix = .int .i64 (k : Nat) ∧ (∀ x ∈ l.take k, x ≠ (a, key)) ∧ Ext (w.alloc (.cells (av a) 31)) wr) (fun ix _ => l.length - (intOf ix).toNat)
  case atStart => exact ⟨0, by omega, rfl, by simp, Ext.refl _⟩
  case round =>
    obtain ⟨k, hk, rfl, hno, hE⟩ := hrel
    by_cases hlt2 : k < l.length
    · have hki : (k : Int) < l.length := by omega
      obtain ⟨b, u, rfl, hxl, hu, HR0⟩ := HRow k hlt2
      have HR := HR0 wr (hE0.trans hE)
      have hmem : ∀ x ∈ l.take (k + 1), x = l[k] ∨ x ∈ l.take k := fun x hx => by
        rw [List.take_add_one, List.getElem?_eq_getElem hlt2] at hx
        rcases List.mem_append.1 hx with hx | hx
        · exact Or.inr hx
        · left; simpa using hx
      have hin : l[k] ∈ l := List.getElem_mem hlt2
      clear HR0 HRow
      generalize l[k] = p at *
      obtain ⟨x, y⟩ := p
      simp only at hxl hu HR
      have hsx := av_size hxl
      have hsm := mkR_size hxl u
      have hu1 := hu.one
      have HA : ∀ W, Ext wr W → RowIn W w.heap.size 0 (av a) := fun W hW => boxes1 w (av a) 31 W (hE.trans hW)
      have HC := fun W (hW : Ext w W) => nCmp O u kv y key W (hu.ext hW) (hkv.ext hW)
      obtain ⟨Z, hZe⟩ : ∃ Z : Array Value, Hid (Z = #[.int .u8 0, .int .u8 0, .int .u8 0, .int .u8 0, .int .u8 0, .int .u8 0, .int .u8 0, .int .u8 0, .int .u8 0, .int .u8 0, .int .u8 0, .int .u8 0, .int .u8 0, .int .u8 0, .int .u8 0, .int .u8 0, .int .u8 0, .int .u8 0, .int .u8 0, .int .u8 0, .slice none 0 0]) := ⟨_, rfl⟩
      have hE2 : Ext wr (wr.alloc (.cells Z 241)) := (Ext.refl wr).alloc _ _
      have hZ := Ext.refl (wr.alloc (.cells Z 241))
      rw [hZe.out] at hE2 hZ
      by_cases hxa : x = a
      · subst hxa
        by_cases hyk : y = key
        · subst hyk
          have hc0 : cmpI y y = 0 := by simp [cmpI]
          rw [hc0] at HC
          go_wp2_with (first | ((with_reducible (refine Veil.out ?_; apply wl_loadR rt25)); (case hx => rfl); (case hr => first | (with_reducible exact HA _ hE3) | (with_reducible exact hR3)); (case hn => first | exact hsx | exact hsa)) | ((with_reducible (refine Veil.out ?_; apply wl_loadR rt233)); (case hx => rfl); (case hr => exact HR); (case hn => exact hsm)) | ((with_reducible (refine Veil.out ?_; apply wl_storeR rt233)); (case hx => rfl); (case hy => rfl); (case hn => exact hsm); (case hth => exact boxes_there _ #[.int .u8 0, .int .u8 0, .int .u8 0, .int .u8 0, .int .u8 0, .int .u8 0, .int .u8 0, .int .u8 0, .int .u8 0, .int .u8 0, .int .u8 0, .int .u8 0, .int .u8 0, .int .u8 0, .int .u8 0, .int .u8 0, .int .u8 0, .int .u8 0, .int .u8 0, .int .u8 0, .slice none 0 0] 241 _ _ rfl hZ); (case h1 => exact mkR_one hu1); refine w_gen (fun W => Ext wr W ∧ RowIn W wr.heap.size 0 (av x) ∧ W.cell? ⟨wr.heap.size, 20, none⟩ = some u) ⟨ext_setRow hE2 (Nat.le_refl _), mk_parts (row_set (by rw [hsm]; exact boxes_there _ #[.int .u8 0, .int .u8 0, .int .u8 0, .int .u8 0, .int .u8 0, .int .u8 0, .int .u8 0, .int .u8 0, .int .u8 0, .int .u8 0, .int .u8 0, .int .u8 0, .int .u8 0, .int .u8 0, .int .u8 0, .int .u8 0, .int .u8 0, .int .u8 0, .int .u8 0, .int .u8 0, .slice none 0 0] 241 _ _ rfl hZ)) hsx⟩ ?_; rintro W3 ⟨hE3, hR3, hC3⟩) | (go_at_call 130; refine (HC _ ((hE0.trans hE).trans hE3)).mono ?_; rintro e w4 ⟨rfl, hd4⟩; have he4 := drew_ext hd4; clear hd4))
          go_ret
          exact ⟨by rw [decide_eq_true hin]; rfl, ((hE0.trans hE).trans hE3).trans he4⟩
        · have hc0 : (cmpI y key == 0) = false := by unfold cmpI; split <;> (try split) <;> simp <;> omega
          go_wp2_with (first | ((with_reducible (refine Veil.out ?_; apply wl_loadR rt25)); (case hx => rfl); (case hr => first | (with_reducible exact HA _ hE3) | (with_reducible exact hR3)); (case hn => first | exact hsx | exact hsa)) | ((with_reducible (refine Veil.out ?_; apply wl_loadR rt233)); (case hx => rfl); (case hr => exact HR); (case hn => exact hsm)) | ((with_reducible (refine Veil.out ?_; apply wl_storeR rt233)); (case hx => rfl); (case hy => rfl); (case hn => exact hsm); (case hth => exact boxes_there _ #[.int .u8 0, .int .u8 0, .int .u8 0, .int .u8 0, .int .u8 0, .int .u8 0, .int .u8 0, .int .u8 0, .int .u8 0, .int .u8 0, .int .u8 0, .int .u8 0, .int .u8 0, .int .u8 0, .int .u8 0, .int .u8 0, .int .u8 0, .int .u8 0, .int .u8 0, .int .u8 0, .slice none 0 0] 241 _ _ rfl hZ); (case h1 => exact mkR_one hu1); refine w_gen (fun W => Ext wr W ∧ RowIn W wr.heap.size 0 (av x) ∧ W.cell? ⟨wr.heap.size, 20, none⟩ = some u) ⟨ext_setRow hE2 (Nat.le_refl _), mk_parts (row_set (by rw [hsm]; exact boxes_there _ #[.int .u8 0, .int .u8 0, .int .u8 0, .int .u8 0, .int .u8 0, .int .u8 0, .int .u8 0, .int .u8 0, .int .u8 0, .int .u8 0, .int .u8 0, .int .u8 0, .int .u8 0, .int .u8 0, .int .u8 0, .int .u8 0, .int .u8 0, .int .u8 0, .int .u8 0, .int .u8 0, .slice none 0 0] 241 _ _ rfl hZ)) hsx⟩ ?_; rintro W3 ⟨hE3, hR3, hC3⟩) | (go_at_call 130; refine (HC _ ((hE0.trans hE).trans hE3)).mono ?_; rintro e w4 ⟨rfl, hd4⟩; have he4 := drew_ext hd4; clear hd4))
          refine ⟨⟨k + 1, by omega, int_eq (by omega), fun q hq => ?_, (hE.trans hE3).trans he4⟩, by simp [intOf]; omega⟩
          rcases hmem q hq with rfl | hq
          · intro e; injection e with _ e2; exact hyk e2
          · exact hno q hq
      · go_wp2_with (first | ((with_reducible (refine Veil.out ?_; apply wl_loadR rt25)); (case hx => rfl); (case hr => first | (with_reducible exact HA _ hE3) | (with_reducible exact hR3)); (case hn => first | exact hsx | exact hsa)) | ((with_reducible (refine Veil.out ?_; apply wl_loadR rt233)); (case hx => rfl); (case hr => exact HR); (case hn => exact hsm)) | ((with_reducible (refine Veil.out ?_; apply wl_storeR rt233)); (case hx => rfl); (case hy => rfl); (case hn => exact hsm); (case hth => exact boxes_there _ #[.int .u8 0, .int .u8 0, .int .u8 0, .int .u8 0, .int .u8 0, .int .u8 0, .int .u8 0, .int .u8 0, .int .u8 0, .int .u8 0, .int .u8 0, .int .u8 0, .int .u8 0, .int .u8 0, .int .u8 0, .int .u8 0, .int .u8 0, .int .u8 0, .int .u8 0, .int .u8 0, .slice none 0 0] 241 _ _ rfl hZ); (case h1 => exact mkR_one hu1); refine w_gen (fun W => Ext wr W ∧ RowIn W wr.heap.size 0 (av x) ∧ W.cell? ⟨wr.heap.size, 20, none⟩ = some u) ⟨ext_setRow hE2 (Nat.le_refl _), mk_parts (row_set (by rw [hsm]; exact boxes_there _ #[.int .u8 0, .int .u8 0, .int .u8 0, .int .u8 0, .int .u8 0, .int .u8 0, .int .u8 0, .int .u8 0, .int .u8 0, .int .u8 0, .int .u8 0, .int .u8 0, .int .u8 0, .int .u8 0, .int .u8 0, .int .u8 0, .int .u8 0, .int .u8 0, .int .u8 0, .int .u8 0, .slice none 0 0] 241 _ _ rfl hZ)) hsx⟩ ?_; rintro W3 ⟨hE3, hR3, hC3⟩) | (go_at_call 130; refine (HC _ ((hE0.trans hE).trans hE3)).mono ?_; rintro e w4 ⟨rfl, hd4⟩; have he4 := drew_ext hd4; clear hd4))
        refine ⟨⟨k + 1, by omega, int_eq (by omega), fun q hq => ?_, hE.trans hE3⟩, by simp [intOf]; omega⟩
        rcases hmem q hq with rfl | hq
        · intro e; injection e with e1 _; exact hxa e1
        · exact hno q hq
    · have hkn : k = l.length := by omega
      have hki : ¬ (k : Int) < l.length := by omega
      go_wp2
      go_ret
      refine ⟨?_, hE0.trans hE⟩
      rw [decide_eq_false (fun q => hno (a, key) (by rw [hkn, List.take_length]; exact q) rfl)]
      rfl
end
end Go.Proofs.YgvahwGreat
