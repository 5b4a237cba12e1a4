import Derived.Test.YgvahwGreatYpE
namespace Go.Proofs.YgvahwGreat
open Go.RowKit
theorem look_at {α κ : Type} [DecidableEq κ] (key : α → κ) (q : κ) (l : List α) (k : Nat) (hk : k < l.length) (hno : ∀ x ∈ l.take k, key x ≠ q) (hx : key l[k] = q) : look key q l = some l[k] := by
  have e : l = l.take k ++ l[k] :: l.drop (k + 1) := by rw [← List.drop_eq_getElem_cons hk, List.take_append_drop]
  have h1 : look key q (l.take k) = none := by
    cases h : look key q (l.take k) with
    | none => rfl
    | some y => exact absurd (look_some h).2 (hno y (look_some h).1)
  calc look key q l = look key q (l.take k ++ l[k] :: l.drop (k + 1)) := by rw [← e]
    _ = some l[k] := by rw [look_append, h1, look_cons, if_pos hx]; rfl
theorem look_no {α κ : Type} [DecidableEq κ] (key : α → κ) (q : κ) (l : List α) (hno : ∀ x ∈ l, key x ≠ q) : look key q l = none := by
  cases h : look key q l with
  | none => rfl
  | some y => exact absurd (look_some h).2 (hno y (look_some h).1)
/-- A slot with an address, of a list. -/
structure TmC (O : Nat → Prop) (w : World) (c : Nat → Value) (o : Nat) (m : Nat × Nat × Nat) : Prop where
  addr : AAt c o m.1
  aLt : m.1 < 2 ^ 160
  key : NV O w (c (o + 20)) m.2.1
  val : NV O w (c (o + 21)) m.2.2
theorem TmC.ext {O : Nat → Prop} {w w' : World} {c : Nat → Value} {o : Nat} {m : Nat × Nat × Nat} (h : TmC O w c o m) (e : Ext w w') : TmC O w' c o m := ⟨h.addr, h.aLt, h.key.ext e, h.val.ext e⟩
abbrev TmpL (ty : TypeId) (O : Nat → Prop) (w : World) (v : Value) (l : List (Nat × Nat × Nat)) : Prop := GRow ty 22 (TmC O w) (fun b => ¬ O b) w v l
/-- Its row. -/
def tmR (a : Nat) (u v : Value) : Array Value := av a ++ #[u, v]
theorem tmR_size {a : Nat} (h : a < 2 ^ 160) (u v : Value) : (tmR a u v).size = 22 := by simp [tmR, av_size h]
theorem tmR_one {a : Nat} {u v : Value} (hu : u.oneCell' = true) (hv : v.oneCell' = true) : ∀ x ∈ (tmR a u v).toList, x.oneCell' = true := fun x hx => by
  simp only [tmR, Array.toList_append, List.mem_append] at hx
  rcases hx with hx | hx
  · exact av_one a x hx
  · simp at hx
    rcases hx with rfl | rfl
    · exact hu
    · exact hv
theorem TmC.row {O : Nat → Prop} {w W : World} {c : Nat → Value} {o b n : Nat} {t : TypeId} {m : Nat × Nat × Nat} (h : TmC O w c o m) (hB : Blk W b n t c) (hn : o + 22 ≤ n) : RowIn W b o (tmR m.1 (c (o + 20)) (c (o + 21))) := fun i v hv => by
  have hs := av_size h.aLt
  by_cases hi : i < 20
  · rw [tmR, Array.getElem?_append_left (by omega)] at hv
    rw [hB.cell (by omega), h.addr i v hv]
  · rw [tmR, Array.getElem?_append_right (by omega), hs] at hv
    have h2 : i = 20 ∨ i = 21 := by
      have := (Array.getElem?_eq_some_iff.1 hv).1
      simp at this; omega
    rcases h2 with rfl | rfl
    · simp at hv; rw [hB.cell (by omega), hv]
    · simp at hv; rw [hB.cell (by omega), hv]
theorem tm_parts {W : World} {B x : Nat} {u v : Value} (h : RowIn W B 0 (tmR x u v)) (hs : (av x).size = 20) : RowIn W B 0 (av x) ∧ W.cell? ⟨B, 20, none⟩ = some u ∧ W.cell? ⟨B, 21, none⟩ = some v := by
  obtain ⟨h1, h2⟩ := h.app
  rw [hs] at h2
  exact ⟨h1, h2 0 u rfl, h2 1 v rfl⟩
theorem rt296 : RowT 304 22 := rowT_of (by kernel_rfl) (by kernel_rfl)
theorem rt140 : RowT 149 22 := rowT_of (by kernel_rfl) (by kernel_rfl)
theorem cell_lt {w : World} {b o : Nat} {v : Value} (h : w.cell? ⟨b, o, none⟩ = some v) : b < w.heap.size := by
  apply Decidable.byContradiction
  intro hn
  simp [World.cell?, Array.getElem?_eq_none (Nat.le_of_not_lt hn)] at h
/-- The slot's value. -/
def lookT (l : List (Nat × Nat × Nat)) (a k : Nat) : Nat := ((look (fun t : Nat × Nat × Nat => (t.1, t.2.1)) (a, k) l).map (·.2.2)).getD 0
section
attribute [local go_sem] run_eq_av
variable {O : Nat → Prop} {w : World} {Y n : Nat} {t : TypeId} {c : Nat → Value}
set_option maxRecDepth 100000 in
set_option maxHeartbeats 3200000 in
theorem yTload (hB : Blk w Y n t c) (hn : 5 < n) (l : List (Nat × Nat × Nat)) (h : TmpL 304 O w (c 5) l) (a : Nat) (ha : a < 2 ^ 160) (kv : Value) (key : Nat) (hkv : NV O w kv key) (hlen : l.length ≤ 100000) :
    Calls Hvah.prog 242 #[.pointer (some ⟨Y, 0, none⟩), .agg (av a), kv] w fun e w' => ∃ r, e = .returned r ∧ NV O w' r (lookT l a key) ∧ Ext w w' := by
  obtain ⟨o, cap, hv, hmax⟩ := h.slice
  have hlt : (l.length : Int) ≤ 100000 := by omega
  have hE0 : Ext w (w.alloc (.cells (av a) 31)) := (Ext.refl w).alloc _ _
  have hsa : (av a).size = 20 := av_size ha
  have k2 := (hB.ext hE0).cell (i := 5) (by omega)
  rw [hv] at k2
  have HRow : ∀ k (hk : k < l.length), ∃ b u z, o = some ⟨b, 0, none⟩ ∧ (l[k]).1 < 2 ^ 160 ∧ NV O w u (l[k]).2.1 ∧ NV O w z (l[k]).2.2 ∧ ∀ W, Ext w W → RowIn W b (k * 22) (tmR (l[k]).1 u z) := fun k hk => by
    obtain ⟨b, cap', cc, hv', hcap, hcm, hb, hnO, hrow⟩ := h.at_ (fun q => by rw [q] at hk; cases hk)
    rw [hv] at hv'
    injection hv' with hv1 _ hv2
    have hrk := hrow k hk
    exact ⟨b, _, _, hv1, hrk.aLt, hrk.key, hrk.val, fun W hW => hrk.row (hb.ext hW) (by have := Nat.mul_le_mul_right 22 (Nat.le_trans hk hcap); omega)⟩
  go_enter Hvah.func242, Hvah.ntmps242
  go_wp2_with ((with_reducible (refine Veil.out ?_; apply wl_box)); (case hx => rfl))
  clear k2
  go_loopw [14] (fun ix wr => ∃ k, k ≤ l.length ∧ ix = .int .i64 (k : Nat) ∧ (∀ x ∈ l.take k, (x.1, x.2.1) ≠ (a, key)) ∧ Ext (w.alloc (.cells (av a) 31)) wr) (fun ix _ => l.length - (intOf ix).toNat)
  case atStart => exact ⟨0, by omega, rfl, by simp, Ext.refl _⟩
  case round =>
    obtain ⟨k, hk, rfl, hno, hE⟩ := hrel
    by_cases hlt2 : k < l.length
    · have hki : (k : Int) < l.length := by omega
      obtain ⟨b, u, z, rfl, hxl, hu, hz, HR0⟩ := HRow k hlt2
      have HR := HR0 wr (hE0.trans hE)
      have hmem : ∀ x ∈ l.take (k + 1), x = l[k] ∨ x ∈ l.take k := fun x hx => by
        rw [List.take_add_one, List.getElem?_eq_getElem hlt2] at hx
        rcases List.mem_append.1 hx with hx | hx
        · exact Or.inr hx
        · left; simpa using hx
      have hlook : Hid ((l[k].1, l[k].2.1) = (a, key) → lookT l a key = l[k].2.2) := fun q => by
        unfold lookT
        rw [look_at _ _ l k hlt2 hno q]
        rfl
      clear HR0 HRow
      generalize l[k] = p at *
      obtain ⟨x, y, zz⟩ := p
      simp only at hxl hu hz HR hlook
      have hsx := av_size hxl
      have hsm := tmR_size hxl u z
      have hu1 := hu.one
      have hz1 := hz.one
      have HA : ∀ W, Ext wr W → RowIn W w.heap.size 0 (av a) := fun W hW => boxes1 w (av a) 31 W (hE.trans hW)
      have HC := fun W (hW : Ext w W) => nCmp O u kv y key W (hu.ext hW) (hkv.ext hW)
      obtain ⟨Z, hZe⟩ : ∃ Z : Array Value, Hid (Z = #[.int .u8 0, .int .u8 0, .int .u8 0, .int .u8 0, .int .u8 0, .int .u8 0, .int .u8 0, .int .u8 0, .int .u8 0, .int .u8 0, .int .u8 0, .int .u8 0, .int .u8 0, .int .u8 0, .int .u8 0, .int .u8 0, .int .u8 0, .int .u8 0, .int .u8 0, .int .u8 0, .slice none 0 0, .slice none 0 0]) := ⟨_, rfl⟩
      have hE2 : Ext wr (wr.alloc (.cells Z 304)) := (Ext.refl wr).alloc _ _
      have hZ := Ext.refl (wr.alloc (.cells Z 304))
      rw [hZe.out] at hE2 hZ
      by_cases hxa : x = a
      · subst hxa
        by_cases hyk : y = key
        · subst hyk
          have hl2 : Hid (_ = _) := hlook.out rfl
          have hc0 : cmpI y y = 0 := by simp [cmpI]
          rw [hc0] at HC
          clear hlook
          go_wp2_with (first | ((with_reducible (refine Veil.out ?_; apply wl_loadR rt25)); (case hx => rfl); (case hr => first | (with_reducible exact HA _ hE3) | (with_reducible exact hR3)); (case hn => first | exact hsx | exact hsa)) | ((with_reducible (refine Veil.out ?_; apply wl_loadR rt296)); (case hx => rfl); (case hr => exact HR); (case hn => exact hsm)) | ((with_reducible (refine Veil.out ?_; apply wl_storeR rt296)); (case hx => rfl); (case hy => rfl); (case hn => exact hsm); (case hth => exact boxes_there _ #[.int .u8 0, .int .u8 0, .int .u8 0, .int .u8 0, .int .u8 0, .int .u8 0, .int .u8 0, .int .u8 0, .int .u8 0, .int .u8 0, .int .u8 0, .int .u8 0, .int .u8 0, .int .u8 0, .int .u8 0, .int .u8 0, .int .u8 0, .int .u8 0, .int .u8 0, .int .u8 0, .slice none 0 0, .slice none 0 0] 304 _ _ rfl hZ); (case h1 => exact tmR_one hu1 hz1); refine w_gen (fun W => Ext wr W ∧ RowIn W wr.heap.size 0 (av x) ∧ W.cell? ⟨wr.heap.size, 20, none⟩ = some u ∧ W.cell? ⟨wr.heap.size, 21, none⟩ = some z) ⟨ext_setRow hE2 (Nat.le_refl _), tm_parts (row_set (by rw [hsm]; exact boxes_there _ #[.int .u8 0, .int .u8 0, .int .u8 0, .int .u8 0, .int .u8 0, .int .u8 0, .int .u8 0, .int .u8 0, .int .u8 0, .int .u8 0, .int .u8 0, .int .u8 0, .int .u8 0, .int .u8 0, .int .u8 0, .int .u8 0, .int .u8 0, .int .u8 0, .int .u8 0, .int .u8 0, .slice none 0 0, .slice none 0 0] 304 _ _ rfl hZ)) hsx⟩ ?_; rintro W3 ⟨hE3, hR3, hC3, hC4⟩; have hB3 : wr.heap.size < W3.heap.size := cell_lt hC3) | (go_at_call 130; refine (HC _ ((hE0.trans hE).trans hE3)).mono ?_; rintro e w4 ⟨rfl, hd4⟩; have he4 := drew_ext hd4; clear hd4; have hC5 := (he4.rc _ 21 hB3).trans hC4))
          go_ret
          exact ⟨z, rfl, by rw [hl2.out]; exact hz.ext (((hE0.trans hE).trans hE3).trans he4), ((hE0.trans hE).trans hE3).trans he4⟩
        · have hc0 : (cmpI y key == 0) = false := by unfold cmpI; split <;> (try split) <;> simp <;> omega
          clear hlook
          go_wp2_with (first | ((with_reducible (refine Veil.out ?_; apply wl_loadR rt25)); (case hx => rfl); (case hr => first | (with_reducible exact HA _ hE3) | (with_reducible exact hR3)); (case hn => first | exact hsx | exact hsa)) | ((with_reducible (refine Veil.out ?_; apply wl_loadR rt296)); (case hx => rfl); (case hr => exact HR); (case hn => exact hsm)) | ((with_reducible (refine Veil.out ?_; apply wl_storeR rt296)); (case hx => rfl); (case hy => rfl); (case hn => exact hsm); (case hth => exact boxes_there _ #[.int .u8 0, .int .u8 0, .int .u8 0, .int .u8 0, .int .u8 0, .int .u8 0, .int .u8 0, .int .u8 0, .int .u8 0, .int .u8 0, .int .u8 0, .int .u8 0, .int .u8 0, .int .u8 0, .int .u8 0, .int .u8 0, .int .u8 0, .int .u8 0, .int .u8 0, .int .u8 0, .slice none 0 0, .slice none 0 0] 304 _ _ rfl hZ); (case h1 => exact tmR_one hu1 hz1); refine w_gen (fun W => Ext wr W ∧ RowIn W wr.heap.size 0 (av x) ∧ W.cell? ⟨wr.heap.size, 20, none⟩ = some u ∧ W.cell? ⟨wr.heap.size, 21, none⟩ = some z) ⟨ext_setRow hE2 (Nat.le_refl _), tm_parts (row_set (by rw [hsm]; exact boxes_there _ #[.int .u8 0, .int .u8 0, .int .u8 0, .int .u8 0, .int .u8 0, .int .u8 0, .int .u8 0, .int .u8 0, .int .u8 0, .int .u8 0, .int .u8 0, .int .u8 0, .int .u8 0, .int .u8 0, .int .u8 0, .int .u8 0, .int .u8 0, .int .u8 0, .int .u8 0, .int .u8 0, .slice none 0 0, .slice none 0 0] 304 _ _ rfl hZ)) hsx⟩ ?_; rintro W3 ⟨hE3, hR3, hC3, hC4⟩; have hB3 : wr.heap.size < W3.heap.size := cell_lt hC3) | (go_at_call 130; refine (HC _ ((hE0.trans hE).trans hE3)).mono ?_; rintro e w4 ⟨rfl, hd4⟩; have he4 := drew_ext hd4; clear hd4; have hC5 := (he4.rc _ 21 hB3).trans hC4))
          refine ⟨⟨k + 1, by omega, int_eq (by omega), fun q hq => ?_, (hE.trans hE3).trans he4⟩, by simp [intOf]; omega⟩
          rcases hmem q hq with rfl | hq
          · intro e; injection e with _ e2; exact hyk e2
          · exact hno q hq
      · clear hlook
        go_wp2_with (first | ((with_reducible (refine Veil.out ?_; apply wl_loadR rt25)); (case hx => rfl); (case hr => first | (with_reducible exact HA _ hE3) | (with_reducible exact hR3)); (case hn => first | exact hsx | exact hsa)) | ((with_reducible (refine Veil.out ?_; apply wl_loadR rt296)); (case hx => rfl); (case hr => exact HR); (case hn => exact hsm)) | ((with_reducible (refine Veil.out ?_; apply wl_storeR rt296)); (case hx => rfl); (case hy => rfl); (case hn => exact hsm); (case hth => exact boxes_there _ #[.int .u8 0, .int .u8 0, .int .u8 0, .int .u8 0, .int .u8 0, .int .u8 0, .int .u8 0, .int .u8 0, .int .u8 0, .int .u8 0, .int .u8 0, .int .u8 0, .int .u8 0, .int .u8 0, .int .u8 0, .int .u8 0, .int .u8 0, .int .u8 0, .int .u8 0, .int .u8 0, .slice none 0 0, .slice none 0 0] 304 _ _ rfl hZ); (case h1 => exact tmR_one hu1 hz1); refine w_gen (fun W => Ext wr W ∧ RowIn W wr.heap.size 0 (av x) ∧ W.cell? ⟨wr.heap.size, 20, none⟩ = some u ∧ W.cell? ⟨wr.heap.size, 21, none⟩ = some z) ⟨ext_setRow hE2 (Nat.le_refl _), tm_parts (row_set (by rw [hsm]; exact boxes_there _ #[.int .u8 0, .int .u8 0, .int .u8 0, .int .u8 0, .int .u8 0, .int .u8 0, .int .u8 0, .int .u8 0, .int .u8 0, .int .u8 0, .int .u8 0, .int .u8 0, .int .u8 0, .int .u8 0, .int .u8 0, .int .u8 0, .int .u8 0, .int .u8 0, .int .u8 0, .int .u8 0, .slice none 0 0, .slice none 0 0] 304 _ _ rfl hZ)) hsx⟩ ?_; rintro W3 ⟨hE3, hR3, hC3, hC4⟩; have hB3 : wr.heap.size < W3.heap.size := cell_lt hC3) | (go_at_call 130; refine (HC _ ((hE0.trans hE).trans hE3)).mono ?_; rintro e w4 ⟨rfl, hd4⟩; have he4 := drew_ext hd4; clear hd4; have hC5 := (he4.rc _ 21 hB3).trans hC4))
        refine ⟨⟨k + 1, by omega, int_eq (by omega), fun q hq => ?_, hE.trans hE3⟩, by simp [intOf]; omega⟩
        rcases hmem q hq with rfl | hq
        · intro e; injection e with e1 _; exact hxa e1
        · exact hno q hq
    · have hkn : k = l.length := by omega
      have hki : ¬ (k : Int) < l.length := by omega
      have hl2 : Hid (lookT l a key = 0) := by
        unfold Hid lookT
        rw [look_no _ _ l (fun x hx => hno x (by rw [hkn, List.take_length]; exact hx))]
        rfl
      go_wp2
      go_ret
      exact ⟨_, rfl, by rw [hl2.out]; exact ⟨[], NL.nil, rfl⟩, hE0.trans hE⟩
set_option maxRecDepth 100000 in
set_option maxHeartbeats 3200000 in
theorem yOrig (hB : Blk w Y n t c) (hn : 8 < n) (l : List (Nat × Nat × Nat)) (h : TmpL 149 O w (c 8) l) (a : Nat) (ha : a < 2 ^ 160) (kv : Value) (key : Nat) (hkv : NV O w kv key) (hlen : l.length ≤ 100000) :
    Calls Hvah.prog 404 #[.pointer (some ⟨Y, 0, none⟩), .agg (av a), kv] w fun e w' => ∃ r, e = .returned r ∧ NV O w' r (lookT l a key) ∧ Ext w w' := by
  obtain ⟨o, cap, hv, hmax⟩ := h.slice
  have hlt : (l.length : Int) ≤ 100000 := by omega
  have hE0 : Ext w (w.alloc (.cells (av a) 31)) := (Ext.refl w).alloc _ _
  have hsa : (av a).size = 20 := av_size ha
  have k2 := (hB.ext hE0).cell (i := 8) (by omega)
  rw [hv] at k2
  have HRow : ∀ k (hk : k < l.length), ∃ b u z, o = some ⟨b, 0, none⟩ ∧ (l[k]).1 < 2 ^ 160 ∧ NV O w u (l[k]).2.1 ∧ NV O w z (l[k]).2.2 ∧ ∀ W, Ext w W → RowIn W b (k * 22) (tmR (l[k]).1 u z) := fun k hk => by
    obtain ⟨b, cap', cc, hv', hcap, hcm, hb, hnO, hrow⟩ := h.at_ (fun q => by rw [q] at hk; cases hk)
    rw [hv] at hv'
    injection hv' with hv1 _ hv2
    have hrk := hrow k hk
    exact ⟨b, _, _, hv1, hrk.aLt, hrk.key, hrk.val, fun W hW => hrk.row (hb.ext hW) (by have := Nat.mul_le_mul_right 22 (Nat.le_trans hk hcap); omega)⟩
  go_enter Hvah.func404, Hvah.ntmps404
  go_wp2_with ((with_reducible (refine Veil.out ?_; apply wl_box)); (case hx => rfl))
  clear k2
  go_loopw [14] (fun ix wr => ∃ k, k ≤ l.length ∧ ix = .int .i64 (k : Nat) ∧ (∀ x ∈ l.take k, (x.1, x.2.1) ≠ (a, key)) ∧ Ext (w.alloc (.cells (av a) 31)) wr) (fun ix _ => l.length - (intOf ix).toNat)
  case atStart => exact ⟨0, by omega, rfl, by simp, Ext.refl _⟩
  case round =>
    obtain ⟨k, hk, rfl, hno, hE⟩ := hrel
    by_cases hlt2 : k < l.length
    · have hki : (k : Int) < l.length := by omega
      obtain ⟨b, u, z, rfl, hxl, hu, hz, HR0⟩ := HRow k hlt2
      have HR := HR0 wr (hE0.trans hE)
      have hmem : ∀ x ∈ l.take (k + 1), x = l[k] ∨ x ∈ l.take k := fun x hx => by
        rw [List.take_add_one, List.getElem?_eq_getElem hlt2] at hx
        rcases List.mem_append.1 hx with hx | hx
        · exact Or.inr hx
        · left; simpa using hx
      have hlook : Hid ((l[k].1, l[k].2.1) = (a, key) → lookT l a key = l[k].2.2) := fun q => by
        unfold lookT
        rw [look_at _ _ l k hlt2 hno q]
        rfl
      clear HR0 HRow
      generalize l[k] = p at *
      obtain ⟨x, y, zz⟩ := p
      simp only at hxl hu hz HR hlook
      have hsx := av_size hxl
      have hsm := tmR_size hxl u z
      have hu1 := hu.one
      have hz1 := hz.one
      have HA : ∀ W, Ext wr W → RowIn W w.heap.size 0 (av a) := fun W hW => boxes1 w (av a) 31 W (hE.trans hW)
      have HC := fun W (hW : Ext w W) => nCmp O u kv y key W (hu.ext hW) (hkv.ext hW)
      obtain ⟨Z, hZe⟩ : ∃ Z : Array Value, Hid (Z = #[.int .u8 0, .int .u8 0, .int .u8 0, .int .u8 0, .int .u8 0, .int .u8 0, .int .u8 0, .int .u8 0, .int .u8 0, .int .u8 0, .int .u8 0, .int .u8 0, .int .u8 0, .int .u8 0, .int .u8 0, .int .u8 0, .int .u8 0, .int .u8 0, .int .u8 0, .int .u8 0, .slice none 0 0, .slice none 0 0]) := ⟨_, rfl⟩
      have hE2 : Ext wr (wr.alloc (.cells Z 149)) := (Ext.refl wr).alloc _ _
      have hZ := Ext.refl (wr.alloc (.cells Z 149))
      rw [hZe.out] at hE2 hZ
      by_cases hxa : x = a
      · subst hxa
        by_cases hyk : y = key
        · subst hyk
          have hl2 : Hid (_ = _) := hlook.out rfl
          have hc0 : cmpI y y = 0 := by simp [cmpI]
          rw [hc0] at HC
          clear hlook
          go_wp2_with (first | ((with_reducible (refine Veil.out ?_; apply wl_loadR rt25)); (case hx => rfl); (case hr => first | (with_reducible exact HA _ hE3) | (with_reducible exact hR3)); (case hn => first | exact hsx | exact hsa)) | ((with_reducible (refine Veil.out ?_; apply wl_loadR rt140)); (case hx => rfl); (case hr => exact HR); (case hn => exact hsm)) | ((with_reducible (refine Veil.out ?_; apply wl_storeR rt140)); (case hx => rfl); (case hy => rfl); (case hn => exact hsm); (case hth => exact boxes_there _ #[.int .u8 0, .int .u8 0, .int .u8 0, .int .u8 0, .int .u8 0, .int .u8 0, .int .u8 0, .int .u8 0, .int .u8 0, .int .u8 0, .int .u8 0, .int .u8 0, .int .u8 0, .int .u8 0, .int .u8 0, .int .u8 0, .int .u8 0, .int .u8 0, .int .u8 0, .int .u8 0, .slice none 0 0, .slice none 0 0] 149 _ _ rfl hZ); (case h1 => exact tmR_one hu1 hz1); refine w_gen (fun W => Ext wr W ∧ RowIn W wr.heap.size 0 (av x) ∧ W.cell? ⟨wr.heap.size, 20, none⟩ = some u ∧ W.cell? ⟨wr.heap.size, 21, none⟩ = some z) ⟨ext_setRow hE2 (Nat.le_refl _), tm_parts (row_set (by rw [hsm]; exact boxes_there _ #[.int .u8 0, .int .u8 0, .int .u8 0, .int .u8 0, .int .u8 0, .int .u8 0, .int .u8 0, .int .u8 0, .int .u8 0, .int .u8 0, .int .u8 0, .int .u8 0, .int .u8 0, .int .u8 0, .int .u8 0, .int .u8 0, .int .u8 0, .int .u8 0, .int .u8 0, .int .u8 0, .slice none 0 0, .slice none 0 0] 149 _ _ rfl hZ)) hsx⟩ ?_; rintro W3 ⟨hE3, hR3, hC3, hC4⟩; have hB3 : wr.heap.size < W3.heap.size := cell_lt hC3) | (go_at_call 130; refine (HC _ ((hE0.trans hE).trans hE3)).mono ?_; rintro e w4 ⟨rfl, hd4⟩; have he4 := drew_ext hd4; clear hd4; have hC5 := (he4.rc _ 21 hB3).trans hC4))
          go_ret
          exact ⟨z, rfl, by rw [hl2.out]; exact hz.ext (((hE0.trans hE).trans hE3).trans he4), ((hE0.trans hE).trans hE3).trans he4⟩
        · have hc0 : (cmpI y key == 0) = false := by unfold cmpI; split <;> (try split) <;> simp <;> omega
          clear hlook
          go_wp2_with (first | ((with_reducible (refine Veil.out ?_; apply wl_loadR rt25)); (case hx => rfl); (case hr => first | (with_reducible exact HA _ hE3) | (with_reducible exact hR3)); (case hn => first | exact hsx | exact hsa)) | ((with_reducible (refine Veil.out ?_; apply wl_loadR rt140)); (case hx => rfl); (case hr => exact HR); (case hn => exact hsm)) | ((with_reducible (refine Veil.out ?_; apply wl_storeR rt140)); (case hx => rfl); (case hy => rfl); (case hn => exact hsm); (case hth => exact boxes_there _ #[.int .u8 0, .int .u8 0, .int .u8 0, .int .u8 0, .int .u8 0, .int .u8 0, .int .u8 0, .int .u8 0, .int .u8 0, .int .u8 0, .int .u8 0, .int .u8 0, .int .u8 0, .int .u8 0, .int .u8 0, .int .u8 0, .int .u8 0, .int .u8 0, .int .u8 0, .int .u8 0, .slice none 0 0, .slice none 0 0] 149 _ _ rfl hZ); (case h1 => exact tmR_one hu1 hz1); refine w_gen (fun W => Ext wr W ∧ RowIn W wr.heap.size 0 (av x) ∧ W.cell? ⟨wr.heap.size, 20, none⟩ = some u ∧ W.cell? ⟨wr.heap.size, 21, none⟩ = some z) ⟨ext_setRow hE2 (Nat.le_refl _), tm_parts (row_set (by rw [hsm]; exact boxes_there _ #[.int .u8 0, .int .u8 0, .int .u8 0, .int .u8 0, .int .u8 0, .int .u8 0, .int .u8 0, .int .u8 0, .int .u8 0, .int .u8 0, .int .u8 0, .int .u8 0, .int .u8 0, .int .u8 0, .int .u8 0, .int .u8 0, .int .u8 0, .int .u8 0, .int .u8 0, .int .u8 0, .slice none 0 0, .slice none 0 0] 149 _ _ rfl hZ)) hsx⟩ ?_; rintro W3 ⟨hE3, hR3, hC3, hC4⟩; have hB3 : wr.heap.size < W3.heap.size := cell_lt hC3) | (go_at_call 130; refine (HC _ ((hE0.trans hE).trans hE3)).mono ?_; rintro e w4 ⟨rfl, hd4⟩; have he4 := drew_ext hd4; clear hd4; have hC5 := (he4.rc _ 21 hB3).trans hC4))
          refine ⟨⟨k + 1, by omega, int_eq (by omega), fun q hq => ?_, (hE.trans hE3).trans he4⟩, by simp [intOf]; omega⟩
          rcases hmem q hq with rfl | hq
          · intro e; injection e with _ e2; exact hyk e2
          · exact hno q hq
      · clear hlook
        go_wp2_with (first | ((with_reducible (refine Veil.out ?_; apply wl_loadR rt25)); (case hx => rfl); (case hr => first | (with_reducible exact HA _ hE3) | (with_reducible exact hR3)); (case hn => first | exact hsx | exact hsa)) | ((with_reducible (refine Veil.out ?_; apply wl_loadR rt140)); (case hx => rfl); (case hr => exact HR); (case hn => exact hsm)) | ((with_reducible (refine Veil.out ?_; apply wl_storeR rt140)); (case hx => rfl); (case hy => rfl); (case hn => exact hsm); (case hth => exact boxes_there _ #[.int .u8 0, .int .u8 0, .int .u8 0, .int .u8 0, .int .u8 0, .int .u8 0, .int .u8 0, .int .u8 0, .int .u8 0, .int .u8 0, .int .u8 0, .int .u8 0, .int .u8 0, .int .u8 0, .int .u8 0, .int .u8 0, .int .u8 0, .int .u8 0, .int .u8 0, .int .u8 0, .slice none 0 0, .slice none 0 0] 149 _ _ rfl hZ); (case h1 => exact tmR_one hu1 hz1); refine w_gen (fun W => Ext wr W ∧ RowIn W wr.heap.size 0 (av x) ∧ W.cell? ⟨wr.heap.size, 20, none⟩ = some u ∧ W.cell? ⟨wr.heap.size, 21, none⟩ = some z) ⟨ext_setRow hE2 (Nat.le_refl _), tm_parts (row_set (by rw [hsm]; exact boxes_there _ #[.int .u8 0, .int .u8 0, .int .u8 0, .int .u8 0, .int .u8 0, .int .u8 0, .int .u8 0, .int .u8 0, .int .u8 0, .int .u8 0, .int .u8 0, .int .u8 0, .int .u8 0, .int .u8 0, .int .u8 0, .int .u8 0, .int .u8 0, .int .u8 0, .int .u8 0, .int .u8 0, .slice none 0 0, .slice none 0 0] 149 _ _ rfl hZ)) hsx⟩ ?_; rintro W3 ⟨hE3, hR3, hC3, hC4⟩; have hB3 : wr.heap.size < W3.heap.size := cell_lt hC3) | (go_at_call 130; refine (HC _ ((hE0.trans hE).trans hE3)).mono ?_; rintro e w4 ⟨rfl, hd4⟩; have he4 := drew_ext hd4; clear hd4; have hC5 := (he4.rc _ 21 hB3).trans hC4))
        refine ⟨⟨k + 1, by omega, int_eq (by omega), fun q hq => ?_, hE.trans hE3⟩, by simp [intOf]; omega⟩
        rcases hmem q hq with rfl | hq
        · intro e; injection e with e1 _; exact hxa e1
        · exact hno q hq
    · have hkn : k = l.length := by omega
      have hki : ¬ (k : Int) < l.length := by omega
      have hl2 : Hid (lookT l a key = 0) := by
        unfold Hid lookT
        rw [look_no _ _ l (fun x hx => hno x (by rw [hkn, List.take_length]; exact hx))]
        rfl
      go_wp2
      go_ret
      exact ⟨_, rfl, by rw [hl2.out]; exact ⟨[], NL.nil, rfl⟩, hE0.trans hE⟩
end
end Go.Proofs.YgvahwGreat
