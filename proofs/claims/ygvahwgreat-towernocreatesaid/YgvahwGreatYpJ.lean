import Derived.Test.YgvahwGreatYpI
namespace Go.Proofs.YgvahwGreat
open Go.RowKit
theorem setOne {W : World} {B i : Nat} {v : Value} {r : Array Value} (h : RowIn W B 0 r) (hi : i < r.size) : RowIn (W.setCell ⟨B, i, none⟩ v) B 0 (r.setIfInBounds i v) := fun j u hu => by
  rw [Array.getElem?_setIfInBounds] at hu
  by_cases e : i = j
  · subst e
    rw [if_pos rfl, if_pos hi] at hu
    injection hu with hu
    subst hu
    rw [Nat.zero_add]
    have hs := h i _ (Array.getElem?_eq_getElem hi)
    rw [Nat.zero_add] at hs
    exact World.cell?_setCell_same' _ _ _ (by rw [hs]; rfl)
  · rw [if_neg e] at hu
    exact cx_set (h j u hu) (fun q => e (by have := q.2; omega))
theorem acR_set1 {a : Nat} (ha : a < 2 ^ 160) (u1 u2 u3 u4 v : Value) : (acR a u1 u2 u3 u4).setIfInBounds 20 v = acR a v u2 u3 u4 := by
  have hs := av_size ha
  apply Array.ext_getElem?
  intro j
  rw [Array.getElem?_setIfInBounds, acR, acR]
  by_cases e : 20 = j
  · subst e
    rw [if_pos rfl, if_pos (by simp; omega), Array.getElem?_append_right (by omega), hs]; rfl
  · rw [if_neg e]
    by_cases h : j < 20
    · rw [Array.getElem?_append_left (by omega), Array.getElem?_append_left (by omega)]
    · rw [Array.getElem?_append_right (by omega), Array.getElem?_append_right (by omega), hs]
      obtain ⟨k, rfl⟩ : ∃ k, j = 21 + k := ⟨j - 21, by omega⟩
      rw [show 21 + k - 20 = k + 1 by omega]
      simp
theorem acR_set2 {a : Nat} (ha : a < 2 ^ 160) (u1 u2 u3 u4 v : Value) : (acR a u1 u2 u3 u4).setIfInBounds 21 v = acR a u1 v u3 u4 := by
  have hs := av_size ha
  apply Array.ext_getElem?
  intro j
  rw [Array.getElem?_setIfInBounds, acR, acR]
  by_cases e : 21 = j
  · subst e
    rw [if_pos rfl, if_pos (by simp; omega), Array.getElem?_append_right (by omega), hs]; rfl
  · rw [if_neg e]
    by_cases h : j < 20
    · rw [Array.getElem?_append_left (by omega), Array.getElem?_append_left (by omega)]
    · rw [Array.getElem?_append_right (by omega), Array.getElem?_append_right (by omega), hs]
      by_cases h20 : j = 20
      · subst h20; rfl
      · obtain ⟨k, rfl⟩ : ∃ k, j = 22 + k := ⟨j - 22, by omega⟩
        rw [show 22 + k - 20 = k + 2 by omega]
        simp
section
variable {O : Nat → Prop} {w : World} {Y n : Nat} {t : TypeId} {c : Nat → Value}
set_option maxRecDepth 100000 in
set_option maxHeartbeats 3200000 in
theorem ySetNonce (hB : Blk w Y n t c) (hn : 8 ≤ n) (hO : Small O w) (hY : O Y) (l : List YA) (h : AccL O w (c 0) l) (a : Nat) (ha : a < 2 ^ 160) (kv : Value) (k : Nat) (hk : NV O w kv k) (hlen : l.length ≤ 100000) :
    Calls Hvah.prog 58 #[.pointer (some ⟨Y, 0, none⟩), .agg (av a), kv] w fun e w' => ∃ v', e = .returned (.tuple #[]) ∧ Blk w' Y n t (updv c 0 v') ∧ AccL O w' v' (insG YA.addr { (look YA.addr a l).getD (YA.new a) with nonce := k } ({ (look YA.addr a l).getD (YA.new a) with nonce := k } : YA).void l) ∧ Mod (· = Y) w w' := by
  have hE0 : Ext w (w.alloc (.cells (av a) 31)) := (Ext.refl w).alloc _ _
  have hsa : (av a).size = 20 := av_size ha
  have HA := boxes1 w (av a) 31 _ (Ext.refl _)
  have HAc := yAccount (hB.ext hE0) hn l (h.ext hE0 (fun _ _ _ k => k.ext hE0)) a ha hlen
  have hxa : ((look YA.addr a l).getD (YA.new a)).addr = a := by
    cases q : look YA.addr a l with
    | none => rfl
    | some y => exact (look_some q).2
  generalize (look YA.addr a l).getD (YA.new a) = x at *
  have HXA : Hid (x.addr = a) := hxa
  clear hxa
  obtain ⟨ks, ⟨ko, kc, hke, hk1, hk2, hk3⟩, hk4⟩ := id hk
  subst hke
  have HP : ∀ W u1 u2 u3 u4, Ext w W → AcP O W x u1 u2 u3 u4 → Calls Hvah.prog 136 #[.pointer (some ⟨Y, 0, none⟩), .agg (acR a (.slice ko ks.length kc) u2 u3 u4)] W fun e w' => ∃ v', e = .returned (.tuple #[]) ∧ Blk w' Y n t (updv c 0 v') ∧ AccL O w' v' (insG YA.addr { x with nonce := k } ({ x with nonce := k } : YA).void l) ∧ Mod (· = Y) w w' := fun W u1 u2 u3 u4 hW hp => by
    refine (yPut (hB.ext hW) hn (hO.ext hW) hY l (h.ext hW (fun _ _ _ k => k.ext hW)) { x with nonce := k } _ ⟨(.slice ko ks.length kc), u2, u3, u4, by show _ = Value.agg (acR x.addr (.slice ko ks.length kc) u2 u3 u4); rw [HXA.out], ⟨hp.aLt, hk.ext hW, hp.bal, hp.code, hp.slots⟩⟩ hlen).mono ?_
    rintro e w' ⟨v', rfl, q1, q2, q3⟩
    exact ⟨v', rfl, q1, q2, (hW.mod _).trans q3⟩
  go_enter Hvah.func58, Hvah.ntmps58
  go_wp2_with (first | ((with_reducible (refine Veil.out ?_; apply wl_box)); (case hx => rfl)) | ((with_reducible (refine Veil.out ?_; apply wl_loadR rt25)); (case hx => rfl); (case hr => exact HA); (case hn => exact hsa)) | (go_at_call 53; refine HAc.mono ?_; rintro e w1 ⟨r, rfl, hr, he⟩; obtain ⟨u1, u2, u3, u4, rfl, hp⟩ := hr; have hxl := hp.aLt; have hs24 := acR_size hxl u1 u2 u3 u4; have o1 := hp.nonce.one; have o2 := hp.bal.one; have o3 := hp.code.one; have o4 := hp.slots.one; have hE1 := hE0.trans he; have hE2 : Ext w1 (w1.alloc (.cells #[.int .u8 0, .int .u8 0, .int .u8 0, .int .u8 0, .int .u8 0, .int .u8 0, .int .u8 0, .int .u8 0, .int .u8 0, .int .u8 0, .int .u8 0, .int .u8 0, .int .u8 0, .int .u8 0, .int .u8 0, .int .u8 0, .int .u8 0, .int .u8 0, .int .u8 0, .int .u8 0, .slice none 0 0, .slice none 0 0, .slice none 0 0, .slice none 0 0] 121)) := (Ext.refl w1).alloc _ _; have hZ := Ext.refl (w1.alloc (.cells #[.int .u8 0, .int .u8 0, .int .u8 0, .int .u8 0, .int .u8 0, .int .u8 0, .int .u8 0, .int .u8 0, .int .u8 0, .int .u8 0, .int .u8 0, .int .u8 0, .int .u8 0, .int .u8 0, .int .u8 0, .int .u8 0, .int .u8 0, .int .u8 0, .int .u8 0, .int .u8 0, .slice none 0 0, .slice none 0 0, .slice none 0 0, .slice none 0 0] 121))) | ((with_reducible (refine Veil.out ?_; apply wl_storeR rt108)); (case hx => rfl); (case hy => rfl); (case hn => exact hs24); (case hth => exact boxes_there _ #[.int .u8 0, .int .u8 0, .int .u8 0, .int .u8 0, .int .u8 0, .int .u8 0, .int .u8 0, .int .u8 0, .int .u8 0, .int .u8 0, .int .u8 0, .int .u8 0, .int .u8 0, .int .u8 0, .int .u8 0, .int .u8 0, .int .u8 0, .int .u8 0, .int .u8 0, .int .u8 0, .slice none 0 0, .slice none 0 0, .slice none 0 0, .slice none 0 0] 121 _ _ rfl hZ); (case h1 => exact acR_one o1 o2 o3 o4); refine w_gen (fun W => Ext w1 W ∧ W.there w1.heap.size 0 24 ∧ RowIn W w1.heap.size 0 (acR x.addr u1 u2 u3 u4)) ⟨ext_setRow hE2 (Nat.le_refl _), World.there_setCells (boxes_there _ #[.int .u8 0, .int .u8 0, .int .u8 0, .int .u8 0, .int .u8 0, .int .u8 0, .int .u8 0, .int .u8 0, .int .u8 0, .int .u8 0, .int .u8 0, .int .u8 0, .int .u8 0, .int .u8 0, .int .u8 0, .int .u8 0, .int .u8 0, .int .u8 0, .int .u8 0, .int .u8 0, .slice none 0 0, .slice none 0 0, .slice none 0 0, .slice none 0 0] 121 _ _ rfl hZ) _ _ _, row_set (by rw [hs24]; exact boxes_there _ #[.int .u8 0, .int .u8 0, .int .u8 0, .int .u8 0, .int .u8 0, .int .u8 0, .int .u8 0, .int .u8 0, .int .u8 0, .int .u8 0, .int .u8 0, .int .u8 0, .int .u8 0, .int .u8 0, .int .u8 0, .int .u8 0, .int .u8 0, .int .u8 0, .int .u8 0, .int .u8 0, .slice none 0 0, .slice none 0 0, .slice none 0 0, .slice none 0 0] 121 _ _ rfl hZ)⟩ ?_; rintro W3 ⟨hE3, hT3, hR3⟩; have hc3 := (ac_cells hxl hR3).1; have hf3 := (hT3 20 (by decide)).2; have hB3 := cell_lt hc3; rw [Nat.zero_add] at hc3 hf3; have hR4 := setOne (i := 20) (v := .slice ko ks.length kc) hR3 (by omega); rw [acR_set1 hxl, HXA.out] at hR4; have hs4 := acR_size ha (.slice ko ks.length kc) u2 u3 u4) | ((with_reducible (refine Veil.out ?_; apply wl_loadR rt108)); (case hx => rfl); (case hr => exact hR4); (case hn => exact hs4)) | (go_at_call 136; have hE5 : Ext w (W3.setCell ⟨w1.heap.size, 20, none⟩ (.slice ko ks.length kc)) := (hE1.trans hE3).trans_mod (Mod.setCell (S := (· = w1.heap.size)) (Mod.refl _ _) (Or.inl rfl) _) (fun i hi => by rw [hi]; exact hE1.size); refine (HP _ u1 u2 u3 u4 hE5 (hp.ext ((hE3).trans_mod (Mod.setCell (S := (· = w1.heap.size)) (Mod.refl _ _) (Or.inl rfl) _) (fun i hi => by rw [hi]; exact Nat.le_refl _)))).mono ?_; rintro e w9 ⟨v', rfl, hfin⟩))
  go_end0
  exact ⟨v', rfl, hfin⟩
set_option maxRecDepth 100000 in
set_option maxHeartbeats 3200000 in
theorem ySetBalance (hB : Blk w Y n t c) (hn : 8 ≤ n) (hO : Small O w) (hY : O Y) (l : List YA) (h : AccL O w (c 0) l) (a : Nat) (ha : a < 2 ^ 160) (kv : Value) (k : Nat) (hk : NV O w kv k) (hlen : l.length ≤ 100000) :
    Calls Hvah.prog 59 #[.pointer (some ⟨Y, 0, none⟩), .agg (av a), kv] w fun e w' => ∃ v', e = .returned (.tuple #[]) ∧ Blk w' Y n t (updv c 0 v') ∧ AccL O w' v' (insG YA.addr { (look YA.addr a l).getD (YA.new a) with bal := k } ({ (look YA.addr a l).getD (YA.new a) with bal := k } : YA).void l) ∧ Mod (· = Y) w w' := by
  have hE0 : Ext w (w.alloc (.cells (av a) 31)) := (Ext.refl w).alloc _ _
  have hsa : (av a).size = 20 := av_size ha
  have HA := boxes1 w (av a) 31 _ (Ext.refl _)
  have HAc := yAccount (hB.ext hE0) hn l (h.ext hE0 (fun _ _ _ k => k.ext hE0)) a ha hlen
  have hxa : ((look YA.addr a l).getD (YA.new a)).addr = a := by
    cases q : look YA.addr a l with
    | none => rfl
    | some y => exact (look_some q).2
  generalize (look YA.addr a l).getD (YA.new a) = x at *
  have HXA : Hid (x.addr = a) := hxa
  clear hxa
  obtain ⟨ks, ⟨ko, kc, hke, hk1, hk2, hk3⟩, hk4⟩ := id hk
  subst hke
  have HP : ∀ W u1 u2 u3 u4, Ext w W → AcP O W x u1 u2 u3 u4 → Calls Hvah.prog 136 #[.pointer (some ⟨Y, 0, none⟩), .agg (acR a u1 (.slice ko ks.length kc) u3 u4)] W fun e w' => ∃ v', e = .returned (.tuple #[]) ∧ Blk w' Y n t (updv c 0 v') ∧ AccL O w' v' (insG YA.addr { x with bal := k } ({ x with bal := k } : YA).void l) ∧ Mod (· = Y) w w' := fun W u1 u2 u3 u4 hW hp => by
    refine (yPut (hB.ext hW) hn (hO.ext hW) hY l (h.ext hW (fun _ _ _ k => k.ext hW)) { x with bal := k } _ ⟨u1, (.slice ko ks.length kc), u3, u4, by show _ = Value.agg (acR x.addr u1 (.slice ko ks.length kc) u3 u4); rw [HXA.out], ⟨hp.aLt, hp.nonce, hk.ext hW, hp.code, hp.slots⟩⟩ hlen).mono ?_
    rintro e w' ⟨v', rfl, q1, q2, q3⟩
    exact ⟨v', rfl, q1, q2, (hW.mod _).trans q3⟩
  go_enter Hvah.func59, Hvah.ntmps59
  go_wp2_with (first | ((with_reducible (refine Veil.out ?_; apply wl_box)); (case hx => rfl)) | ((with_reducible (refine Veil.out ?_; apply wl_loadR rt25)); (case hx => rfl); (case hr => exact HA); (case hn => exact hsa)) | (go_at_call 53; refine HAc.mono ?_; rintro e w1 ⟨r, rfl, hr, he⟩; obtain ⟨u1, u2, u3, u4, rfl, hp⟩ := hr; have hxl := hp.aLt; have hs24 := acR_size hxl u1 u2 u3 u4; have o1 := hp.nonce.one; have o2 := hp.bal.one; have o3 := hp.code.one; have o4 := hp.slots.one; have hE1 := hE0.trans he; have hE2 : Ext w1 (w1.alloc (.cells #[.int .u8 0, .int .u8 0, .int .u8 0, .int .u8 0, .int .u8 0, .int .u8 0, .int .u8 0, .int .u8 0, .int .u8 0, .int .u8 0, .int .u8 0, .int .u8 0, .int .u8 0, .int .u8 0, .int .u8 0, .int .u8 0, .int .u8 0, .int .u8 0, .int .u8 0, .int .u8 0, .slice none 0 0, .slice none 0 0, .slice none 0 0, .slice none 0 0] 121)) := (Ext.refl w1).alloc _ _; have hZ := Ext.refl (w1.alloc (.cells #[.int .u8 0, .int .u8 0, .int .u8 0, .int .u8 0, .int .u8 0, .int .u8 0, .int .u8 0, .int .u8 0, .int .u8 0, .int .u8 0, .int .u8 0, .int .u8 0, .int .u8 0, .int .u8 0, .int .u8 0, .int .u8 0, .int .u8 0, .int .u8 0, .int .u8 0, .int .u8 0, .slice none 0 0, .slice none 0 0, .slice none 0 0, .slice none 0 0] 121))) | ((with_reducible (refine Veil.out ?_; apply wl_storeR rt108)); (case hx => rfl); (case hy => rfl); (case hn => exact hs24); (case hth => exact boxes_there _ #[.int .u8 0, .int .u8 0, .int .u8 0, .int .u8 0, .int .u8 0, .int .u8 0, .int .u8 0, .int .u8 0, .int .u8 0, .int .u8 0, .int .u8 0, .int .u8 0, .int .u8 0, .int .u8 0, .int .u8 0, .int .u8 0, .int .u8 0, .int .u8 0, .int .u8 0, .int .u8 0, .slice none 0 0, .slice none 0 0, .slice none 0 0, .slice none 0 0] 121 _ _ rfl hZ); (case h1 => exact acR_one o1 o2 o3 o4); refine w_gen (fun W => Ext w1 W ∧ W.there w1.heap.size 0 24 ∧ RowIn W w1.heap.size 0 (acR x.addr u1 u2 u3 u4)) ⟨ext_setRow hE2 (Nat.le_refl _), World.there_setCells (boxes_there _ #[.int .u8 0, .int .u8 0, .int .u8 0, .int .u8 0, .int .u8 0, .int .u8 0, .int .u8 0, .int .u8 0, .int .u8 0, .int .u8 0, .int .u8 0, .int .u8 0, .int .u8 0, .int .u8 0, .int .u8 0, .int .u8 0, .int .u8 0, .int .u8 0, .int .u8 0, .int .u8 0, .slice none 0 0, .slice none 0 0, .slice none 0 0, .slice none 0 0] 121 _ _ rfl hZ) _ _ _, row_set (by rw [hs24]; exact boxes_there _ #[.int .u8 0, .int .u8 0, .int .u8 0, .int .u8 0, .int .u8 0, .int .u8 0, .int .u8 0, .int .u8 0, .int .u8 0, .int .u8 0, .int .u8 0, .int .u8 0, .int .u8 0, .int .u8 0, .int .u8 0, .int .u8 0, .int .u8 0, .int .u8 0, .int .u8 0, .int .u8 0, .slice none 0 0, .slice none 0 0, .slice none 0 0, .slice none 0 0] 121 _ _ rfl hZ)⟩ ?_; rintro W3 ⟨hE3, hT3, hR3⟩; have hc3 := (ac_cells hxl hR3).2.1; have hf3 := (hT3 21 (by decide)).2; have hB3 := cell_lt hc3; rw [Nat.zero_add] at hc3 hf3; have hR4 := setOne (i := 21) (v := .slice ko ks.length kc) hR3 (by omega); rw [acR_set2 hxl, HXA.out] at hR4; have hs4 := acR_size ha u1 (.slice ko ks.length kc) u3 u4) | ((with_reducible (refine Veil.out ?_; apply wl_loadR rt108)); (case hx => rfl); (case hr => exact hR4); (case hn => exact hs4)) | (go_at_call 136; have hE5 : Ext w (W3.setCell ⟨w1.heap.size, 21, none⟩ (.slice ko ks.length kc)) := (hE1.trans hE3).trans_mod (Mod.setCell (S := (· = w1.heap.size)) (Mod.refl _ _) (Or.inl rfl) _) (fun i hi => by rw [hi]; exact hE1.size); refine (HP _ u1 u2 u3 u4 hE5 (hp.ext ((hE3).trans_mod (Mod.setCell (S := (· = w1.heap.size)) (Mod.refl _ _) (Or.inl rfl) _) (fun i hi => by rw [hi]; exact Nat.le_refl _)))).mono ?_; rintro e w9 ⟨v', rfl, hfin⟩))
  go_end0
  exact ⟨v', rfl, hfin⟩
end
end Go.Proofs.YgvahwGreat
