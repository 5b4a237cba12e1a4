import Derived.Test.YgvahwGreatYpH
namespace Go.Proofs.YgvahwGreat
open Go.RowKit
theorem YAC.move {O : Nat → Prop} {w : World} {c c' : Nat → Value} {o : Nat} {x : YA} (hc : ∀ j, j < 24 → c' (o + j) = c (o + j)) (h : YAC O w c o x) : YAC O w c' o x :=
  ⟨h.addr.same h.parts.aLt (fun j hj => hc j (by omega)), by rw [hc 20 (by omega), hc 21 (by omega), hc 22 (by omega), hc 23 (by omega)]; exact h.parts⟩
theorem YAC.ofRow {O : Nat → Prop} {w : World} {x : YA} {u1 u2 u3 u4 : Value} (hp : AcP O w x u1 u2 u3 u4) : ∀ c o, (∀ j u, (acR x.addr u1 u2 u3 u4)[j]? = some u → c (o + j) = u) → YAC O w c o x := fun c o h => by
  have hs := av_size hp.aLt
  have hq : ∀ j u, #[u1, u2, u3, u4][j]? = some u → c (o + (20 + j)) = u := fun j u hu => h (20 + j) u (by rw [acR, Array.getElem?_append_right (by omega), hs]; simpa using hu)
  refine ⟨fun i v hv => h i v (by rw [acR, Array.getElem?_append_left (Array.getElem?_eq_some_iff.1 hv).1]; exact hv), ?_⟩
  rw [hq 0 u1 rfl, hq 1 u2 rfl, hq 2 u3 rfl, hq 3 u4 rfl]
  exact hp
theorem NL.keep {O S : Nat → Prop} {w w' : World} {v : Value} {l : List Nat} (h : NL O w v l) (m : Mod S w w') (hs : ∀ b, ¬ O b → ¬ S b) : NL O w' v l := by
  obtain ⟨o, c, h1, h2, h3, h4⟩ := h
  refine ⟨o, c, h1, h2, h3, h4.lt, fun hl => ?_⟩
  obtain ⟨b, off, q1, q2, q3, q4⟩ := h4.spot hl
  exact ⟨b, off, q1, q2, Nat.lt_of_lt_of_le q3 m.size, fun i hi => (m.cell (p := ⟨b, off + i, none⟩) q3 (hs b q2)).trans (q4 i hi)⟩
theorem NV.keep {O S : Nat → Prop} {w w' : World} {v : Value} {x : Nat} (h : NV O w v x) (m : Mod S w w') (hs : ∀ b, ¬ O b → ¬ S b) : NV O w' v x := by
  obtain ⟨l, h1, h2⟩ := h
  exact ⟨l, h1.keep m hs, h2⟩
theorem SloL.keep {O S : Nat → Prop} {w w' : World} {v : Value} {l : List (Nat × Nat)} (h : SloL O w v l) (m : Mod S w w') (hs : ∀ b, ¬ O b → ¬ S b) : SloL O w' v l :=
  GRow.mono h (fun _ _ _ k => ⟨k.key.keep m hs, k.val.keep m hs⟩) (fun _ _ k => k) (fun b _ _ _ k hb => k.mod m (hs b hb))
theorem YAC.keep {O S : Nat → Prop} {w w' : World} {c : Nat → Value} {o : Nat} {x : YA} (h : YAC O w c o x) (m : Mod S w w') (hs : ∀ b, ¬ O b → ¬ S b) : YAC O w' c o x :=
  ⟨h.addr, h.parts.aLt, h.parts.nonce.keep m hs, h.parts.bal.keep m hs, h.parts.code.keep m hs, h.parts.slots.keep m hs⟩
theorem bytes108 : Hvah.t121.bytes = 120 := by kernel_rfl
theorem sl93 : SlT 106 121 24 := ⟨⟨Hvah.t121, .agg #[.int .u8 0, .int .u8 0, .int .u8 0, .int .u8 0, .int .u8 0, .int .u8 0, .int .u8 0, .int .u8 0, .int .u8 0, .int .u8 0, .int .u8 0, .int .u8 0, .int .u8 0, .int .u8 0, .int .u8 0, .int .u8 0, .int .u8 0, .int .u8 0, .int .u8 0, .int .u8 0, .slice none 0 0, .slice none 0 0, .slice none 0 0, .slice none 0 0], by kernel_rfl, by kernel_rfl, by kernel_rfl, by kernel_rfl, rfl, by rw [bytes108]; decide⟩, by decide, by decide⟩
section
attribute [local go_sem] run_eq_av
variable {O : Nat → Prop} {w : World} {Y n : Nat} {t : TypeId} {c : Nat → Value}
set_option maxRecDepth 100000 in
set_option maxHeartbeats 6400000 in
theorem yPut (hB : Blk w Y n t c) (hn : 8 ≤ n) (hO : Small O w) (hY : O Y) (l : List YA) (h : AccL O w (c 0) l) (x : YA) (v : Value) (hx : AcV O w v x) (hlen : l.length ≤ 100000) :
    Calls Hvah.prog 136 #[.pointer (some ⟨Y, 0, none⟩), v] w fun e w' => ∃ v', e = .returned (.tuple #[]) ∧ Blk w' Y n t (updv c 0 v') ∧ AccL O w' v' (insG YA.addr x x.void l) ∧ Mod (· = Y) w w' := by
  obtain ⟨n1, n2, n3, n4, rfl, hp⟩ := hx
  obtain ⟨o, cap, hv, hmax⟩ := h.slice
  have hlt : (l.length : Int) ≤ 100000 := by omega
  have hYl := hB.lt
  have o1 := hp.nonce.one
  have o2 := hp.bal.one
  have o3 := hp.code.one
  have o4 := hp.slots.one
  obtain ⟨na, hna⟩ : ∃ na, Hid (x.addr = na) := ⟨_, rfl⟩
  have HXN : Hid (∀ c o, (∀ j u, (acR na n1 n2 n3 n4)[j]? = some u → c (o + j) = u) → YAC O w c o x) := by rw [← hna.out]; exact YAC.ofRow hp
  have hnl : na < 2 ^ 160 := by rw [← hna.out]; exact hp.aLt
  have hsn := av_size hnl
  have hsN := acR_size hnl n1 n2 n3 n4
  obtain ⟨W0, hW0⟩ : ∃ W0, Hid (W0 = w.alloc (.cells (acR na n1 n2 n3 n4) 121)) := ⟨_, rfl⟩
  have hE0 : Ext w W0 := by rw [hW0.out]; exact (Ext.refl w).alloc _ _
  have HN : ∀ W, Ext W0 W → RowIn W w.heap.size 0 (acR na n1 n2 n3 n4) := fun W hW => by
    rw [hW0.out] at hW; exact boxes1 w _ 121 W hW
  have HA : ∀ W, Ext W0 W → RowIn W w.heap.size 0 (av na) := fun W hW => (ac_parts (HN W hW)).1
  have HEm : ∀ W, Ext W0 W → Calls Hvah.prog 33 #[.pointer (some ⟨w.heap.size, 0, none⟩)] W fun e w' => e = .returned (.bool x.empty) ∧ Ext W w' := fun W hW => by
    have := HN W hW
    rw [← hna.out] at this
    exact yEmpty this (hp.ext (hE0.trans hW))
  obtain ⟨so, scap, hsl, hsm⟩ := GRow.slice hp.slots
  have HS : ∀ W, Ext W0 W → W.cell? ⟨w.heap.size, 23, none⟩ = some (.slice so x.slots.length scap) := fun W hW => by
    have := (ac_cells hnl (HN W hW)).2.2.2
    rw [hsl] at this
    simpa using this
  have HY : ∀ W, Ext w W → W.cell? ⟨Y, 0, none⟩ = some (.slice o l.length cap) := fun W hW => by
    have := (hB.ext hW).cell (i := 0) (by omega)
    rw [hv] at this; exact this
  have HRow : ∀ k (hk : k < l.length), ∃ b u1 u2 u3 u4, o = some ⟨b, 0, none⟩ ∧ AcP O w (l[k]) u1 u2 u3 u4 ∧ ∀ W, Ext w W → RowIn W b (k * 24) (acR (l[k]).addr u1 u2 u3 u4) := fun k hk => by
    obtain ⟨b, cap', cc, hv', hcap, hcm, hb, hnO, hrow⟩ := h.at_ (fun q => by rw [q] at hk; cases hk)
    rw [hv] at hv'
    injection hv' with hv1 _ hv2
    have hrk := hrow k hk
    exact ⟨b, _, _, _, _, hv1, hrk.parts, fun W hW => hrk.row (hb.ext hW) (by have := Nat.mul_le_mul_right 24 (Nat.le_trans hk hcap); omega)⟩
  have hvd : x.void = (x.empty && decide (x.slots.length = 0)) := by
    unfold YA.void
    congr 1
    cases x.slots <;> simp
  rw [hna.out]
  have hsll : (x.slots.length : Int) ≤ 9223372036854775807 := by omega
  clear hv hsl
  have HVD : Hid (_ = _) := hvd
  clear hvd
  generalize x.slots.length = sln at *
  generalize x.empty = em at *
  have hW0e : Ext W0 (w.alloc (.cells (acR na n1 n2 n3 n4) 121)) := by rw [hW0.out]; exact Ext.refl _
  go_enter Hvah.func136, Hvah.ntmps136
  cases em with
  | false =>
    go_wp2_with (first | ((with_reducible (refine Veil.out ?_; apply wl_box)); (case hx => rfl)) | (go_at_call 33; refine (HEm _ hW0e).mono ?_; rintro e w1 ⟨rfl, he⟩; have hE1 := hW0e.trans he; have hq1 := HY _ (hE0.trans hE1)))
    go_loopw [4, 5, 20] (fun ov lv ix wr => ∃ k out laid, k ≤ l.length ∧ ix = .int .i64 (k : Nat) ∧ lv = .bool laid ∧ out.length ≤ 2 * k ∧ GRow 121 24 (YAC O w) (fun b => W0.heap.size ≤ b) wr ov out ∧ Hid (out ++ insG YA.addr x laid (l.drop k) = insG YA.addr x x.void l) ∧ Ext W0 wr) (fun _ _ ix _ => l.length - (intOf ix).toNat)
    case atStart => exact ⟨0, [], false, by omega, rfl, rfl, by simp, Or.inl ⟨rfl, rfl⟩, by rw [List.drop_zero, List.nil_append]; unfold Hid; rw [HVD.out]; simp, hE1⟩
    case round =>
      clear hW0 hW0e HEm HS hq1
      obtain ⟨k, out, laid, hk, rfl, rfl, hol, hG, hinv, hE⟩ := hrel
      by_cases hlt2 : k < l.length
      · have hki : (k : Int) < l.length := by omega
        obtain ⟨b, u1, u2, u3, u4, rfl, hpy, HR0⟩ := HRow k hlt2
        have HR1 := HR0 wr (hE0.trans hE)
        have hinv2 := hinv.out
        rw [List.drop_eq_getElem_cons hlt2, insG] at hinv2
        clear HR0 HRow hinv
        obtain ⟨y, hye⟩ : ∃ y, l[k] = y := ⟨_, rfl⟩
        rw [hye] at hpy HR1 hinv2
        clear hye
        have p1 := hpy.nonce.one
        have p2 := hpy.bal.one
        have p3 := hpy.code.one
        have p4 := hpy.slots.one
        obtain ⟨ya, hya⟩ : ∃ ya, Hid (y.addr = ya) := ⟨_, rfl⟩
        have HXY : Hid (∀ c o, (∀ j u, (acR ya u1 u2 u3 u4)[j]? = some u → c (o + j) = u) → YAC O w c o y) := by rw [← hya.out]; exact YAC.ofRow hpy
        have hyl : ya < 2 ^ 160 := by rw [← hya.out]; exact hpy.aLt
        rw [hya.out] at HR1
        rw [hya.out, hna.out] at hinv2
        have HI : Hid (_ = _) := hinv2
        have HR := HR1
        clear hinv2 HR1 hpy
        have hsy := av_size hyl
        have hsY := acR_size hyl u1 u2 u3 u4
        have HBf := fun W => yBefore ya na W hyl hnl
        obtain ⟨ZA, hZe⟩ : ∃ ZA : Array Value, Hid (ZA = #[.int .u8 0, .int .u8 0, .int .u8 0, .int .u8 0, .int .u8 0, .int .u8 0, .int .u8 0, .int .u8 0, .int .u8 0, .int .u8 0, .int .u8 0, .int .u8 0, .int .u8 0, .int .u8 0, .int .u8 0, .int .u8 0, .int .u8 0, .int .u8 0, .int .u8 0, .int .u8 0, .slice none 0 0, .slice none 0 0, .slice none 0 0, .slice none 0 0]) := ⟨_, rfl⟩
        have hE2 : Ext wr (wr.alloc (.cells ZA 121)) := (Ext.refl wr).alloc _ _
        have hZ := Ext.refl (wr.alloc (.cells ZA 121))
        rw [hZe.out] at hE2 hZ
        cases laid with
        | true =>
          by_cases hq : ya = na
          · have HQ : Hid (ya = na) := hq
            have hdec : decide (ya = na) = true := by simp [hq]
            clear hq
            go_wp2_with (first | ((with_reducible (refine Veil.out ?_; apply wl_loadR rt25)); (case hx => rfl); (case hr => first | (with_reducible exact HA _ hE03) | (with_reducible exact hR3)); (case hn => first | exact hsy | exact hsn)) | ((with_reducible (refine Veil.out ?_; apply wl_loadR rt108)); (case hx => rfl); (case hr => first | (with_reducible exact HR) | (with_reducible exact HN _ hE03) | (with_reducible exact hF3)); (case hn => first | exact hsY | exact hsN)) | ((with_reducible (refine Veil.out ?_; apply wl_storeR rt108)); (case hx => rfl); (case hy => rfl); (case hn => exact hsY); (case hth => exact boxes_there _ #[.int .u8 0, .int .u8 0, .int .u8 0, .int .u8 0, .int .u8 0, .int .u8 0, .int .u8 0, .int .u8 0, .int .u8 0, .int .u8 0, .int .u8 0, .int .u8 0, .int .u8 0, .int .u8 0, .int .u8 0, .int .u8 0, .int .u8 0, .int .u8 0, .int .u8 0, .int .u8 0, .slice none 0 0, .slice none 0 0, .slice none 0 0, .slice none 0 0] 121 _ _ rfl hZ); (case h1 => exact acR_one p1 p2 p3 p4); refine w_gen (fun W => Ext wr W ∧ RowIn W wr.heap.size 0 (av ya) ∧ RowIn W wr.heap.size 0 (acR ya u1 u2 u3 u4)) ⟨ext_setRow hE2 (Nat.le_refl _), ac_parts (row_set (by rw [hsY]; exact boxes_there _ #[.int .u8 0, .int .u8 0, .int .u8 0, .int .u8 0, .int .u8 0, .int .u8 0, .int .u8 0, .int .u8 0, .int .u8 0, .int .u8 0, .int .u8 0, .int .u8 0, .int .u8 0, .int .u8 0, .int .u8 0, .int .u8 0, .int .u8 0, .int .u8 0, .int .u8 0, .int .u8 0, .slice none 0 0, .slice none 0 0, .slice none 0 0, .slice none 0 0] 121 _ _ rfl hZ))⟩ ?_; rintro W3 ⟨hE3, hR3, hF3⟩; have hB3 : wr.heap.size < W3.heap.size := cell_lt (ac_cells hyl hF3).1; have hG3 := hG.ext hE3 (fun _ _ _ k => k); have hE03 := hE.trans hE3))
            refine ⟨⟨k + 1, out, true, by omega, int_eq (by omega), rfl, by omega, hG3, ?_, hE03⟩, by simp [intOf]; omega⟩
            have := HI.out
            simpa [Hid, HQ.out] using this
          · go_wp2_with (first | ((with_reducible (refine Veil.out ?_; apply wl_loadR rt25)); (case hx => rfl); (case hr => first | (with_reducible exact HA _ hE03) | (with_reducible exact hR3)); (case hn => first | exact hsy | exact hsn)) | ((with_reducible (refine Veil.out ?_; apply wl_loadR rt108)); (case hx => rfl); (case hr => first | (with_reducible exact HR) | (with_reducible exact HN _ hE03) | (with_reducible exact hF3)); (case hn => first | exact hsY | exact hsN)) | ((with_reducible (refine Veil.out ?_; apply wl_storeR rt108)); (case hx => rfl); (case hy => rfl); (case hn => exact hsY); (case hth => exact boxes_there _ #[.int .u8 0, .int .u8 0, .int .u8 0, .int .u8 0, .int .u8 0, .int .u8 0, .int .u8 0, .int .u8 0, .int .u8 0, .int .u8 0, .int .u8 0, .int .u8 0, .int .u8 0, .int .u8 0, .int .u8 0, .int .u8 0, .int .u8 0, .int .u8 0, .int .u8 0, .int .u8 0, .slice none 0 0, .slice none 0 0, .slice none 0 0, .slice none 0 0] 121 _ _ rfl hZ); (case h1 => exact acR_one p1 p2 p3 p4); refine w_gen (fun W => Ext wr W ∧ RowIn W wr.heap.size 0 (av ya) ∧ RowIn W wr.heap.size 0 (acR ya u1 u2 u3 u4)) ⟨ext_setRow hE2 (Nat.le_refl _), ac_parts (row_set (by rw [hsY]; exact boxes_there _ #[.int .u8 0, .int .u8 0, .int .u8 0, .int .u8 0, .int .u8 0, .int .u8 0, .int .u8 0, .int .u8 0, .int .u8 0, .int .u8 0, .int .u8 0, .int .u8 0, .int .u8 0, .int .u8 0, .int .u8 0, .int .u8 0, .int .u8 0, .int .u8 0, .int .u8 0, .int .u8 0, .slice none 0 0, .slice none 0 0, .slice none 0 0, .slice none 0 0] 121 _ _ rfl hZ))⟩ ?_; rintro W3 ⟨hE3, hR3, hF3⟩; have hB3 : wr.heap.size < W3.heap.size := cell_lt (ac_cells hyl hF3).1; have hG3 := hG.ext hE3 (fun _ _ _ k => k); have hE03 := hE.trans hE3) | ((with_reducible (refine Veil.out ?_; apply wl_push sl93 W0 y (acR ya u1 u2 u3 u4))); (case hr => exact hsY); (case hone => exact acR_one p1 p2 p3 p4); (case hG => exact hG3); (case hE => exact hE03); (case hn => first | omega | (simp; omega)); (case hy => rfl); (case hs => rfl); (case hb => rfl); (case hx => exact HXY.out); (case hRm => exact fun c c' o y q k => YAC.move q k); intro v5 W5 hG5 hE5 hk5))
            refine ⟨⟨k + 1, out ++ [y], true, by omega, int_eq (by omega), rfl, by simp; omega, hG5, ?_, hE5⟩, by simp [intOf]; omega⟩
            have := HI.out
            simpa [Hid, hq] using this
        | false =>
          by_cases hq : ya < na
          · have hq2 : ¬ ya = na := by omega
            have hq3 : ¬ na ≤ ya := by omega
            rw [decide_eq_true hq] at HBf
            clear hq
            go_wp2_with (first | ((with_reducible (refine Veil.out ?_; apply wl_loadG rt25)); (case hw => first | rfl | simp [Region.wanted, yielded]); (case hx => rfl); (case hr => first | (with_reducible exact hR3) | (with_reducible exact HA _ hE03)); (case hn => first | exact hsy | exact hsn)) | ((with_reducible (refine Veil.out ?_; apply wl_loadR rt25)); (case hx => rfl); (case hr => first | (with_reducible exact HA _ hE03) | (with_reducible exact hR3)); (case hn => first | exact hsy | exact hsn)) | ((with_reducible (refine Veil.out ?_; apply wl_loadR rt108)); (case hx => rfl); (case hr => first | (with_reducible exact HR) | (with_reducible exact HN _ hE03) | (with_reducible exact hF3)); (case hn => first | exact hsY | exact hsN)) | ((with_reducible (refine Veil.out ?_; apply wl_storeR rt108)); (case hx => rfl); (case hy => rfl); (case hn => exact hsY); (case hth => exact boxes_there _ #[.int .u8 0, .int .u8 0, .int .u8 0, .int .u8 0, .int .u8 0, .int .u8 0, .int .u8 0, .int .u8 0, .int .u8 0, .int .u8 0, .int .u8 0, .int .u8 0, .int .u8 0, .int .u8 0, .int .u8 0, .int .u8 0, .int .u8 0, .int .u8 0, .int .u8 0, .int .u8 0, .slice none 0 0, .slice none 0 0, .slice none 0 0, .slice none 0 0] 121 _ _ rfl hZ); (case h1 => exact acR_one p1 p2 p3 p4); refine w_gen (fun W => Ext wr W ∧ RowIn W wr.heap.size 0 (av ya) ∧ RowIn W wr.heap.size 0 (acR ya u1 u2 u3 u4)) ⟨ext_setRow hE2 (Nat.le_refl _), ac_parts (row_set (by rw [hsY]; exact boxes_there _ #[.int .u8 0, .int .u8 0, .int .u8 0, .int .u8 0, .int .u8 0, .int .u8 0, .int .u8 0, .int .u8 0, .int .u8 0, .int .u8 0, .int .u8 0, .int .u8 0, .int .u8 0, .int .u8 0, .int .u8 0, .int .u8 0, .int .u8 0, .int .u8 0, .int .u8 0, .int .u8 0, .slice none 0 0, .slice none 0 0, .slice none 0 0, .slice none 0 0] 121 _ _ rfl hZ))⟩ ?_; rintro W3 ⟨hE3, hR3, hF3⟩; have hB3 : wr.heap.size < W3.heap.size := cell_lt (ac_cells hyl hF3).1; have hG3 := hG.ext hE3 (fun _ _ _ k => k); have hE03 := hE.trans hE3) | (go_at_call 139; refine (HBf _).mono ?_; rintro e w4 ⟨rfl, he4⟩; replace hE03 := hE03.trans he4; replace hG3 := hG3.ext he4 (fun _ _ _ k => k); replace hR3 := hR3.ext hB3 he4; replace hF3 := hF3.ext hB3 he4; replace hB3 := Nat.lt_of_lt_of_le hB3 he4.size) | ((with_reducible (refine Veil.out ?_; apply wl_push sl93 W0 y (acR ya u1 u2 u3 u4))); (case hr => exact hsY); (case hone => exact acR_one p1 p2 p3 p4); (case hG => exact hG3); (case hE => exact hE03); (case hn => first | omega | (simp; omega)); (case hy => rfl); (case hs => rfl); (case hb => rfl); (case hx => exact HXY.out); (case hRm => exact fun c c' o y q k => YAC.move q k); intro v5 W5 hG5 hE5 hk5))
            refine ⟨⟨k + 1, out ++ [y], false, by omega, int_eq (by omega), rfl, by simp; omega, hG5, ?_, hE5⟩, by simp [intOf]; omega⟩
            have := HI.out
            simpa [Hid, hq2, hq3] using this
          · have hq3 : na ≤ ya := by omega
            rw [decide_eq_false hq] at HBf
            clear hq
            by_cases hq2 : ya = na
            · have HQ : Hid (ya = na) := hq2
              have hdec : decide (ya = na) = true := by simp [hq2]
              clear hq2
              go_wp2_with (first | ((with_reducible (refine Veil.out ?_; apply wl_loadG rt25)); (case hw => first | rfl | simp [Region.wanted, yielded]); (case hx => rfl); (case hr => first | (with_reducible exact hR3) | (with_reducible exact HA _ hE03)); (case hn => first | exact hsy | exact hsn)) | ((with_reducible (refine Veil.out ?_; apply wl_loadR rt25)); (case hx => rfl); (case hr => first | (with_reducible exact HA _ hE5) | (with_reducible exact hR5)); (case hn => first | exact hsy | exact hsn)) | ((with_reducible (refine Veil.out ?_; apply wl_loadR rt108)); (case hx => rfl); (case hr => first | (with_reducible exact HR) | (with_reducible exact HN _ hE03)); (case hn => first | exact hsY | exact hsN)) | ((with_reducible (refine Veil.out ?_; apply wl_storeR rt108)); (case hx => rfl); (case hy => rfl); (case hn => exact hsY); (case hth => exact boxes_there _ #[.int .u8 0, .int .u8 0, .int .u8 0, .int .u8 0, .int .u8 0, .int .u8 0, .int .u8 0, .int .u8 0, .int .u8 0, .int .u8 0, .int .u8 0, .int .u8 0, .int .u8 0, .int .u8 0, .int .u8 0, .int .u8 0, .int .u8 0, .int .u8 0, .int .u8 0, .int .u8 0, .slice none 0 0, .slice none 0 0, .slice none 0 0, .slice none 0 0] 121 _ _ rfl hZ); (case h1 => exact acR_one p1 p2 p3 p4); refine w_gen (fun W => Ext wr W ∧ RowIn W wr.heap.size 0 (av ya) ∧ RowIn W wr.heap.size 0 (acR ya u1 u2 u3 u4)) ⟨ext_setRow hE2 (Nat.le_refl _), ac_parts (row_set (by rw [hsY]; exact boxes_there _ #[.int .u8 0, .int .u8 0, .int .u8 0, .int .u8 0, .int .u8 0, .int .u8 0, .int .u8 0, .int .u8 0, .int .u8 0, .int .u8 0, .int .u8 0, .int .u8 0, .int .u8 0, .int .u8 0, .int .u8 0, .int .u8 0, .int .u8 0, .int .u8 0, .int .u8 0, .int .u8 0, .slice none 0 0, .slice none 0 0, .slice none 0 0, .slice none 0 0] 121 _ _ rfl hZ))⟩ ?_; rintro W3 ⟨hE3, hR3, hF3⟩; have hB3 : wr.heap.size < W3.heap.size := cell_lt (ac_cells hyl hF3).1; have hG3 := hG.ext hE3 (fun _ _ _ k => k); have hE03 := hE.trans hE3) | (go_at_call 139; refine (HBf _).mono ?_; rintro e w4 ⟨rfl, he4⟩; replace hE03 := hE03.trans he4; replace hG3 := hG3.ext he4 (fun _ _ _ k => k); replace hR3 := hR3.ext hB3 he4; replace hF3 := hF3.ext hB3 he4; replace hB3 := Nat.lt_of_lt_of_le hB3 he4.size) | ((with_reducible (refine Veil.out ?_; apply wl_push sl93 W0 x (acR na n1 n2 n3 n4))); (case hr => exact hsN); (case hone => exact acR_one o1 o2 o3 o4); (case hG => exact hG3); (case hE => exact hE03); (case hn => first | omega | (simp; omega)); (case hy => rfl); (case hs => rfl); (case hb => rfl); (case hx => exact HXN.out); (case hRm => exact fun c c' o y q k => YAC.move q k); intro v5 W5 hG5 hE5 hk5; have hR5 := hk5 _ _ _ (hG.ne (Nat.le_refl _) _) hB3 hR3; have hF5 := hk5 _ _ _ (hG.ne (Nat.le_refl _) _) hB3 hF3))
              refine ⟨⟨k + 1, out ++ [x], true, by omega, int_eq (by omega), rfl, by simp; omega, hG5, ?_, hE5⟩, by simp [intOf]; omega⟩
              have := HI.out
              simpa [Hid, HQ.out] using this
            · go_wp2_with (first | ((with_reducible (refine Veil.out ?_; apply wl_loadG rt25)); (case hw => first | rfl | simp [Region.wanted, yielded]); (case hx => rfl); (case hr => first | (with_reducible exact hR3) | (with_reducible exact HA _ hE03)); (case hn => first | exact hsy | exact hsn)) | ((with_reducible (refine Veil.out ?_; apply wl_loadR rt25)); (case hx => rfl); (case hr => first | (with_reducible exact HA _ hE5) | (with_reducible exact hR5)); (case hn => first | exact hsy | exact hsn)) | ((with_reducible (refine Veil.out ?_; apply wl_loadR rt108)); (case hx => rfl); (case hr => first | (with_reducible exact HR) | (with_reducible exact hF5) | (with_reducible exact HN _ hE03)); (case hn => first | exact hsY | exact hsN)) | ((with_reducible (refine Veil.out ?_; apply wl_storeR rt108)); (case hx => rfl); (case hy => rfl); (case hn => exact hsY); (case hth => exact boxes_there _ #[.int .u8 0, .int .u8 0, .int .u8 0, .int .u8 0, .int .u8 0, .int .u8 0, .int .u8 0, .int .u8 0, .int .u8 0, .int .u8 0, .int .u8 0, .int .u8 0, .int .u8 0, .int .u8 0, .int .u8 0, .int .u8 0, .int .u8 0, .int .u8 0, .int .u8 0, .int .u8 0, .slice none 0 0, .slice none 0 0, .slice none 0 0, .slice none 0 0] 121 _ _ rfl hZ); (case h1 => exact acR_one p1 p2 p3 p4); refine w_gen (fun W => Ext wr W ∧ RowIn W wr.heap.size 0 (av ya) ∧ RowIn W wr.heap.size 0 (acR ya u1 u2 u3 u4)) ⟨ext_setRow hE2 (Nat.le_refl _), ac_parts (row_set (by rw [hsY]; exact boxes_there _ #[.int .u8 0, .int .u8 0, .int .u8 0, .int .u8 0, .int .u8 0, .int .u8 0, .int .u8 0, .int .u8 0, .int .u8 0, .int .u8 0, .int .u8 0, .int .u8 0, .int .u8 0, .int .u8 0, .int .u8 0, .int .u8 0, .int .u8 0, .int .u8 0, .int .u8 0, .int .u8 0, .slice none 0 0, .slice none 0 0, .slice none 0 0, .slice none 0 0] 121 _ _ rfl hZ))⟩ ?_; rintro W3 ⟨hE3, hR3, hF3⟩; have hB3 : wr.heap.size < W3.heap.size := cell_lt (ac_cells hyl hF3).1; have hG3 := hG.ext hE3 (fun _ _ _ k => k); have hE03 := hE.trans hE3) | (go_at_call 139; refine (HBf _).mono ?_; rintro e w4 ⟨rfl, he4⟩; replace hE03 := hE03.trans he4; replace hG3 := hG3.ext he4 (fun _ _ _ k => k); replace hR3 := hR3.ext hB3 he4; replace hF3 := hF3.ext hB3 he4; replace hB3 := Nat.lt_of_lt_of_le hB3 he4.size) | ((with_reducible (refine Veil.out ?_; apply wl_push sl93 W0 x (acR na n1 n2 n3 n4))); (case hr => exact hsN); (case hone => exact acR_one o1 o2 o3 o4); (case hG => exact hG3); (case hE => exact hE03); (case hn => first | omega | (simp; omega)); (case hy => rfl); (case hs => rfl); (case hb => rfl); (case hx => exact HXN.out); (case hRm => exact fun c c' o y q k => YAC.move q k); intro v5 W5 hG5 hE5 hk5; have hR5 := hk5 _ _ _ (hG.ne (Nat.le_refl _) _) hB3 hR3; have hF5 := hk5 _ _ _ (hG.ne (Nat.le_refl _) _) hB3 hF3) | ((with_reducible (refine Veil.out ?_; apply wl_push sl93 W0 y (acR ya u1 u2 u3 u4))); (case hr => exact hsY); (case hone => exact acR_one p1 p2 p3 p4); (case hG => exact hG5); (case hE => exact hE5); (case hn => first | omega | (simp; omega)); (case hy => rfl); (case hs => rfl); (case hb => rfl); (case hx => exact HXY.out); (case hRm => exact fun c c' o y q k => YAC.move q k); intro v7 W7 hG7 hE7 hk7))
              refine ⟨⟨k + 1, out ++ [x] ++ [y], true, by omega, int_eq (by omega), rfl, by simp; omega, hG7, ?_, hE7⟩, by simp [intOf]; omega⟩
              have := HI.out
              simpa [Hid, hq2, hq3] using this
      · have hkn : k = l.length := by omega
        have hki : ¬ (k : Int) < l.length := by omega
        have hinv2 := hinv.out
        rw [List.drop_of_length_le (by omega)] at hinv2
        clear HRow hinv HY
        have hfin : ∀ (r : Value) (L : List YA) (W : World), Ext w W → GRow 121 24 (YAC O w) (fun b => W0.heap.size ≤ b) W r L → Blk (W.setCell ⟨Y, 0, none⟩ r) Y n t (updv c 0 r) ∧ AccL O (W.setCell ⟨Y, 0, none⟩ r) r L ∧ Mod (· = Y) w (W.setCell ⟨Y, 0, none⟩ r) := fun r L W hW hr => by
          have hm : Mod (· = Y) w (W.setCell ⟨Y, 0, none⟩ r) := Mod.setCell (S := (· = Y)) (hW.mod _) (Or.inl rfl) _
          refine ⟨(hB.ext hW).set 0 r, hr.mono (fun cc oo z k => ?_) (fun q _ hq => fun hOq => by have := hO q hOq; have := hE0.size; omega) (fun q _ _ _ k hq => k.off (fun e => by have := hE0.size; omega)), hm⟩
          exact k.keep hm (fun b hb => fun e => hb (e ▸ hY))
        have HYc : ∀ W, Ext w W → W.cell? ⟨Y, 0, none⟩ = some (c 0) ∧ W.frozen? ⟨Y, 0, none⟩ = false := fun W hW => ⟨(hB.ext hW).cell (by omega), (hB.ext hW).fz _⟩
        generalize c 0 = c0 at HYc
        cases laid with
        | true =>
          have e3 : Hid (out = insG YA.addr x x.void l) := by simpa [insG, Hid] using hinv2
          have hc := HYc _ (hE0.trans hE)
          have hc1 := hc.1
          have hc2 := hc.2
          obtain ⟨ro, rc, hre, _⟩ := GRow.slice hG
          subst hre
          have hff := hfin _ _ _ (hE0.trans hE) hG
          clear hfin hinv2
          go_wp2
          go_end0
          rw [← e3.out]
          exact ⟨rfl, _, hff.1, hff.2.1, hff.2.2⟩
        | false =>
          have e3 : Hid (out ++ [x] = insG YA.addr x x.void l) := by simpa [insG, Hid] using hinv2
          clear hinv2
          go_wp2_with (first | ((with_reducible (refine Veil.out ?_; apply wl_loadR rt108)); (case hx => rfl); (case hr => first | (with_reducible exact HN _ hE)); (case hn => first | exact hsY | exact hsN)) | ((with_reducible (refine Veil.out ?_; apply wl_push sl93 W0 x (acR na n1 n2 n3 n4))); (case hr => exact hsN); (case hone => exact acR_one o1 o2 o3 o4); (case hG => exact hG); (case hE => exact hE); (case hn => first | omega | (simp; omega)); (case hy => rfl); (case hs => rfl); (case hb => rfl); (case hx => exact HXN.out); (case hRm => exact fun c c' o y q k => YAC.move q k); intro v5 W5 hG5 hE5 hk5; have hc := HYc _ (hE0.trans hE5); have hc1 := hc.1; have hc2 := hc.2; obtain ⟨ro, rc, hre, _⟩ := GRow.slice hG5; subst hre; have hff := hfin _ _ _ (hE0.trans hE5) hG5; simp only [List.length_append, List.length_cons, List.length_nil, Nat.zero_add] at hff))
          go_end0
          rw [← e3.out]
          exact ⟨rfl, _, hff.1, hff.2.1, hff.2.2⟩
  | true =>
    go_wp2_with (first | ((with_reducible (refine Veil.out ?_; apply wl_box)); (case hx => rfl)) | (go_at_call 33; refine (HEm _ hW0e).mono ?_; rintro e w1 ⟨rfl, he⟩; have hE1 := hW0e.trans he; have hq1 := HY _ (hE0.trans hE1); have hq2 := HS _ hE1))
    go_loopw [4, 5, 20] (fun ov lv ix wr => ∃ k out laid, k ≤ l.length ∧ ix = .int .i64 (k : Nat) ∧ lv = .bool laid ∧ out.length ≤ 2 * k ∧ GRow 121 24 (YAC O w) (fun b => W0.heap.size ≤ b) wr ov out ∧ Hid (out ++ insG YA.addr x laid (l.drop k) = insG YA.addr x x.void l) ∧ Ext W0 wr) (fun _ _ ix _ => l.length - (intOf ix).toNat)
    case atStart => exact ⟨0, [], ((sln : Int) == 0), by omega, rfl, rfl, by simp, Or.inl ⟨rfl, rfl⟩, by rw [List.drop_zero, List.nil_append]; unfold Hid; rw [HVD.out]; rw [show ((sln : Int) == 0) = decide (sln = 0) from by rw [Bool.eq_iff_iff, beq_iff_eq, decide_eq_true_iff]; omega]; simp, hE1⟩
    case round =>
      clear hW0 hW0e HEm HS hq1 hq2
      obtain ⟨k, out, laid, hk, rfl, rfl, hol, hG, hinv, hE⟩ := hrel
      by_cases hlt2 : k < l.length
      · have hki : (k : Int) < l.length := by omega
        obtain ⟨b, u1, u2, u3, u4, rfl, hpy, HR0⟩ := HRow k hlt2
        have HR1 := HR0 wr (hE0.trans hE)
        have hinv2 := hinv.out
        rw [List.drop_eq_getElem_cons hlt2, insG] at hinv2
        clear HR0 HRow hinv
        obtain ⟨y, hye⟩ : ∃ y, l[k] = y := ⟨_, rfl⟩
        rw [hye] at hpy HR1 hinv2
        clear hye
        have p1 := hpy.nonce.one
        have p2 := hpy.bal.one
        have p3 := hpy.code.one
        have p4 := hpy.slots.one
        obtain ⟨ya, hya⟩ : ∃ ya, Hid (y.addr = ya) := ⟨_, rfl⟩
        have HXY : Hid (∀ c o, (∀ j u, (acR ya u1 u2 u3 u4)[j]? = some u → c (o + j) = u) → YAC O w c o y) := by rw [← hya.out]; exact YAC.ofRow hpy
        have hyl : ya < 2 ^ 160 := by rw [← hya.out]; exact hpy.aLt
        rw [hya.out] at HR1
        rw [hya.out, hna.out] at hinv2
        have HI : Hid (_ = _) := hinv2
        have HR := HR1
        clear hinv2 HR1 hpy
        have hsy := av_size hyl
        have hsY := acR_size hyl u1 u2 u3 u4
        have HBf := fun W => yBefore ya na W hyl hnl
        obtain ⟨ZA, hZe⟩ : ∃ ZA : Array Value, Hid (ZA = #[.int .u8 0, .int .u8 0, .int .u8 0, .int .u8 0, .int .u8 0, .int .u8 0, .int .u8 0, .int .u8 0, .int .u8 0, .int .u8 0, .int .u8 0, .int .u8 0, .int .u8 0, .int .u8 0, .int .u8 0, .int .u8 0, .int .u8 0, .int .u8 0, .int .u8 0, .int .u8 0, .slice none 0 0, .slice none 0 0, .slice none 0 0, .slice none 0 0]) := ⟨_, rfl⟩
        have hE2 : Ext wr (wr.alloc (.cells ZA 121)) := (Ext.refl wr).alloc _ _
        have hZ := Ext.refl (wr.alloc (.cells ZA 121))
        rw [hZe.out] at hE2 hZ
        cases laid with
        | true =>
          by_cases hq : ya = na
          · have HQ : Hid (ya = na) := hq
            have hdec : decide (ya = na) = true := by simp [hq]
            clear hq
            go_wp2_with (first | ((with_reducible (refine Veil.out ?_; apply wl_loadR rt25)); (case hx => rfl); (case hr => first | (with_reducible exact HA _ hE03) | (with_reducible exact hR3)); (case hn => first | exact hsy | exact hsn)) | ((with_reducible (refine Veil.out ?_; apply wl_loadR rt108)); (case hx => rfl); (case hr => first | (with_reducible exact HR) | (with_reducible exact HN _ hE03) | (with_reducible exact hF3)); (case hn => first | exact hsY | exact hsN)) | ((with_reducible (refine Veil.out ?_; apply wl_storeR rt108)); (case hx => rfl); (case hy => rfl); (case hn => exact hsY); (case hth => exact boxes_there _ #[.int .u8 0, .int .u8 0, .int .u8 0, .int .u8 0, .int .u8 0, .int .u8 0, .int .u8 0, .int .u8 0, .int .u8 0, .int .u8 0, .int .u8 0, .int .u8 0, .int .u8 0, .int .u8 0, .int .u8 0, .int .u8 0, .int .u8 0, .int .u8 0, .int .u8 0, .int .u8 0, .slice none 0 0, .slice none 0 0, .slice none 0 0, .slice none 0 0] 121 _ _ rfl hZ); (case h1 => exact acR_one p1 p2 p3 p4); refine w_gen (fun W => Ext wr W ∧ RowIn W wr.heap.size 0 (av ya) ∧ RowIn W wr.heap.size 0 (acR ya u1 u2 u3 u4)) ⟨ext_setRow hE2 (Nat.le_refl _), ac_parts (row_set (by rw [hsY]; exact boxes_there _ #[.int .u8 0, .int .u8 0, .int .u8 0, .int .u8 0, .int .u8 0, .int .u8 0, .int .u8 0, .int .u8 0, .int .u8 0, .int .u8 0, .int .u8 0, .int .u8 0, .int .u8 0, .int .u8 0, .int .u8 0, .int .u8 0, .int .u8 0, .int .u8 0, .int .u8 0, .int .u8 0, .slice none 0 0, .slice none 0 0, .slice none 0 0, .slice none 0 0] 121 _ _ rfl hZ))⟩ ?_; rintro W3 ⟨hE3, hR3, hF3⟩; have hB3 : wr.heap.size < W3.heap.size := cell_lt (ac_cells hyl hF3).1; have hG3 := hG.ext hE3 (fun _ _ _ k => k); have hE03 := hE.trans hE3))
            refine ⟨⟨k + 1, out, true, by omega, int_eq (by omega), rfl, by omega, hG3, ?_, hE03⟩, by simp [intOf]; omega⟩
            have := HI.out
            simpa [Hid, HQ.out] using this
          · go_wp2_with (first | ((with_reducible (refine Veil.out ?_; apply wl_loadR rt25)); (case hx => rfl); (case hr => first | (with_reducible exact HA _ hE03) | (with_reducible exact hR3)); (case hn => first | exact hsy | exact hsn)) | ((with_reducible (refine Veil.out ?_; apply wl_loadR rt108)); (case hx => rfl); (case hr => first | (with_reducible exact HR) | (with_reducible exact HN _ hE03) | (with_reducible exact hF3)); (case hn => first | exact hsY | exact hsN)) | ((with_reducible (refine Veil.out ?_; apply wl_storeR rt108)); (case hx => rfl); (case hy => rfl); (case hn => exact hsY); (case hth => exact boxes_there _ #[.int .u8 0, .int .u8 0, .int .u8 0, .int .u8 0, .int .u8 0, .int .u8 0, .int .u8 0, .int .u8 0, .int .u8 0, .int .u8 0, .int .u8 0, .int .u8 0, .int .u8 0, .int .u8 0, .int .u8 0, .int .u8 0, .int .u8 0, .int .u8 0, .int .u8 0, .int .u8 0, .slice none 0 0, .slice none 0 0, .slice none 0 0, .slice none 0 0] 121 _ _ rfl hZ); (case h1 => exact acR_one p1 p2 p3 p4); refine w_gen (fun W => Ext wr W ∧ RowIn W wr.heap.size 0 (av ya) ∧ RowIn W wr.heap.size 0 (acR ya u1 u2 u3 u4)) ⟨ext_setRow hE2 (Nat.le_refl _), ac_parts (row_set (by rw [hsY]; exact boxes_there _ #[.int .u8 0, .int .u8 0, .int .u8 0, .int .u8 0, .int .u8 0, .int .u8 0, .int .u8 0, .int .u8 0, .int .u8 0, .int .u8 0, .int .u8 0, .int .u8 0, .int .u8 0, .int .u8 0, .int .u8 0, .int .u8 0, .int .u8 0, .int .u8 0, .int .u8 0, .int .u8 0, .slice none 0 0, .slice none 0 0, .slice none 0 0, .slice none 0 0] 121 _ _ rfl hZ))⟩ ?_; rintro W3 ⟨hE3, hR3, hF3⟩; have hB3 : wr.heap.size < W3.heap.size := cell_lt (ac_cells hyl hF3).1; have hG3 := hG.ext hE3 (fun _ _ _ k => k); have hE03 := hE.trans hE3) | ((with_reducible (refine Veil.out ?_; apply wl_push sl93 W0 y (acR ya u1 u2 u3 u4))); (case hr => exact hsY); (case hone => exact acR_one p1 p2 p3 p4); (case hG => exact hG3); (case hE => exact hE03); (case hn => first | omega | (simp; omega)); (case hy => rfl); (case hs => rfl); (case hb => rfl); (case hx => exact HXY.out); (case hRm => exact fun c c' o y q k => YAC.move q k); intro v5 W5 hG5 hE5 hk5))
            refine ⟨⟨k + 1, out ++ [y], true, by omega, int_eq (by omega), rfl, by simp; omega, hG5, ?_, hE5⟩, by simp [intOf]; omega⟩
            have := HI.out
            simpa [Hid, hq] using this
        | false =>
          by_cases hq : ya < na
          · have hq2 : ¬ ya = na := by omega
            have hq3 : ¬ na ≤ ya := by omega
            rw [decide_eq_true hq] at HBf
            clear hq
            go_wp2_with (first | ((with_reducible (refine Veil.out ?_; apply wl_loadG rt25)); (case hw => first | rfl | simp [Region.wanted, yielded]); (case hx => rfl); (case hr => first | (with_reducible exact hR3) | (with_reducible exact HA _ hE03)); (case hn => first | exact hsy | exact hsn)) | ((with_reducible (refine Veil.out ?_; apply wl_loadR rt25)); (case hx => rfl); (case hr => first | (with_reducible exact HA _ hE03) | (with_reducible exact hR3)); (case hn => first | exact hsy | exact hsn)) | ((with_reducible (refine Veil.out ?_; apply wl_loadR rt108)); (case hx => rfl); (case hr => first | (with_reducible exact HR) | (with_reducible exact HN _ hE03) | (with_reducible exact hF3)); (case hn => first | exact hsY | exact hsN)) | ((with_reducible (refine Veil.out ?_; apply wl_storeR rt108)); (case hx => rfl); (case hy => rfl); (case hn => exact hsY); (case hth => exact boxes_there _ #[.int .u8 0, .int .u8 0, .int .u8 0, .int .u8 0, .int .u8 0, .int .u8 0, .int .u8 0, .int .u8 0, .int .u8 0, .int .u8 0, .int .u8 0, .int .u8 0, .int .u8 0, .int .u8 0, .int .u8 0, .int .u8 0, .int .u8 0, .int .u8 0, .int .u8 0, .int .u8 0, .slice none 0 0, .slice none 0 0, .slice none 0 0, .slice none 0 0] 121 _ _ rfl hZ); (case h1 => exact acR_one p1 p2 p3 p4); refine w_gen (fun W => Ext wr W ∧ RowIn W wr.heap.size 0 (av ya) ∧ RowIn W wr.heap.size 0 (acR ya u1 u2 u3 u4)) ⟨ext_setRow hE2 (Nat.le_refl _), ac_parts (row_set (by rw [hsY]; exact boxes_there _ #[.int .u8 0, .int .u8 0, .int .u8 0, .int .u8 0, .int .u8 0, .int .u8 0, .int .u8 0, .int .u8 0, .int .u8 0, .int .u8 0, .int .u8 0, .int .u8 0, .int .u8 0, .int .u8 0, .int .u8 0, .int .u8 0, .int .u8 0, .int .u8 0, .int .u8 0, .int .u8 0, .slice none 0 0, .slice none 0 0, .slice none 0 0, .slice none 0 0] 121 _ _ rfl hZ))⟩ ?_; rintro W3 ⟨hE3, hR3, hF3⟩; have hB3 : wr.heap.size < W3.heap.size := cell_lt (ac_cells hyl hF3).1; have hG3 := hG.ext hE3 (fun _ _ _ k => k); have hE03 := hE.trans hE3) | (go_at_call 139; refine (HBf _).mono ?_; rintro e w4 ⟨rfl, he4⟩; replace hE03 := hE03.trans he4; replace hG3 := hG3.ext he4 (fun _ _ _ k => k); replace hR3 := hR3.ext hB3 he4; replace hF3 := hF3.ext hB3 he4; replace hB3 := Nat.lt_of_lt_of_le hB3 he4.size) | ((with_reducible (refine Veil.out ?_; apply wl_push sl93 W0 y (acR ya u1 u2 u3 u4))); (case hr => exact hsY); (case hone => exact acR_one p1 p2 p3 p4); (case hG => exact hG3); (case hE => exact hE03); (case hn => first | omega | (simp; omega)); (case hy => rfl); (case hs => rfl); (case hb => rfl); (case hx => exact HXY.out); (case hRm => exact fun c c' o y q k => YAC.move q k); intro v5 W5 hG5 hE5 hk5))
            refine ⟨⟨k + 1, out ++ [y], false, by omega, int_eq (by omega), rfl, by simp; omega, hG5, ?_, hE5⟩, by simp [intOf]; omega⟩
            have := HI.out
            simpa [Hid, hq2, hq3] using this
          · have hq3 : na ≤ ya := by omega
            rw [decide_eq_false hq] at HBf
            clear hq
            by_cases hq2 : ya = na
            · have HQ : Hid (ya = na) := hq2
              have hdec : decide (ya = na) = true := by simp [hq2]
              clear hq2
              go_wp2_with (first | ((with_reducible (refine Veil.out ?_; apply wl_loadG rt25)); (case hw => first | rfl | simp [Region.wanted, yielded]); (case hx => rfl); (case hr => first | (with_reducible exact hR3) | (with_reducible exact HA _ hE03)); (case hn => first | exact hsy | exact hsn)) | ((with_reducible (refine Veil.out ?_; apply wl_loadR rt25)); (case hx => rfl); (case hr => first | (with_reducible exact HA _ hE5) | (with_reducible exact hR5)); (case hn => first | exact hsy | exact hsn)) | ((with_reducible (refine Veil.out ?_; apply wl_loadR rt108)); (case hx => rfl); (case hr => first | (with_reducible exact HR) | (with_reducible exact HN _ hE03)); (case hn => first | exact hsY | exact hsN)) | ((with_reducible (refine Veil.out ?_; apply wl_storeR rt108)); (case hx => rfl); (case hy => rfl); (case hn => exact hsY); (case hth => exact boxes_there _ #[.int .u8 0, .int .u8 0, .int .u8 0, .int .u8 0, .int .u8 0, .int .u8 0, .int .u8 0, .int .u8 0, .int .u8 0, .int .u8 0, .int .u8 0, .int .u8 0, .int .u8 0, .int .u8 0, .int .u8 0, .int .u8 0, .int .u8 0, .int .u8 0, .int .u8 0, .int .u8 0, .slice none 0 0, .slice none 0 0, .slice none 0 0, .slice none 0 0] 121 _ _ rfl hZ); (case h1 => exact acR_one p1 p2 p3 p4); refine w_gen (fun W => Ext wr W ∧ RowIn W wr.heap.size 0 (av ya) ∧ RowIn W wr.heap.size 0 (acR ya u1 u2 u3 u4)) ⟨ext_setRow hE2 (Nat.le_refl _), ac_parts (row_set (by rw [hsY]; exact boxes_there _ #[.int .u8 0, .int .u8 0, .int .u8 0, .int .u8 0, .int .u8 0, .int .u8 0, .int .u8 0, .int .u8 0, .int .u8 0, .int .u8 0, .int .u8 0, .int .u8 0, .int .u8 0, .int .u8 0, .int .u8 0, .int .u8 0, .int .u8 0, .int .u8 0, .int .u8 0, .int .u8 0, .slice none 0 0, .slice none 0 0, .slice none 0 0, .slice none 0 0] 121 _ _ rfl hZ))⟩ ?_; rintro W3 ⟨hE3, hR3, hF3⟩; have hB3 : wr.heap.size < W3.heap.size := cell_lt (ac_cells hyl hF3).1; have hG3 := hG.ext hE3 (fun _ _ _ k => k); have hE03 := hE.trans hE3) | (go_at_call 139; refine (HBf _).mono ?_; rintro e w4 ⟨rfl, he4⟩; replace hE03 := hE03.trans he4; replace hG3 := hG3.ext he4 (fun _ _ _ k => k); replace hR3 := hR3.ext hB3 he4; replace hF3 := hF3.ext hB3 he4; replace hB3 := Nat.lt_of_lt_of_le hB3 he4.size) | ((with_reducible (refine Veil.out ?_; apply wl_push sl93 W0 x (acR na n1 n2 n3 n4))); (case hr => exact hsN); (case hone => exact acR_one o1 o2 o3 o4); (case hG => exact hG3); (case hE => exact hE03); (case hn => first | omega | (simp; omega)); (case hy => rfl); (case hs => rfl); (case hb => rfl); (case hx => exact HXN.out); (case hRm => exact fun c c' o y q k => YAC.move q k); intro v5 W5 hG5 hE5 hk5; have hR5 := hk5 _ _ _ (hG.ne (Nat.le_refl _) _) hB3 hR3; have hF5 := hk5 _ _ _ (hG.ne (Nat.le_refl _) _) hB3 hF3))
              refine ⟨⟨k + 1, out ++ [x], true, by omega, int_eq (by omega), rfl, by simp; omega, hG5, ?_, hE5⟩, by simp [intOf]; omega⟩
              have := HI.out
              simpa [Hid, HQ.out] using this
            · go_wp2_with (first | ((with_reducible (refine Veil.out ?_; apply wl_loadG rt25)); (case hw => first | rfl | simp [Region.wanted, yielded]); (case hx => rfl); (case hr => first | (with_reducible exact hR3) | (with_reducible exact HA _ hE03)); (case hn => first | exact hsy | exact hsn)) | ((with_reducible (refine Veil.out ?_; apply wl_loadR rt25)); (case hx => rfl); (case hr => first | (with_reducible exact HA _ hE5) | (with_reducible exact hR5)); (case hn => first | exact hsy | exact hsn)) | ((with_reducible (refine Veil.out ?_; apply wl_loadR rt108)); (case hx => rfl); (case hr => first | (with_reducible exact HR) | (with_reducible exact hF5) | (with_reducible exact HN _ hE03)); (case hn => first | exact hsY | exact hsN)) | ((with_reducible (refine Veil.out ?_; apply wl_storeR rt108)); (case hx => rfl); (case hy => rfl); (case hn => exact hsY); (case hth => exact boxes_there _ #[.int .u8 0, .int .u8 0, .int .u8 0, .int .u8 0, .int .u8 0, .int .u8 0, .int .u8 0, .int .u8 0, .int .u8 0, .int .u8 0, .int .u8 0, .int .u8 0, .int .u8 0, .int .u8 0, .int .u8 0, .int .u8 0, .int .u8 0, .int .u8 0, .int .u8 0, .int .u8 0, .slice none 0 0, .slice none 0 0, .slice none 0 0, .slice none 0 0] 121 _ _ rfl hZ); (case h1 => exact acR_one p1 p2 p3 p4); refine w_gen (fun W => Ext wr W ∧ RowIn W wr.heap.size 0 (av ya) ∧ RowIn W wr.heap.size 0 (acR ya u1 u2 u3 u4)) ⟨ext_setRow hE2 (Nat.le_refl _), ac_parts (row_set (by rw [hsY]; exact boxes_there _ #[.int .u8 0, .int .u8 0, .int .u8 0, .int .u8 0, .int .u8 0, .int .u8 0, .int .u8 0, .int .u8 0, .int .u8 0, .int .u8 0, .int .u8 0, .int .u8 0, .int .u8 0, .int .u8 0, .int .u8 0, .int .u8 0, .int .u8 0, .int .u8 0, .int .u8 0, .int .u8 0, .slice none 0 0, .slice none 0 0, .slice none 0 0, .slice none 0 0] 121 _ _ rfl hZ))⟩ ?_; rintro W3 ⟨hE3, hR3, hF3⟩; have hB3 : wr.heap.size < W3.heap.size := cell_lt (ac_cells hyl hF3).1; have hG3 := hG.ext hE3 (fun _ _ _ k => k); have hE03 := hE.trans hE3) | (go_at_call 139; refine (HBf _).mono ?_; rintro e w4 ⟨rfl, he4⟩; replace hE03 := hE03.trans he4; replace hG3 := hG3.ext he4 (fun _ _ _ k => k); replace hR3 := hR3.ext hB3 he4; replace hF3 := hF3.ext hB3 he4; replace hB3 := Nat.lt_of_lt_of_le hB3 he4.size) | ((with_reducible (refine Veil.out ?_; apply wl_push sl93 W0 x (acR na n1 n2 n3 n4))); (case hr => exact hsN); (case hone => exact acR_one o1 o2 o3 o4); (case hG => exact hG3); (case hE => exact hE03); (case hn => first | omega | (simp; omega)); (case hy => rfl); (case hs => rfl); (case hb => rfl); (case hx => exact HXN.out); (case hRm => exact fun c c' o y q k => YAC.move q k); intro v5 W5 hG5 hE5 hk5; have hR5 := hk5 _ _ _ (hG.ne (Nat.le_refl _) _) hB3 hR3; have hF5 := hk5 _ _ _ (hG.ne (Nat.le_refl _) _) hB3 hF3) | ((with_reducible (refine Veil.out ?_; apply wl_push sl93 W0 y (acR ya u1 u2 u3 u4))); (case hr => exact hsY); (case hone => exact acR_one p1 p2 p3 p4); (case hG => exact hG5); (case hE => exact hE5); (case hn => first | omega | (simp; omega)); (case hy => rfl); (case hs => rfl); (case hb => rfl); (case hx => exact HXY.out); (case hRm => exact fun c c' o y q k => YAC.move q k); intro v7 W7 hG7 hE7 hk7))
              refine ⟨⟨k + 1, out ++ [x] ++ [y], true, by omega, int_eq (by omega), rfl, by simp; omega, hG7, ?_, hE7⟩, by simp [intOf]; omega⟩
              have := HI.out
              simpa [Hid, hq2, hq3] using this
      · have hkn : k = l.length := by omega
        have hki : ¬ (k : Int) < l.length := by omega
        have hinv2 := hinv.out
        rw [List.drop_of_length_le (by omega)] at hinv2
        clear HRow hinv HY
        have hfin : ∀ (r : Value) (L : List YA) (W : World), Ext w W → GRow 121 24 (YAC O w) (fun b => W0.heap.size ≤ b) W r L → Blk (W.setCell ⟨Y, 0, none⟩ r) Y n t (updv c 0 r) ∧ AccL O (W.setCell ⟨Y, 0, none⟩ r) r L ∧ Mod (· = Y) w (W.setCell ⟨Y, 0, none⟩ r) := fun r L W hW hr => by
          have hm : Mod (· = Y) w (W.setCell ⟨Y, 0, none⟩ r) := Mod.setCell (S := (· = Y)) (hW.mod _) (Or.inl rfl) _
          refine ⟨(hB.ext hW).set 0 r, hr.mono (fun cc oo z k => ?_) (fun q _ hq => fun hOq => by have := hO q hOq; have := hE0.size; omega) (fun q _ _ _ k hq => k.off (fun e => by have := hE0.size; omega)), hm⟩
          exact k.keep hm (fun b hb => fun e => hb (e ▸ hY))
        have HYc : ∀ W, Ext w W → W.cell? ⟨Y, 0, none⟩ = some (c 0) ∧ W.frozen? ⟨Y, 0, none⟩ = false := fun W hW => ⟨(hB.ext hW).cell (by omega), (hB.ext hW).fz _⟩
        generalize c 0 = c0 at HYc
        cases laid with
        | true =>
          have e3 : Hid (out = insG YA.addr x x.void l) := by simpa [insG, Hid] using hinv2
          have hc := HYc _ (hE0.trans hE)
          have hc1 := hc.1
          have hc2 := hc.2
          obtain ⟨ro, rc, hre, _⟩ := GRow.slice hG
          subst hre
          have hff := hfin _ _ _ (hE0.trans hE) hG
          clear hfin hinv2
          go_wp2
          go_end0
          rw [← e3.out]
          exact ⟨rfl, _, hff.1, hff.2.1, hff.2.2⟩
        | false =>
          have e3 : Hid (out ++ [x] = insG YA.addr x x.void l) := by simpa [insG, Hid] using hinv2
          clear hinv2
          go_wp2_with (first | ((with_reducible (refine Veil.out ?_; apply wl_loadR rt108)); (case hx => rfl); (case hr => first | (with_reducible exact HN _ hE)); (case hn => first | exact hsY | exact hsN)) | ((with_reducible (refine Veil.out ?_; apply wl_push sl93 W0 x (acR na n1 n2 n3 n4))); (case hr => exact hsN); (case hone => exact acR_one o1 o2 o3 o4); (case hG => exact hG); (case hE => exact hE); (case hn => first | omega | (simp; omega)); (case hy => rfl); (case hs => rfl); (case hb => rfl); (case hx => exact HXN.out); (case hRm => exact fun c c' o y q k => YAC.move q k); intro v5 W5 hG5 hE5 hk5; have hc := HYc _ (hE0.trans hE5); have hc1 := hc.1; have hc2 := hc.2; obtain ⟨ro, rc, hre, _⟩ := GRow.slice hG5; subst hre; have hff := hfin _ _ _ (hE0.trans hE5) hG5; simp only [List.length_append, List.length_cons, List.length_nil, Nat.zero_add] at hff))
          go_end0
          rw [← e3.out]
          exact ⟨rfl, _, hff.1, hff.2.1, hff.2.2⟩
end
end Go.Proofs.YgvahwGreat
