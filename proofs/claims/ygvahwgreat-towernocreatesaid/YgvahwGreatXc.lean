import Derived.Test.YgvahwGreatXb
namespace Go.Proofs.YgvahwGreat
open Go.RowKit
set_option linter.unusedSimpArgs false
set_option linter.unusedVariables false
/-- Codes as they come in. -/
def CoL (w : World) (v : Value) (ls : List (List Nat)) : Prop := EL 1 (fun c o (l : List Nat) => NLx (fun _ => False) w (c o) l ∧ l.length ≤ 140737488355328) (fun _ => False) w v ls
theorem CoL.ext {w w' : World} {v : Value} {ls : List (List Nat)} (h : CoL w v ls) (e : Ext w w') : CoL w' v ls := EL.mono h e (fun _ _ _ q => ⟨q.1.ext e, q.2⟩)
theorem CoL.at {w : World} {v : Value} {ls : List (List Nat)} (h : CoL w v ls) : ∃ o cap, v = .slice o ls.length cap ∧ ∀ (i : Nat) (hi : i < ls.length), ∃ b off x, o = some ⟨b, off, none⟩ ∧ b < w.heap.size ∧ w.cell? ⟨b, off + i, none⟩ = some x ∧ NLx (fun _ => False) w x ls[i] ∧ ls[i].length ≤ 140737488355328 := by
  rcases h with ⟨rfl, p, rfl⟩ | ⟨b, off, cap, c, h1, h2, h3, h4, h5, h6, h7⟩
  · exact ⟨p, 0, rfl, fun i hi => absurd hi (Nat.not_lt_zero _)⟩
  · refine ⟨_, cap, h1, fun i hi => ⟨b, off, c i, rfl, h5, h6 i (by omega), ?_⟩⟩
    have := h7 i hi
    rw [Nat.mul_one] at this
    exact this
theorem GRow.col {n0 : Nat} {T : Nat → Prop} {w : World} {v : Value} {ls : List (List Nat)} (h : GRow 23 1 (fun c o l => OwB n0 w (c o) l) T w v ls) : CoL w v ls := EL.mono h.el (Ext.refl _) (fun _ _ _ q => ⟨q.nlx, q.few⟩)
theorem OwB.shape {n0 : Nat} {w : World} {v : Value} {l : List Nat} (h : OwB n0 w v l) : ∃ ob, v = .slice ob l.length l.length := by
  rcases h with ⟨rfl, rfl⟩ | ⟨B, rfl, _⟩
  · exact ⟨none, rfl⟩
  · exact ⟨_, rfl⟩
theorem OwB.blk {n0 m : Nat} {w : World} {ob : Option Addr} {l : List Nat} (h : OwB n0 w (.slice ob m m) l) (hm : l.length = m) (h0 : 0 < m) : ∃ B, ob = some ⟨B, 0, none⟩ ∧ m ≤ 140737488355328 ∧ n0 ≤ B ∧ (∀ d ∈ l, d < 256) ∧ Blk w B m 5 (fun i => .int .u8 ((l.getD i 0 : Nat) : Int)) := by
  subst hm
  rcases h with ⟨rfl, _⟩ | ⟨B, h1, h2, h3, h4, h5⟩
  · exact absurd h0 (Nat.lt_irrefl _)
  · injection h1 with h1 _ _
    exact ⟨B, h1, h2, h3, h4, h5⟩
theorem one5x : OneT 5 := oneT_of (by kernel_rfl) (by kernel_rfl)
theorem sl22x : SlT 22 23 1 := ⟨⟨Hvah.t23, .slice none 0 0, by kernel_rfl, by kernel_rfl, by kernel_rfl, by kernel_rfl, rfl, by decide +kernel⟩, by decide, by decide⟩
theorem set_blk {w : World} {B m k : Nat} {l : List Nat} (h : Blk w B m 5 (updv (fun i => .int .u8 ((l.getD i 0 : Nat) : Int)) k (.int .u8 254))) (hm : l.length = m) (hk : k < m) : Blk w B m 5 (fun i => .int .u8 (((l.set k 254).getD i 0 : Nat) : Int)) := h.same (fun i hi => by
  by_cases q : i = k
  · subst q; rw [updv_same]; simp [List.getD_eq_getElem?_getD, hm, hk]
  · rw [updv_ne _ _ q]; simp [List.getD_eq_getElem?_getD, List.getElem?_set, Ne.symm q])
section
variable {w : World} {v : Value} {ls : List (List Nat)}
set_option maxRecDepth 100000 in
set_option maxHeartbeats 6400000 in
/-- law.unmade, calls kept. -/
theorem lUnmade (h : CoL w v ls) : Calls Hvah.prog 6 #[v, .bool false] w fun e w' => ∃ r ls', e = .returned r ∧ GRow 23 1 (fun c o l => OwB w.heap.size w' (c o) l) (fun b => w.heap.size ≤ b) w' r ls' ∧ Ext w w' := by
  obtain ⟨o, cap, rfl, hcell⟩ := h.at
  clear h
  have HC := fun (W : World) (hW : Ext w W) {x : Value} {l : List Nat} (hx : NLx (fun _ => False) w x l) (hl : l.length ≤ 140737488355328) => lCopyBytes (hx.ext hW) hl
  obtain ⟨n, hn⟩ : ∃ n, Hid (ls.length = n) := ⟨_, rfl⟩
  rw [hn.out]
  go_enter Hvah.func6, Hvah.ntmps6
  go_upto_region 3 with (fail)
  try simp only [Act.put]
  go_loopw [13, 5] (fun iv ov wr => ∃ (i : Nat) (ls' : List (List Nat)), iv = .int .i64 (i : Nat) ∧ i ≤ n ∧ i ≤ 6 ∧ ls'.length = i ∧ GRow 23 1 (fun c o l => OwB w.heap.size wr (c o) l) (fun b => w.heap.size ≤ b) wr ov ls' ∧ Ext w wr) (fun iv _ _ => n - (intOf iv).toNat)
  case atStart => exact ⟨0, [], rfl, Nat.zero_le _, by decide, rfl, Or.inl ⟨rfl, rfl⟩, Ext.refl _⟩
  case round =>
    obtain ⟨i, ls', rfl, hin, hi6, hli, hG, hE⟩ := hrel
    rcases Nat.lt_or_ge i n with hlt | hge
    · have z1 : (i : Int) < n := by omega
      have hil : i < ls.length := by rw [hn.out]; exact hlt
      obtain ⟨b, off, x, rfl, hb, hx, hxN⟩ := hcell i hil
      obtain ⟨lx, hlx⟩ : ∃ lx, Hid (ls[i]'hil = lx) := ⟨ls[i]'hil, rfl⟩
      rw [hlx.out] at hxN
      have hcX : wr.cell? ⟨b, off + i, none⟩ = some x := (hE.cell hb).trans hx
      have hxn := hxN.1
      have hxl := hxN.2
      clear hxN hx
      clear hcell
      rcases Nat.lt_or_ge i 6 with h6 | h6
      · have z6 : ¬ (6 : Int) ≤ (i : Int) := by omega
        have z7 : decide ((6 : Int) ≤ (i : Int)) = false := decide_eq_false z6
        have j1 : IntKind.i64.wrap ((i : Int) + 1) = ((i + 1 : Nat) : Int) := by rw [IntKind.wrap_i64]; omega
        obtain ⟨i1, hi1⟩ : ∃ z : Nat, Hid ((i + 1 : Nat) = z) := ⟨_, rfl⟩
        rw [hi1.out] at j1
        go_upto_region 7 with (first | ((with_reducible (refine Veil.out ?_; apply wl_loadC one23x)); (case hw => first | rfl | go_simp); (case hx => rfl); (case hc => exact hcX)) | (go_at_call 17; refine (HC _ hE hxn hxl).mono ?_; rintro e W1 ⟨own, rfl, hown, e1⟩))
        have hown0 := hown
        obtain ⟨ob, rfl⟩ := hown.shape
        obtain ⟨m, hm⟩ : ∃ m, Hid (lx.length = m) := ⟨_, rfl⟩
        rw [hm.out] at hown0 ⊢
        go_upto_block 2 with (fail)
        go_cut [] (fun wx => ∃ l2, OwB wr.heap.size wx (.slice ob m m) l2 ∧ Ext wr wx)
        case first =>
          go_upto_region 8 with (fail)
          try simp only [Act.put]
          go_loopw [24] (fun kv wk => ∃ (k : Nat) (l2 : List Nat), kv = .int .i64 (k : Nat) ∧ k ≤ m ∧ l2.length = m ∧ OwB wr.heap.size wk (.slice ob m m) l2 ∧ Ext wr wk) (fun kv _ => m - (intOf kv).toNat)
          case atStart => exact ⟨0, lx, rfl, Nat.zero_le _, hm.out, hown0, e1⟩
          case round =>
            obtain ⟨k, l2, rfl, hkm, hl2, hO2, hEk⟩ := hrel
            rcases Nat.lt_or_ge k m with hk | hk
            · have y1 : (k : Int) < m := by omega
              obtain ⟨B, rfl, hmle, hBn, hdig, hBk⟩ := hO2.blk hl2 (by omega)
              have j2 : IntKind.i64.wrap ((k : Int) + 1) = ((k + 1 : Nat) : Int) := by rw [IntKind.wrap_i64]; omega
              obtain ⟨k1, hk1⟩ : ∃ z : Nat, Hid ((k + 1 : Nat) = z) := ⟨_, rfl⟩
              rw [hk1.out] at j2
              obtain ⟨d, hd⟩ : ∃ d : Nat, l2.getD k 0 = d := ⟨_, rfl⟩
              have hck := hBk.cell hk
              simp only [hd] at hck
              clear hd hown hown0
              rcases (show d = 240 ∨ d = 245 ∨ (¬ d = 240 ∧ ¬ d = 245) by omega) with rfl | rfl | ⟨d1, d2⟩
              · go_wp2_with (first | ((with_reducible (refine Veil.out ?_; apply wl_loadC one5x)); (case hw => first | rfl | go_simp); (case hx => rfl); (case hc => exact hck)) | ((with_reducible (refine Veil.out ?_; apply wl_store1 one5x)); (case hx => rfl); (case hy => rfl); (case h1 => rfl); (case hB => exact hBk); (case ho => exact hk); rintro W5 b5 m5))
                go_roundw
                case rel =>
                  have h9 := hk1.out
                  refine ⟨k1, l2.set k 254, rfl, by omega, by rw [List.length_set]; exact hl2, Or.inr ⟨B, by rw [List.length_set, hl2], by rw [List.length_set, hl2]; exact hmle, hBn, fun x hx => ?_, by rw [List.length_set, hl2]; exact set_blk b5 hl2 hk⟩, Ext.trans_mod hEk m5 (fun q hq => by have hq2 : q = B := hq; rw [hq2]; exact hBn)⟩
                  rcases List.mem_or_eq_of_mem_set hx with q | q
                  · exact hdig x q
                  · rw [q]; decide
                case measure => have h9 := hk1.out; simp [intOf]; omega
              · go_wp2_with (first | ((with_reducible (refine Veil.out ?_; apply wl_loadC one5x)); (case hw => first | rfl | go_simp); (case hx => rfl); (case hc => exact hck)) | ((with_reducible (refine Veil.out ?_; apply wl_store1 one5x)); (case hx => rfl); (case hy => rfl); (case h1 => rfl); (case hB => exact hBk); (case ho => exact hk); rintro W5 b5 m5))
                go_roundw
                case rel =>
                  have h9 := hk1.out
                  refine ⟨k1, l2.set k 254, rfl, by omega, by rw [List.length_set]; exact hl2, Or.inr ⟨B, by rw [List.length_set, hl2], by rw [List.length_set, hl2]; exact hmle, hBn, fun x hx => ?_, by rw [List.length_set, hl2]; exact set_blk b5 hl2 hk⟩, Ext.trans_mod hEk m5 (fun q hq => by have hq2 : q = B := hq; rw [hq2]; exact hBn)⟩
                  rcases List.mem_or_eq_of_mem_set hx with q | q
                  · exact hdig x q
                  · rw [q]; decide
                case measure => have h9 := hk1.out; simp [intOf]; omega
              · have y2 : ((d : Int) == 240) = false := by simp; omega
                have y3 : ((d : Int) == 245) = false := by simp; omega
                have y4 : ¬ (d : Int) = 240 := by omega
                have y5 : ¬ (d : Int) = 245 := by omega
                go_wp2_with (first | ((with_reducible (refine Veil.out ?_; apply wl_loadC one5x)); (case hw => first | rfl | go_simp); (case hx => rfl); (case hc => exact hck)) | ((with_reducible (refine Veil.out ?_; apply wl_store1 one5x)); (case hx => rfl); (case hy => rfl); (case h1 => rfl); (case hB => exact hBk); (case ho => exact hk); rintro W5 b5 m5))
                go_roundw
                case rel =>
                  have h9 := hk1.out
                  exact ⟨k1, l2, rfl, by omega, hl2, hO2, hEk⟩
                case measure => have h9 := hk1.out; simp [intOf]; omega
            · have y1 : ¬ (k : Int) < m := by omega
              go_wp2
              go_meet
              case rel => exact ⟨l2, hO2, hEk⟩
        case rest =>
          obtain ⟨l2, hO2, hE2⟩ := hcut
          have hEw := hE.trans hE2
          have hG2 := hG.ext (R' := fun c o l => OwB w.heap.size wc (c o) l) hE2 (fun _ _ _ q => q.ext hE2)
          have hO3 := hO2.less hE.size
          clear hG hown hown0 hO2 hcX hxn
          go_wp2_with (first | ((with_reducible (refine Veil.out ?_; apply wl_build1v 23 Hvah.t23 (.slice none 0 0) (.slice ob m m))); (case ht => kernel_rfl); (case hi => kernel_rfl); (case hz => kernel_rfl); (case hsz => kernel_rfl); (case hzs => rfl); (case hy => rfl); (case h1 => rfl); rintro B6 W6 e6 hc6 g6; have hO6 := hO3.ext e6; have hG6 := hG2.ext (R' := fun c o l => OwB w.heap.size W6 (c o) l) e6 (fun _ _ _ q => q.ext e6); have hE6 := hEw.trans e6) | ((with_reducible (refine Veil.out ?_; apply wl_appX (R := fun W c o l => OwB w.heap.size W (c o) l) (r := #[.slice ob m m]) (w0 := w) (y := l2) (l := ls') sl22x)); (case hG => exact hG6); (case e0 => exact hE6); (case hn => omega); (case hs => rfl); (case hx => rfl); (case hr => rfl); (case hone => exact fun u hu => by simp at hu; subst hu; rfl); (case hc => intro j u hu; have hj : j = 0 := (by have := (List.getElem?_eq_some_iff.1 hu).1; simpa using this); subst hj; simp at hu; subst hu; exact hc6); (case hy => intro c o hc; have := hc 0 _ rfl; rw [Nat.add_zero] at this; show OwB _ _ (c o) _; rw [this]; exact hO6); (case hRm => intro W c c' o y hc hq; have := hc 0 (by decide); rw [Nat.add_zero] at this; show OwB _ _ (c' o) _; rw [this]; exact hq); (case hRe => intro W hW c o y hq; exact hq.ext hW); (case hRb => intro W b n c' hb hm c o y hq; exact hq.mod hb (by decide) hm); rintro v7 W7 hG7 hE7))
          go_roundw
          case rel =>
            have h9 := hi1.out
            exact ⟨i1, ls' ++ [l2], rfl, by omega, by omega, by simp; omega, hG7, hE7⟩
          case measure => have h9 := hi1.out; simp [intOf]; omega
      · have z6 : (6 : Int) ≤ (i : Int) := by omega
        have z7 : decide ((6 : Int) ≤ (i : Int)) = true := decide_eq_true z6
        go_wp2_with (first | ((with_reducible (refine Veil.out ?_; apply wl_loadC one23x)); (case hw => first | rfl | go_simp); (case hx => rfl); (case hc => exact hcX)) | (go_at_call 17; refine (HC _ hE hxn hxl).mono ?_; rintro e W1 ⟨own, rfl, hown, e1⟩))
        go_ret
        first | exact ⟨_, ls', rfl, hG, hE⟩ | exact ⟨_, ⟨rfl, ls', hG⟩, hE⟩ | exact ⟨_, rfl, ⟨ls', hG⟩, hE⟩
    · have z1 : ¬ (i : Int) < n := by omega
      go_wp2
      go_ret
      first | exact ⟨_, ls', rfl, hG, hE⟩ | exact ⟨_, ⟨rfl, ls', hG⟩, hE⟩ | exact ⟨_, rfl, ⟨ls', hG⟩, hE⟩
end
end Go.Proofs.YgvahwGreat
