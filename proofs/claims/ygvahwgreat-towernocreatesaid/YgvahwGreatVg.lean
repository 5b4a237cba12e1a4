import Derived.Test.YgvahwGreatVaTd
import Derived.Test.YgvahwGreatLb
namespace Go.Proofs.YgvahwGreat
open Go.RowKit
set_option linter.unusedSimpArgs false

theorem rowLgO {c : Nat → Value} {o a : Nat} (ha : a < 2 ^ 160) (h : AAt c o a) : rowOf c o 22 = lgV a (c (o + 20)) (c (o + 21)) := by
  have e : rowOf c o 22 = rowOf (fun j => c (o + j)) 0 22 := by
    unfold rowOf; congr 2; funext j; rw [Nat.zero_add]
  rw [e]
  exact rowLg ha (fun j u hu => by rw [Nat.zero_add]; exact h j u hu) rfl rfl
section
variable {own : Nat → Nat} {w : World} {g : Nat} {c : Nat → Value} {V : EV}
set_option maxRecDepth 100000 in
set_option maxHeartbeats 6400000 in
theorem vLogged (h : VRep own w g c V) (hfew : ∀ (i : Nat) (hi : i < V.logs.length), (V.logs[i]).topics.length ≤ 4) : Calls Hvah.prog 124 #[.pointer (some ⟨g, 2435, none⟩)] w fun e w' => ∃ r, e = .returned r ∧ EL 22 (LgC (Mu own) w') (Mu own) w' r V.logs ∧ Ext w w' := by
  have hb := h.blk
  have hnl := h.nL
  have hfr := h.fresh
  have hL := h.logs
  have hmu : ∀ b, Mu own b → b < w.heap.size := fun b q => Classical.byContradiction (fun z => q (hfr b (by omega)))
  clear h
  generalize V.logs = l at *
  rcases hL with ⟨rfl, hv⟩ | ⟨b, cap, cs, hv, hcap, hc2, hbl, hT, hrow⟩
  · go_enter Hvah.func124, Hvah.ntmps124
    go_wp2_with (first
      | ((with_reducible (refine Veil.out ?_; apply wl_loadB one44i)); (case hx => rfl); (case hB => exact hb); (case hi => decide); rw [hv]))
    go_ret
    exact ⟨_, rfl, Or.inl ⟨rfl, _, rfl⟩, Ext.refl _⟩
  · rcases Nat.eq_zero_or_pos l.length with hl0 | hl0
    · have hle := List.length_eq_zero_iff.1 hl0
      subst hle
      rw [List.length_nil] at hv
      go_enter Hvah.func124, Hvah.ntmps124
      go_wp2_with (first
        | ((with_reducible (refine Veil.out ?_; apply wl_loadB one44i)); (case hx => rfl); (case hB => exact hb); (case hi => decide); rw [hv]))
      go_ret
      exact ⟨_, rfl, Or.inl ⟨rfl, _, rfl⟩, Ext.refl _⟩
    · obtain ⟨n, hn⟩ : ∃ n, Hid (l.length = n) := ⟨_, rfl⟩
      rw [hn.out] at hv hcap hnl hl0
      have hlen : n ≤ 1000000 := by omega
      have hll : (n : Int) ≤ 1000000 := by omega
      have hl1 : ¬ (n : Int) = 0 := by omega
      go_enter Hvah.func124, Hvah.ntmps124
      go_upto_region 5 with (first
        | ((with_reducible (refine Veil.out ?_; apply wl_loadB one44i)); (case hx => rfl); (case hB => exact hb); (case hi => decide); rw [hv])
        | ((with_reducible (refine Veil.out ?_; apply wl_makeR under44 el132 n)); (case hl => rfl); (case hc => rfl); (case hn => exact hlen); rintro B W1 e1 b1 g1))
      try simp only [Act.put]
      have hOw : ∀ x, Wd (Mu own) B x → x < W1.heap.size := fun x hx => by
        rcases hx with hx | hx
        · exact Nat.lt_of_lt_of_le (hmu x hx) e1.size
        · rw [hx]; exact b1.lt
      have hBo : ¬ Mu own B := fun q => q (hfr B g1)
      have hgB : ¬ g = B := fun q => by have := hb.lt; omega
      have hbB : ¬ b = B := fun q => by have := hbl.lt; omega
      go_loopw [19] (fun iv wr => ∃ (i : Nat) (cB : Nat → Value), iv = .int .i64 (i : Nat) ∧ i ≤ n ∧ Blk wr B (n * 22) 141 cB ∧ Hid (∀ (k : Nat) (_ : k < i) (h2 : k < l.length), LgC (Wd (Mu own) B) wr cB (k * 22) l[k]) ∧ Ext w wr ∧ W1.heap.size ≤ wr.heap.size) (fun iv _ => n - (intOf iv).toNat)
      case atStart => exact ⟨0, _, rfl, Nat.zero_le _, b1, (fun k hk _ => absurd hk (Nat.not_lt_zero _) : ∀ (k : Nat) (_ : k < 0) (h2 : k < l.length), LgC (Wd (Mu own) B) W1 _ (k * 22) l[k]), e1, Nat.le_refl _⟩
      case round =>
      clear b1
      obtain ⟨i, cB, rfl, hi, bc, hdone, hE, hs1⟩ := hrel
      rcases Nat.lt_or_ge i n with hlt | hge
      · have z1 : (i : Int) < n := by omega
        have hil : i < l.length := by have := hn.out; omega
        have hri0 := hrow i hil
        have hri : LgC (Mu own) w cs (i * 22) (l[i]'hil) := ⟨hri0.addr, hri0.aLt, hri0.topics, hfew i hil, hri0.data⟩
        have hri' := hri.widen g1
        have hrl := rowLgO hri.aLt hri.addr
        have hiB : i * 22 + 22 ≤ n * 22 := by omega
        have hib : i * 22 + 22 ≤ cap * 22 := by omega
        have HC := vCopiedLog (O := Wd (Mu own) B) (w := wr) (fun x hx => Nat.lt_of_lt_of_le (hOw x hx) hs1) hri.aLt (hri'.topics.ext hE) (hri'.data.ext hE) hri.few
        generalize cs (i * 22 + 20) = tv at hrl HC
        generalize cs (i * 22 + 21) = dv at hrl HC
        obtain ⟨i1, hi1⟩ : ∃ z : Nat, Hid ((i + 1 : Nat) = z) := ⟨_, rfl⟩
        have j1 : IntKind.i64.wrap ((i : Int) + 1) = (i1 : Int) := by rw [IntKind.wrap_i64, ← hi1.out]; omega
        have hbw := hb.ext hE
        have hblw := hbl.ext hE
        go_wp2_with (first
          | ((with_reducible (refine Veil.out ?_; apply wl_loadB one44i)); (case hx => rfl); (case hB => exact hbw); (case hi => decide); rw [hv])
          | ((with_reducible (refine Veil.out ?_; apply wl_loadRow rt132)); (case hx => rfl); (case hB => exact hblw); (case hi => exact hib); rw [hrl])
          | (go_at_call 216; refine HC.mono ?_; rintro e w6 ⟨tv', dv', rfl, ht', hd', e6⟩)
          | ((with_reducible (refine Veil.out ?_; apply wl_storeRow rt132)); (case hx => rfl); (case hy => rfl); (case hr => exact lgV_size hri.aLt _ _); (case h1 => exact lgV_ones hri.aLt ht'.one' hd'.one'); (case hB => exact bc.ext e6); (case hi => exact hiB); rintro W9 b9 m9))
        go_roundw
        case rel =>
          have h9 := hi1.out
          have hne : ∀ x, ¬ Wd (Mu own) B x → ¬ x = B := fun x hx q => hx (Or.inr q)
          have hEW : Ext w W9 := Ext.trans_mod (hE.trans e6) m9 (fun q hq => by have hq2 : q = B := hq; rw [hq2]; exact g1)
          refine ⟨i1, _, rfl, by omega, b9, ?_, hEW, Nat.le_trans hs1 (Nat.le_trans e6.size m9.size)⟩
          show ∀ (k : Nat) (_ : k < i1) (h2 : k < l.length), LgC (Wd (Mu own) B) W9 (layv cB (i * 22) (lgV (l[i]'hil).addr tv' dv')) (k * 22) l[k]
          intro k hk h2
          by_cases e : k = i
          · subst e
            exact lgV_lay hri.aLt (ht'.keep m9 hne) hri.few (hd'.keep m9 hne)
          · refine (((hdone.out k (by omega) h2).ext e6).keep m9 hne).cells (fun j hj => ?_)
            rw [layv_off _ _ _ _ (by rw [lgV_size hri.aLt]; omega)]
        case measure => have h9 := hi1.out; simp [intOf]; omega
      · have z1 : ¬ (i : Int) < n := by omega
        go_wp2
        go_ret
        have q1 := hn.out
        refine ⟨_, rfl, Or.inr ⟨B, 0, n, cB, by rw [q1]; rfl, by omega, by omega, hBo, bc.lt, fun j hj => by rw [Nat.zero_add]; exact bc.cell (by rw [q1] at hj; exact hj), fun k hk => (hdone.out k (by omega) hk).thin⟩, hE⟩
end
end Go.Proofs.YgvahwGreat
