import Derived.Test.YgvahwGreatPs
import Derived.Test.YgvahwGreatRowsN
namespace Go.Proofs.YgvahwGreat
open Go.RowKit
set_option linter.unusedSimpArgs false
theorem onet29 : OneT 34 := oneT_of (by kernel_rfl) (by kernel_rfl)
theorem onet32 : OneT 23 := oneT_of (by kernel_rfl) (by kernel_rfl)
theorem NL.one' {O : Nat → Prop} {w : World} {v : Value} {l : List Nat} (h : NL O w v l) : v.oneCell' = true := by obtain ⟨_, _, rfl, _⟩ := h; rfl
theorem WL.one' {O : Nat → Prop} {w : World} {v : Value} {l : List Nat} (h : WL O w v l) : v.oneCell' = true := by
  rcases h with ⟨_, rfl⟩ | ⟨_, _, _, rfl, _⟩ <;> rfl
theorem LgC.cells {O : Nat → Prop} {w : World} {c c' : Nat → Value} {o : Nat} {x : ALog} (h : LgC O w c o x) (g : ∀ j, j < 22 → c' (o + j) = c (o + j)) : LgC O w c' o x := by
  refine ⟨fun j u hu => ?_, h.aLt, ?_, h.few, ?_⟩
  · have hj := (Array.getElem?_eq_some_iff.1 hu).1
    rw [av_size h.aLt] at hj
    rw [g j (by omega)]; exact h.addr j u hu
  · rw [g 20 (by decide)]; exact h.topics
  · rw [g 21 (by decide)]; exact h.data
theorem LgC.thin {O : Nat → Prop} {B : Nat} {w : World} {c : Nat → Value} {o : Nat} {x : ALog} (h : LgC (Wd O B) w c o x) : LgC O w c o x := by
  refine ⟨h.addr, h.aLt, ?_, h.few, h.data.narrow⟩
  rcases h.topics with q | ⟨b, off, cap, q1, q2, q3, q4, q5⟩
  · exact Or.inl q
  · exact Or.inr ⟨b, off, cap, q1, q2, q3, fun z => q4 (Or.inl z), q5⟩
theorem lgV_lay {O : Nat → Prop} {w : World} {c : Nat → Value} {o : Nat} {x : ALog} {t d : Value} (ha : x.addr < 2 ^ 160) (ht : WL O w t x.topics) (hf : x.topics.length ≤ 4) (hd : NL O w d x.data) : LgC O w (layv c o (lgV x.addr t d)) o x := by
  have hs := lgV_size ha t d
  have g : ∀ j, j < 22 → layv c o (lgV x.addr t d) (o + j) = cf (lgV x.addr t d) j := fun j hj => by
    rw [layv_at _ _ _ _ (by omega) (by omega), show o + j - o = j by omega]
  refine ⟨fun j u hu => ?_, ha, ?_, hf, ?_⟩
  · have hj := (Array.getElem?_eq_some_iff.1 hu).1
    rw [av_size ha] at hj
    rw [g j (by omega), cf_append, if_pos (by rw [av_size ha]; exact hj)]
    exact cf_get hu
  · rw [g 20 (by decide), cf_append, if_neg (by rw [av_size ha]; omega), av_size ha]
    exact ht
  · rw [g 21 (by decide), cf_append, if_neg (by rw [av_size ha]; omega), av_size ha]
    exact hd
section
variable {O T : Nat → Prop} {w : World} {v : Value} {l : List ALog}
set_option maxRecDepth 100000 in
set_option maxHeartbeats 6400000 in
theorem yLogsOf (hO : Small O w) (h : LogL T O w v l) (hlen : l.length ≤ 100000) : Calls Hvah.prog 80 #[v] w fun e w' => ∃ r, e = .returned r ∧ GRow 141 22 (LgC O w') (fun b => ¬ O b) w' r l ∧ Full r ∧ Ext w w' := by
  rcases h with ⟨rfl, rfl⟩ | ⟨b, cap, cs, rfl, hcap, hc2, hb, hT, hrow⟩
  · have hnil := fun W => Lib.run_eql_slice_nil (P := Hvah.prog) W 49 141 none 0 0 0 0 under44
    go_enter Hvah.func80, Hvah.ntmps80
    go_wp2
    go_ret
    exact ⟨_, rfl, Or.inl ⟨rfl, rfl⟩, fun _ _ _ e => by injection e with _ e2 e3; omega, Ext.refl _⟩
  · have hnil := fun W => Lib.run_eql_slice_nil (P := Hvah.prog) W 49 141 (some ⟨b, 0, none⟩) l.length cap 0 0 under44
    have hlen : l.length ≤ 1000000 := by omega
    have hll : (l.length : Int) ≤ 1000000 := by omega
    go_enter Hvah.func80, Hvah.ntmps80
    go_upto_region 5 with (first | ((with_reducible (refine Veil.out ?_; apply wl_makeR under44 el132 l.length)); (case hl => rfl); (case hc => rfl); (case hn => exact hlen); rintro B W1 e1 b1 g1))
    try simp only [Act.put]
    have hOw : Small (Wd O B) W1 := fun x hx => by
      rcases hx with hx | hx
      · exact Nat.lt_of_lt_of_le (hO x hx) e1.size
      · rw [hx]; exact b1.lt
    go_loopw [13] (fun iv wr => ∃ (i : Nat) (c : Nat → Value), iv = .int .i64 (i : Nat) ∧ i ≤ l.length ∧ Blk wr B (l.length * 22) 141 c ∧ Hid (∀ (k : Nat) (_ : k < i) (h2 : k < l.length), LgC (Wd O B) wr c (k * 22) l[k]) ∧ Ext w wr ∧ W1.heap.size ≤ wr.heap.size) (fun iv _ => l.length - (intOf iv).toNat)
    case atStart => exact ⟨0, _, rfl, Nat.zero_le _, b1, (fun k hk _ => absurd hk (Nat.not_lt_zero _) : ∀ (k : Nat) (_ : k < 0) (h2 : k < l.length), LgC (Wd O B) W1 _ (k * 22) l[k]), e1, Nat.le_refl _⟩
    case round =>
      clear b1
      obtain ⟨i, c, rfl, hi, bc, hdone, hE, hs1⟩ := hrel
      rcases Nat.lt_or_ge i l.length with hlt | hge
      · have z1 : (i : Int) < l.length := by omega
        have hri := hrow i hlt
        have hri' := hri.widen g1
        have hones : Ones (rowOf cs (i * 22) 22) := ones_of (fun q hq => by
          rw [rowOf_size] at hq
          rw [cf_rowOf _ _ _ hq]
          rcases (show q < 20 ∨ q = 20 ∨ q = 21 by omega) with h | rfl | rfl
          · rw [aat_at hri.addr hri.aLt q h]; rfl
          · exact hri.topics.one'
          · exact hri.data.one')
        have j1 : IntKind.i64.wrap ((i : Int) + 1) = ((i + 1 : Nat) : Int) := by rw [IntKind.wrap_i64]; omega
        obtain ⟨i1, hi1⟩ : ∃ z : Nat, Hid ((i + 1 : Nat) = z) := ⟨_, rfl⟩
        rw [hi1.out] at j1
        go_upto_region 7 with (first | ((with_reducible (refine Veil.out ?_; apply wl_loadRow rt132)); (case hx => rfl); (case hB => exact hb.ext hE); (case hi => omega)) | ((with_reducible (refine Veil.out ?_; apply wl_allocB zero132')); (case hn => exact lgV_size (by decide) _ _); rintro L W3 e3 b3 g3) | ((with_reducible (refine Veil.out ?_; apply wl_storeRow rt132)); (case hx => rfl); (case hy => rfl); (case hr => exact rowOf_size _ _ _); (case h1 => exact hones); (case hB => exact b3); (case hi => decide); rintro W4 b4 m4))
        have hLB : ¬ L = B := fun q => by have := bc.lt; omega
        have gLw : w.heap.size ≤ L := Nat.le_trans hE.size g3
        have hE4 : Ext w W4 := Ext.trans_mod (hE.trans e3) m4 (fun q hq => by have hq2 : q = L := hq; rw [hq2]; exact gLw)
        have hs4 : W1.heap.size ≤ W4.heap.size := Nat.le_trans hs1 (Nat.le_trans e3.size m4.size)
        have bc4 := (bc.ext e3).mod m4 (fun q => hLB q.symm)
        obtain ⟨cL, hcL⟩ : ∃ z, Hid (layv (cf (lgV 0 (.slice none 0 0) (.slice none 0 0))) 0 (rowOf cs (i * 22) 22) = z) := ⟨_, rfl⟩
        have hLc : ∀ j, j < 22 → cL j = cs (i * 22 + j) := fun j hj => by
          rw [← hcL.out, layv_at _ _ _ _ (Nat.zero_le _) (by rw [rowOf_size]; omega), Nat.sub_zero, cf_rowOf _ _ _ hj]
        have bL : Blk W4 L 22 141 cL := by rw [← hcL.out]; exact b4
        have hLa : AAt cL 0 l[i].addr := fun j u hu => by
          have hj := (Array.getElem?_eq_some_iff.1 hu).1
          rw [av_size hri.aLt] at hj
          rw [Nat.zero_add, hLc j (by omega)]
          exact hri.addr j u hu
        have hL20 : cL 20 = cs (i * 22 + 20) := hLc 20 (by decide)
        have hL21 : cL 21 = cs (i * 22 + 21) := hLc 21 (by decide)
        have hOs : ∀ W, W1.heap.size ≤ W.heap.size → Small (Wd O B) W := fun W hW x hx => Nat.lt_of_lt_of_le (hOw x hx) hW
        have HWo := fun W (hW : Ext w W) (hs : W1.heap.size ≤ W.heap.size) => yWordsOf (hOs W hs) (hri'.topics.ext hW) (by have := hri.few; omega)
        have HDo := fun W (hW : Ext w W) (hs : W1.heap.size ≤ W.heap.size) => yBytesOf (hOs W hs) (hri'.data.ext hW)
        generalize cs (i * 22 + 20) = tv at *
        generalize cs (i * 22 + 21) = dv at *
        have bc := bc4
        clear b4 bc4 hrow hones hcL b3
        refine w_ext ?_
        rintro W0 hW0
        refine wp_region_held_drew (S := fun w' => (Ext w (w') ∧ Blk (w') L 22 141 cL ∧ W1.heap.size ≤ (w' : World).heap.size)) (by kernel_rfl) ⟨(hE4.trans hW0).drew, (bL.ext hW0).drew, Nat.le_trans hs4 hW0.size⟩ (fun hHeld => ?_)
        have HH : Hid ((Ext w (_) ∧ Blk (_) L 22 141 cL ∧ W1.heap.size ≤ (_ : World).heap.size)) := hHeld
        clear hHeld
        refine wpAnyH_take (i := 0) (v := ?_) rfl (by kernel_rfl) (by kernel_rfl) (by kernel_rfl) (fun _ _ _ h => h) (Or.inl ⟨by rfl, ?_⟩) HH.out ?_
        rotate_left
        · intro w hSw; go_simp; try with_reducible rfl
        change wpAnyH _ _ _ _ _ _ _ (Act.put _ (some 18) _) _
        simp only [Act.put, List.setIfInBounds_toArray, List.set_cons_zero, List.set_cons_succ]
        refine wpAnyH_take (i := 1) (v := ?_) rfl (by kernel_rfl) (by kernel_rfl) (by kernel_rfl) (fun _ _ _ h => h) (Or.inl ⟨by rfl, ?_⟩) HH.out ?_
        rotate_left
        · intro w hSw; go_simp; try with_reducible rfl
        change wpAnyH _ _ _ _ _ _ _ (Act.put _ (some 19) _) _
        simp only [Act.put, List.setIfInBounds_toArray, List.set_cons_zero, List.set_cons_succ]
        refine wpAnyH_take (i := 2) (v := ?_) rfl (by kernel_rfl) (by kernel_rfl) (by kernel_rfl) (fun _ _ _ h => h) (Or.inl ⟨by rfl, ?_⟩) HH.out ?_
        rotate_left
        · intro w hSw; go_simp; try with_reducible rfl
        change wpAnyH _ _ _ _ _ _ _ (Act.put _ (some 20) _) _
        simp only [Act.put, List.setIfInBounds_toArray, List.set_cons_zero, List.set_cons_succ]
        refine wpAnyH_take (i := 3) rfl (by kernel_rfl) (by kernel_rfl) (by kernel_rfl) (fun _ _ _ h => h) (yields_A (by rfl) rfl rfl (fun W hW => hW.2.1) hLa hri.aLt (by decide)) HH.out ?_
        change wpAnyH _ _ _ _ _ _ _ (Act.put _ (some 21) _) _
        simp only [Act.put, List.setIfInBounds_toArray, List.set_cons_zero, List.set_cons_succ]
        refine wpAnyH_take (i := 4) (v := ?_) rfl (by kernel_rfl) (by kernel_rfl) (by kernel_rfl) (fun _ _ _ h => h) (Or.inl ⟨by rfl, ?_⟩) HH.out ?_
        rotate_left
        · intro w hSw; go_simp; try with_reducible rfl
        change wpAnyH _ _ _ _ _ _ _ (Act.put _ (some 22) _) _
        simp only [Act.put, List.setIfInBounds_toArray, List.set_cons_zero, List.set_cons_succ]
        refine wpAnyH_take (i := 5) rfl (by kernel_rfl) (by kernel_rfl) (by kernel_rfl) (fun _ _ _ h => h) (yieldsIf_load1 (by rfl) _ _ rfl _ _ rfl onet29 _ (fun w hSw => (hSw.2.1).cellE (by decide) hL20)) HH.out ?_
        change wpAnyH _ _ _ _ _ _ _ (Act.put _ (some 23) _) _
        simp only [Act.put, List.setIfInBounds_toArray, List.set_cons_zero, List.set_cons_succ]
        refine wpAnyH_take (i := 7) (v := ?_) rfl (by kernel_rfl) (by kernel_rfl) (by kernel_rfl) (fun _ _ _ h => h) (Or.inl ⟨by rfl, ?_⟩) HH.out ?_
        rotate_left
        · intro w hSw; go_simp; try with_reducible rfl
        change wpAnyH _ _ _ _ _ _ _ (Act.put _ (some 25) _) _
        simp only [Act.put, List.setIfInBounds_toArray, List.set_cons_zero, List.set_cons_succ]
        refine wpAnyH_take (i := 8) rfl (by kernel_rfl) (by kernel_rfl) (by kernel_rfl) (fun _ _ _ h => h) (yieldsIf_load1 (by rfl) _ _ rfl _ _ rfl onet32 _ (fun w hSw => (hSw.2.1).cellE (by decide) hL21)) HH.out ?_
        change wpAnyH _ _ _ _ _ _ _ (Act.put _ (some 26) _) _
        simp only [Act.put, List.setIfInBounds_toArray, List.set_cons_zero, List.set_cons_succ]
        refine wpAnyH_ready (rs := [6]) (by kernel_rfl) (by simp) ?_
        refine AllReadyH.cons rfl (fun K hK => ?_) AllReadyH.nil
        go_simp
        go_at_call 41; refine (HWo _ HH.out.1 HH.out.2.2).mono ?_; rintro e w5 ⟨tv', rfl, ht', he⟩
        refine hK.out _ _ ?_ (fun hHeld => ?_)
        · exact ⟨HH.out.1.trans he, HH.out.2.1.ext he, Nat.le_trans HH.out.2.2 he.size⟩
        clear hK K HH
        have HH : Hid ((Ext w (_) ∧ Blk (_) L 22 141 cL ∧ W1.heap.size ≤ (_ : World).heap.size)) := hHeld
        clear hHeld
        refine wpAnyH_ready (rs := [9]) (by kernel_rfl) (by simp) ?_
        refine AllReadyH.cons rfl (fun K hK => ?_) AllReadyH.nil
        go_simp
        go_at_call 36; refine (HDo _ HH.out.1 HH.out.2.2).mono ?_; rintro e w6 ⟨dv', rfl, hd', he⟩
        refine hK.out _ _ ?_ (fun hHeld => ?_)
        · exact ⟨HH.out.1.trans he, HH.out.2.1.ext he, Nat.le_trans HH.out.2.2 he.size⟩
        clear hK K HH
        have HH : Hid ((Ext w (_) ∧ Blk (_) L 22 141 cL ∧ W1.heap.size ≤ (_ : World).heap.size)) := hHeld
        clear hHeld
        refine wpAnyH_take (i := 10) rfl (by kernel_rfl) (by kernel_rfl) (by kernel_rfl) (fun _ _ _ h => h) (yields_build (by rfl) rfl (b132t hri.aLt ht'.one' hd'.one') (by simp [Act.eval])) HH.out ?_
        change wpAnyH _ _ _ _ _ _ _ (Act.put _ (some 28) _) _
        simp only [Act.put, List.setIfInBounds_toArray, List.set_cons_zero, List.set_cons_succ]
        refine wpAnyH_take (i := 11) (v := ?_) rfl (by kernel_rfl) (by kernel_rfl) (by kernel_rfl) (fun _ _ _ h => h) (Or.inl ⟨by rfl, ?_⟩) HH.out ?_
        rotate_left
        · intro w hSw; go_simp; try with_reducible rfl
        change wpAnyH _ _ _ _ _ _ _ (Act.put _ (some 29) _) _
        simp only [Act.put, List.setIfInBounds_toArray, List.set_cons_zero, List.set_cons_succ]
        refine wpAnyH_ready (rs := [12]) (by kernel_rfl) (by simp) ?_
        refine AllReadyH.cons rfl (fun K hK => ?_) AllReadyH.nil
        refine step_any rfl (op_storeRow rfl rt132 rfl rfl (lgV_size hri.aLt _ _) (lgV_ones hri.aLt ht'.one' hd'.one') (bc.ext (by (repeat (first | with_reducible exact Ext.refl _ | with_reducible assumption | refine Ext.trans ?_ (by with_reducible assumption) | refine Ext.alloc ?_ _ _ | refine Ext.drew ?_ | refine Ext.drewN ?_ _)))) (by omega) ?_)
        rintro W9 b9 m9
        refine hK.out _ _ ?_ (fun hHeld => ?_)
        · exact ⟨Ext.trans_mod HH.out.1 m9 (fun q hq => by have hq2 : q = B := hq; rw [hq2]; exact g1), HH.out.2.1.mod m9 hLB, Nat.le_trans HH.out.2.2 m9.size⟩
        clear hK K HH
        have HH : Hid ((Ext w (_) ∧ Blk (_) L 22 141 cL ∧ W1.heap.size ≤ (_ : World).heap.size)) := hHeld
        clear hHeld
        change wpAnyH _ _ _ _ _ _ _ (Act.put _ none _) _
        simp only [Act.put, List.setIfInBounds_toArray, List.set_cons_zero, List.set_cons_succ]
        refine wpAnyH_done (by kernel_rfl) ?_ _
        go_wp2
        go_roundw
        case rel =>
          have h9 := hi1.out
          have h46 : Ext W4 w6 := by (repeat (first | with_reducible exact Ext.refl _ | with_reducible assumption | refine Ext.trans ?_ (by with_reducible assumption) | refine Ext.alloc ?_ _ _ | refine Ext.drew ?_ | refine Ext.drewN ?_ _))
          have hwr : Ext wr w6 := (Ext.trans_mod e3 m4 (fun q hq => by have hq2 : q = L := hq; rw [hq2]; exact g3)).trans h46
          have h56 : Ext w5 w6 := by (repeat (first | with_reducible exact Ext.refl _ | with_reducible assumption | refine Ext.trans ?_ (by with_reducible assumption) | refine Ext.alloc ?_ _ _ | refine Ext.drew ?_ | refine Ext.drewN ?_ _))
          have hne : ∀ x, ¬ Wd O B x → ¬ x = B := fun x hx q => hx (Or.inr q)
          refine ⟨i1, _, rfl, by omega, b9, ?_, HH.out.1, HH.out.2.2⟩
          show ∀ (k : Nat) (_ : k < i1) (h2 : k < l.length), LgC (Wd O B) W9 (layv c (i * 22) (lgV l[i].addr tv' dv')) (k * 22) l[k]
          intro k hk h2
          by_cases e : k = i
          · subst e
            exact lgV_lay hri.aLt ((ht'.ext h56).keep m9 hne) hri.few (hd'.keep m9 hne)
          · refine (((hdone.out k (by omega) h2).ext hwr).keep m9 hne).cells (fun j hj => ?_)
            rw [layv_off _ _ _ _ (by rw [lgV_size hri.aLt]; omega)]
        case measure => have h9 := hi1.out; simp [intOf]; omega
      · have z1 : ¬ (i : Int) < l.length := by omega
        obtain rfl : i = l.length := by omega
        go_wp2
        go_ret
        exact ⟨_, rfl, Or.inr ⟨B, l.length, c, rfl, Nat.le_refl _, by omega, bc, fun q => Nat.lt_irrefl _ (Nat.lt_of_lt_of_le (hO _ q) g1), fun k hk => (hdone.out k hk hk).thin⟩, fun _ _ _ e => by injection e with _ e2 e3; omega, hE⟩
end
end Go.Proofs.YgvahwGreat
