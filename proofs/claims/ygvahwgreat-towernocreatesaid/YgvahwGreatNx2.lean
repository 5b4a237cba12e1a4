import Derived.Test.YgvahwGreatNx1
import Derived.Test.YgvahwGreatYb6
import Derived.Test.YgvahwGreatYpH
import Derived.Test.YgvahwGreatYpL
import Derived.Test.YgvahwGreatYpS
import Derived.Test.YgvahwGreatTk
import Derived.Test.YgvahwGreatYi0
import Derived.Test.YgvahwGreatYm3
import Derived.Test.YgvahwGreatVaTb0
namespace Go.Proofs.YgvahwGreat
open Go.RowKit
set_option linter.unusedSimpArgs false
theorem meas_ltx {n j j2 : Nat} (h9 : j + 1 = j2) (h : j < n) : n - (intOf (.int .i64 (j2 : Nat))).toNat < n - (intOf (.int .i64 (j : Nat))).toNat := by
  simp only [intOf, Int.toNat_natCast]; omega
theorem onet96x : OneT 109 := oneT_of (by kernel_rfl) (by kernel_rfl)
theorem ISlC.cellsX {c c' : Nat → Value} {o : Nat} {x : Nat × Nat} (hc : ∀ j, j < 64 → c' (o + j) = c (o + j)) (h : ISlC c o x) : ISlC c' o x :=
  ⟨h.key.sameS h.kLt (fun j hj => hc j (by omega)), h.kLt, h.val.sameS h.vLt (fun j hj => by have := hc (32 + j) (by omega); rw [← Nat.add_assoc] at this; exact this), h.vLt⟩
theorem joinX6 {P Fc : Nat → World → Value → Prop} {G : Prop} (h : (∀ B W u, Fc B W u → P B W u) → G) (k : ∀ B W u, Fc B W u → P B W u) : G := h k
theorem zero116x : zeroOf Hvah.prog 125 = some #[.slice none 0 0, .slice none 0 0] := by kernel_rfl
theorem post_11 {R : Ending → World → Prop} {ac : Act} {w : World} {v : Value} (hv : ac.tmps.getD 2 undef = v) (hdf : ac.defers = []) (h : R (.returned v) w) : bodyPost Hvah.prog Hvah.f15 R .ret ac w := by
  subst hv; exact bodyPost_ret (results_tmp rfl _ _ _) hdf h
theorem joinX4 {P Fc : World → Value → Nat → Prop} {G : Prop} (h : (∀ W u v, Fc W u v → P W u v) → G) (k : ∀ W u v, Fc W u v → P W u v) : G := h k
theorem onet93x : OneT 106 := oneT_of (by kernel_rfl) (by kernel_rfl)
theorem onet106x : OneT 119 := oneT_of (by kernel_rfl) (by kernel_rfl)
theorem onet32x : OneT 23 := oneT_of (by kernel_rfl) (by kernel_rfl)
theorem rt108x : RowT 121 24 := rowT_of (by kernel_rfl) (by kernel_rfl)
/-- An account as it is handed out. -/
def YA.out (x : YA) : IAcct := ⟨x.addr, x.nonce, x.bal, x.code, x.slots⟩
def exL (l : List YA) : List IAcct := (l.filter fun x => !x.empty).map YA.out
theorem exL_yes {l : List YA} {i : Nat} (hi : i < l.length) (h : l[i].empty = false) : exL (l.take (i + 1)) = exL (l.take i) ++ [l[i].out] := by
  unfold exL
  rw [List.take_succ_eq_append_getElem hi, List.filter_append, List.map_append]
  simp [h]
theorem exL_no {l : List YA} {i : Nat} (hi : i < l.length) (h : l[i].empty = true) : exL (l.take (i + 1)) = exL (l.take i) := by
  unfold exL
  rw [List.take_succ_eq_append_getElem hi, List.filter_append, List.map_append]
  simp [h]
theorem exL_len (l : List YA) (i : Nat) : (exL (l.take i)).length ≤ l.length := by
  unfold exL
  rw [List.length_map]
  exact Nat.le_trans (List.length_filter_le _ _) (by rw [List.length_take]; omega)
theorem rowOf_cfx {r : Array Value} {n : Nat} (hr : r.size = n) : rowOf (cf r) 0 n = r := by
  apply Array.ext_getElem?
  intro i
  rw [rowOf_get]
  by_cases q : i < n
  · rw [if_pos q, Nat.zero_add, get_cf (by rw [hr]; exact q)]
  · rw [if_neg q, Array.getElem?_eq_none (by rw [hr]; omega)]
theorem iaR_upd {a b : Nat} (ha : a < 2 ^ 160) (hb : b < P256) (n : Nat) (u v v' : Value) (j : Nat) (hj : j < 55) : cf (iaR a n b u v') j = updv (cf (iaR a n b u v)) 54 v' j := by
  obtain ⟨k1, k2, k3, k4, k5⟩ := iaR_cf ha hb n u v
  obtain ⟨g1, g2, g3, g4, g5⟩ := iaR_cf ha hb n u v'
  by_cases q : j = 54
  · subst q; rw [updv_same]; exact g5
  rw [updv_ne _ _ q]
  by_cases q1 : j < 20
  · rw [k1 j q1, g1 j q1]
  by_cases q2 : j = 20
  · subst q2; rw [k2, g2]
  by_cases q3 : j < 53
  · obtain ⟨i, rfl⟩ : ∃ i, j = 21 + i := ⟨j - 21, by omega⟩
    rw [k3 i (by omega), g3 i (by omega)]
  · obtain rfl : j = 53 := by omega
    rw [k4, g4]
theorem iaR_lay {z : Nat → Value} {a b : Nat} (ha : a < 2 ^ 160) (hb : b < P256) (n : Nat) (u v : Value) (j : Nat) (hj : j < 55) : cf (iaR a n b u v) j = layv z 0 (iaR a n b u v) j := by
  have := layv_in z 0 (iaR a n b u v) (j := j) (by rw [iaR_size ha hb]; exact hj)
  rw [Nat.zero_add] at this
  exact this.symm
theorem OC.small {α : Type} {O T : Nat → Prop} {w : World} {v : Value} {ty : TypeId} {sz : Nat} {R : (Nat → Value) → Nat → α → Prop} {l : List α} (hO : Small O w) (h : GRow ty sz R T w v l) : Small (OC O v) w := fun b hb => by
  rcases hb with hb | hb
  · exact hO b hb
  · rcases h with ⟨_, rfl⟩ | ⟨b', cap, c, h1, h2, h3, h4, h5, h6⟩
    · exact absurd hb (curB_nil b)
    · rw [CurB.eq h1 hb]; exact h4.lt
theorem zero114b : zeroOf Hvah.prog 58 = some z114x := z114xq
theorem grow_onex {α : Type} {T : Nat → Prop} {w : World} {v : Value} {ty : TypeId} {sz : Nat} {R : (Nat → Value) → Nat → α → Prop} {l : List α} (h : GRow ty sz R T w v l) : v.oneCell' = true := by
  rcases h with ⟨_, rfl⟩ | ⟨b', cap, c, h1, _⟩
  · rfl
  · rw [h1]; rfl
section
variable {O : Nat → Prop} {w : World} {Y : Nat} {c : Nat → Value} {l : List YA}
set_option maxRecDepth 100000 in
set_option maxHeartbeats 6400000 in
theorem yExport (hO : Small O w) (bY : Blk w Y 179 118 c) (hacc : AccL O w (c 0) l) (hll : l.length ≤ 90000) (hlim : ∀ x ∈ l, x.nonce < 18446744073709551616 ∧ x.bal < P256 ∧ x.slots.length ≤ 90000 ∧ ∀ s ∈ x.slots, s.1 < P256 ∧ s.2 < P256) : Calls Hvah.prog 15 #[.pointer (some ⟨Y, 0, none⟩)] w fun e w' => ∃ v, e = .returned v ∧ EL 55 (IAcC O w') O w' v (exL l) ∧ Ext w w' := by
  obtain ⟨obase, ocap, hav, hocap⟩ := hacc.slice
  have hYl := bY.lt
  go_enter Hvah.func15, Hvah.ntmps15
  go_upto_block 0 with ((with_reducible (refine Veil.out ?_; apply wl_loadC onet93x)); (case hw => rfl); (case hx => rfl); (case hc => exact (bY.cell (i := 0) (by decide)).trans (congrArg some hav)))
  try simp only [Act.put]
  go_cut [3] (fun v wx => GRow 58 55 (IAcC (OC O v) wx) (fun b => w.heap.size ≤ b) wx v (exL l) ∧ Ext w wx)
  case first =>
    go_upto_region 3 with (fail)
    try simp only [Act.put]
    go_loopw [16, 3] (fun iv v wr => ∃ (i : Nat), iv = .int .i64 (i : Nat) ∧ i ≤ l.length ∧ GRow 58 55 (IAcC (OC O v) wr) (fun b => w.heap.size ≤ b) wr v (exL (l.take i)) ∧ Ext w wr) (fun iv _ _ => l.length - (intOf iv).toNat)
    case atStart => exact ⟨0, rfl, Nat.zero_le _, Or.inl ⟨rfl, rfl⟩, Ext.refl _⟩
    case round =>
      obtain ⟨i, rfl, hi, hGr, hm⟩ := hrel
      obtain ⟨v, ev⟩ : ∃ z, z = u3 := ⟨_, rfl⟩
      subst ev
      rcases Nat.lt_or_ge i l.length with hlt | hge
      · have z1 : (i : Int) < l.length := by omega
        rcases hacc with ⟨rfl, _⟩ | ⟨b0, cap0, cs, hv0', hc1, hc2, hb0, hOb0, hrow0⟩
        · simp at hlt
        rw [hav] at hv0'
        injection hv0' with q1 q2 q3
        clear q2
        subst q1
        subst q3
        have hri := hrow0 i hlt
        obtain ⟨x, hx⟩ : ∃ x, Hid (l[i] = x) := ⟨l[i], rfl⟩
        obtain ⟨hx1, hx2, hx3, hx4⟩ := hlim l[i] (List.getElem_mem _)
        have hexY := fun q => exL_yes hlt q
        have hexN := fun q => exL_no hlt q
        have hexl := exL_len l i
        rw [hx.out] at hri hx1 hx2 hx3 hx4 hexY hexN
        have hax := hri.parts.aLt
        obtain ⟨so, sc, hsv, hsc⟩ := hri.parts.slots.slice
        have hsl2 := hri.parts.slots
        have hones : Ones (rowOf cs (i * 24) 24) := ones_of (fun q hq => by
          rw [rowOf_size] at hq
          rw [cf_rowOf _ _ _ hq]
          by_cases q20 : q < 20
          · exact aat_one hri.addr hax q q20
          rcases (show q = 20 ∨ q = 21 ∨ q = 22 ∨ q = 23 by omega) with rfl | rfl | rfl | rfl
          · exact hri.parts.nonce.one
          · exact hri.parts.bal.one
          · exact hri.parts.code.one
          · rw [hsv]; rfl)
        obtain ⟨i1, hi1⟩ : ∃ z : Nat, Hid ((i + 1 : Nat) = z) := ⟨_, rfl⟩
        have j1 : IntKind.i64.wrap ((i : Int) + 1) = (i1 : Int) := by rw [IntKind.wrap_i64, ← hi1.out]; omega
        have hb0r := hb0.ext hm
        obtain ⟨z8, hz81, hz82⟩ := z108m
        go_upto_region 5 with (first | ((with_reducible (refine Veil.out ?_; apply wl_loadRow rt108x)); (case hx => rfl); (case hB => exact hb0r); (case hi => omega)) | ((with_reducible (refine Veil.out ?_; apply wl_allocB hz81)); (case hn => exact hz82); rintro L W3 e3 b3 g3) | ((with_reducible (refine Veil.out ?_; apply wl_storeRow rt108x)); (case hx => rfl); (case hy => rfl); (case hr => exact rowOf_size _ _ _); (case h1 => exact hones); (case hB => exact b3); (case hi => decide); rintro W4 b4 m4))
        have hE0 : Ext wr W4 := Ext.trans_mod e3 m4 (fun q hq => by have hq2 : q = L := hq; rw [hq2]; exact g3)
        obtain ⟨cL, hcL⟩ : ∃ z, Hid (layv (cf z8) 0 (rowOf cs (i * 24) 24) = z) := ⟨_, rfl⟩
        have hLc : ∀ j, j < 24 → cL j = cs (i * 24 + j) := fun j hj => by
          rw [← hcL.out]
          have := layv_in (cf z8) 0 (rowOf cs (i * 24) 24) (j := j) (by rw [rowOf_size]; exact hj)
          rw [Nat.zero_add] at this
          rw [this, cf_rowOf _ _ _ hj]
        rw [hcL.out] at b4
        have hL23 : cL 23 = .slice so x.slots.length sc := by rw [hLc 23 (by decide)]; exact hsv
        have hE4 : Ext w W4 := hm.trans hE0
        have hri4 : YAC O W4 cL 0 x := ⟨fun j u hu => by
          have hj := (Array.getElem?_eq_some_iff.1 hu).1
          rw [av_size hax] at hj
          rw [Nat.zero_add, hLc j (by omega)]
          exact hri.addr j u hu, by
          rw [Nat.zero_add, Nat.zero_add, Nat.zero_add, Nat.zero_add, hLc 20 (by decide), hLc 21 (by decide), hLc 22 (by decide), hLc 23 (by decide)]; exact hri.parts.ext hE4⟩
        have hLa : AAt cL 0 x.addr := hri4.addr
        have hLp : AcP O W4 x (cL 20) (cL 21) (cL 22) (cL 23) := hri4.parts
        have hrow4 := hri4.row b4 (by decide)
        rw [Nat.zero_add, Nat.zero_add, Nat.zero_add, Nat.zero_add] at hrow4
        have hG4 : GRow 58 55 (IAcC (OC O v) W4) (fun b => w.heap.size ≤ b) W4 v (exL (l.take i)) := hGr.ext hE0 (fun _ _ _ k => k.ext hE0)
        rw [hsv] at hsl2
        replace hsl2 := (hsl2.ext hE4)
        have HEm := fun W' (hW : Ext W4 W') => yEmpty (fun i v hv => (hW.rc _ _ b4.lt).trans (hrow4 i v hv)) (hLp.ext hW)
        have hm' := hm
        clear b3 m4 e3 hcL hLc hri hri4 hsv hones hGr hb0r hb0 hrow0 hm hlim hrow4
        obtain ⟨LX, hLX⟩ : ∃ z, Hid (exL (l.take i) = z) := ⟨_, rfl⟩
        rw [hLX.out] at hG4 hexl hexY hexN
        obtain ⟨em, hem⟩ : ∃ z, Hid (x.empty = z) := ⟨_, rfl⟩
        rw [hem.out] at HEm hexY hexN
        cases em with
        | true =>
          replace hexN := (show Hid _ from hexN rfl)
          clear hexY
          go_wp2_with (go_at_call 33; refine (HEm _ (by (repeat (first | with_reducible exact Ext.refl _ | with_reducible assumption | refine Ext.trans ?_ (by with_reducible assumption) | refine Ext.alloc ?_ _ _ | refine Ext.drew ?_ | refine Ext.drewN ?_ _)))).mono ?_; rintro e w5 ⟨rfl, he5⟩)
          go_roundw
          case rel =>
            have h9 := hi1.out
            refine ⟨i1, rfl, by rw [← h9]; exact hlt, ?_, hE4.trans he5⟩
            rw [← h9, hexN.out]
            exact hG4.ext he5 (fun _ _ _ k => k.ext he5)
          case measure => exact meas_ltx hi1.out hlt
        | false =>
          replace hexY := (show Hid _ from hexY rfl)
          clear hexN
          go_upto_region 6 with (go_at_call 33; refine (HEm _ (by (repeat (first | with_reducible exact Ext.refl _ | with_reducible assumption | refine Ext.trans ?_ (by with_reducible assumption) | refine Ext.alloc ?_ _ _ | refine Ext.drew ?_ | refine Ext.drewN ?_ _)))).mono ?_; rintro e w5 ⟨rfl, he5⟩)
          have hE5 : Ext w w5 := hE4.trans he5
          have bL5 := b4.ext he5
          have hG5 : GRow 58 55 (IAcC (OC O v) w5) (fun b => w.heap.size ≤ b) w5 v LX := hG4.ext he5 (fun _ _ _ k => k.ext he5)
          have hLp5 := hLp.ext he5
          have hOC : Small (OC O v) w5 := OC.small (hO.ext hE5) hG5
          have hsl5 : SloL O w5 (.slice so x.slots.length sc) x.slots := hsl2.ext he5
          clear hG4 hLp b4 HEm he5 hsl2
          refine w_ext ?_
          rintro W0 hW0
          refine' joinX6 (P := _) (Fc := fun BX W8 rc => Ext W0 W8 ∧ W0.heap.size ≤ BX ∧ Blk W8 BX 55 58 (layv (cf z114x) 0 (iaR x.addr x.nonce x.bal rc (.slice none 0 0))) ∧ NL (Wd (OC O v) BX) W8 rc x.code) (fun key => _) _
          rotate_left
          refine wp_region_held_drew (S := fun w' => Ext W0 w') (by kernel_rfl) (Ext.refl _).drew (fun hHeld => ?_)
          have HH : Hid (Ext W0 _) := hHeld
          clear hHeld
          refine wpAnyH_take (i := 0) (v := ?_) rfl (by kernel_rfl) (by kernel_rfl) (by kernel_rfl) (fun _ _ _ h => h) (Or.inl ⟨by rfl, ?_⟩) HH.out ?_
          rotate_left
          · intro w hSw; go_simp; try with_reducible rfl
          change wpAnyH _ _ _ _ _ _ _ (Act.put _ (some 21) _) _
          simp only [Act.put, List.setIfInBounds_toArray, List.set_cons_zero, List.set_cons_succ]
          refine wpAnyH_take (i := 1) rfl (by kernel_rfl) (by kernel_rfl) (by kernel_rfl) (fun _ _ _ h => h) (yields_A (by rfl) rfl rfl (fun w hSw => bL5.ext (hW0.trans hSw)) hLa hax (by decide)) HH.out ?_
          change wpAnyH _ _ _ _ _ _ _ (Act.put _ (some 22) _) _
          simp only [Act.put, List.setIfInBounds_toArray, List.set_cons_zero, List.set_cons_succ]
          refine wpAnyH_take (i := 2) (v := ?_) rfl (by kernel_rfl) (by kernel_rfl) (by kernel_rfl) (fun _ _ _ h => h) (Or.inl ⟨by rfl, ?_⟩) HH.out ?_
          rotate_left
          · intro w hSw; go_simp; try with_reducible rfl
          change wpAnyH _ _ _ _ _ _ _ (Act.put _ (some 23) _) _
          simp only [Act.put, List.setIfInBounds_toArray, List.set_cons_zero, List.set_cons_succ]
          refine wpAnyH_take (i := 3) rfl (by kernel_rfl) (by kernel_rfl) (by kernel_rfl) (fun _ _ _ h => h) (yieldsIf_load1 (by rfl) _ _ rfl _ _ rfl onet96x _ (fun w hSw => (bL5.ext (hW0.trans hSw)).cell (by decide))) HH.out ?_
          change wpAnyH _ _ _ _ _ _ _ (Act.put _ (some 24) _) _
          simp only [Act.put, List.setIfInBounds_toArray, List.set_cons_zero, List.set_cons_succ]
          refine wpAnyH_take (i := 5) (v := ?_) rfl (by kernel_rfl) (by kernel_rfl) (by kernel_rfl) (fun _ _ _ h => h) (Or.inl ⟨by rfl, ?_⟩) HH.out ?_
          rotate_left
          · intro w hSw; go_simp; try with_reducible rfl
          change wpAnyH _ _ _ _ _ _ _ (Act.put _ (some 26) _) _
          simp only [Act.put, List.setIfInBounds_toArray, List.set_cons_zero, List.set_cons_succ]
          refine wpAnyH_take (i := 6) rfl (by kernel_rfl) (by kernel_rfl) (by kernel_rfl) (fun _ _ _ h => h) (yieldsIf_load1 (by rfl) _ _ rfl _ _ rfl onet96x _ (fun w hSw => (bL5.ext (hW0.trans hSw)).cell (by decide))) HH.out ?_
          change wpAnyH _ _ _ _ _ _ _ (Act.put _ (some 27) _) _
          simp only [Act.put, List.setIfInBounds_toArray, List.set_cons_zero, List.set_cons_succ]
          refine wpAnyH_take (i := 8) (v := ?_) rfl (by kernel_rfl) (by kernel_rfl) (by kernel_rfl) (fun _ _ _ h => h) (Or.inl ⟨by rfl, ?_⟩) HH.out ?_
          rotate_left
          · intro w hSw; go_simp; try with_reducible rfl
          change wpAnyH _ _ _ _ _ _ _ (Act.put _ (some 29) _) _
          simp only [Act.put, List.setIfInBounds_toArray, List.set_cons_zero, List.set_cons_succ]
          refine wpAnyH_take (i := 9) rfl (by kernel_rfl) (by kernel_rfl) (by kernel_rfl) (fun _ _ _ h => h) (yieldsIf_load1 (by rfl) _ _ rfl _ _ rfl onet32x _ (fun w hSw => (bL5.ext (hW0.trans hSw)).cell (by decide))) HH.out ?_
          change wpAnyH _ _ _ _ _ _ _ (Act.put _ (some 30) _) _
          simp only [Act.put, List.setIfInBounds_toArray, List.set_cons_zero, List.set_cons_succ]
          refine wpAnyH_ready (rs := [4, 12]) (by kernel_rfl) (by simp) ?_
          refine (AllReadyH.cons rfl (fun K hK => ?_) (AllReadyH.cons rfl (fun K hK => ?_) AllReadyH.nil))
          go_simp
          go_at_call 34; refine (ySmall (hLp5.nonce.ext (by (repeat (first | with_reducible exact Ext.refl _ | with_reducible assumption | refine Ext.trans ?_ (by with_reducible assumption) | refine Ext.alloc ?_ _ _ | refine Ext.drew ?_ | refine Ext.drewN ?_ _))))).mono ?_; rintro e wa ⟨rfl, ew⟩; rw [if_pos hx1]; subst ew
          refine hK.out _ _ ?_ (fun hHeld => ?_)
          · first | exact HH.out.trans hmY | exact HH.out.trans he | exact HH.out
          clear hK K HH
          have HH : Hid (Ext W0 _) := hHeld
          clear hHeld
          refine wpAnyH_ready (rs := [7, 12]) (by kernel_rfl) (by simp) ?_
          refine (AllReadyH.cons rfl (fun K hK => ?_) (AllReadyH.cons rfl (fun K hK => ?_) AllReadyH.nil))
          go_simp
          go_at_call 35; refine (yWord _ _ _ (hLp5.bal.ext (by (repeat (first | with_reducible exact Ext.refl _ | with_reducible assumption | refine Ext.trans ?_ (by with_reducible assumption) | refine Ext.alloc ?_ _ _ | refine Ext.drew ?_ | refine Ext.drewN ?_ _)))) hx2).mono ?_; rintro e wb ⟨rfl, he⟩
          refine hK.out _ _ ?_ (fun hHeld => ?_)
          · first | exact HH.out.trans hmY | exact HH.out.trans he | exact HH.out
          clear hK K HH
          have HH : Hid (Ext W0 _) := hHeld
          clear hHeld
          refine wpAnyH_ready (rs := [10, 12]) (by kernel_rfl) (by simp) ?_
          refine (AllReadyH.cons rfl (fun K hK => ?_) (AllReadyH.cons rfl (fun K hK => ?_) AllReadyH.nil))
          go_simp
          go_at_call 36; refine (yBytesOf2 (hOC.ext (by (repeat (first | with_reducible exact Ext.refl _ | with_reducible assumption | refine Ext.trans ?_ (by with_reducible assumption) | refine Ext.alloc ?_ _ _ | refine Ext.drew ?_ | refine Ext.drewN ?_ _)))) (hLp5.code.ext (by (repeat (first | with_reducible exact Ext.refl _ | with_reducible assumption | refine Ext.trans ?_ (by with_reducible assumption) | refine Ext.alloc ?_ _ _ | refine Ext.drew ?_ | refine Ext.drewN ?_ _))))).mono ?_; rintro e wd ⟨rc, rfl, hrc, he⟩
          refine hK.out _ _ ?_ (fun hHeld => ?_)
          · first | exact HH.out.trans hmY | exact HH.out.trans he | exact HH.out
          clear hK K HH
          have HH : Hid (Ext W0 _) := hHeld
          clear hHeld
          refine wpAnyH_take (i := 11) rfl (by kernel_rfl) (by kernel_rfl) (by kernel_rfl) (fun _ _ _ h => h) (yields_build (ps := [(0, .agg (av x.addr)), (1, .int .u64 (x.nonce : Nat)), (2, .agg (bw x.bal)), (3, rc)]) (by rfl) rfl (b114x hax hx2 hrc.one) (by simp [Act.eval])) HH.out ?_
          change wpAnyH _ _ _ _ _ _ _ (Act.put _ (some 32) _) _
          simp only [Act.put, List.setIfInBounds_toArray, List.set_cons_zero, List.set_cons_succ]
          refine wpAnyH_ready (rs := [12]) (by kernel_rfl) (by simp) ?_
          refine AllReadyH.cons rfl (fun K hK => ?_) AllReadyH.nil
          refine step_any rfl (op_alloc rfl zero114b rfl ?_)
          rintro BX W7 e7 b7 g7
          refine hK.out _ _ ?_ (fun hHeld => ?_)
          · exact HH.out.trans e7
          clear hK K HH
          have HH : Hid (Ext W0 _) := hHeld
          clear hHeld
          change wpAnyH _ _ _ _ _ _ _ (Act.put _ (some 6) _) _
          simp only [Act.put, List.setIfInBounds_toArray, List.set_cons_zero, List.set_cons_succ]
          refine wpAnyH_ready (rs := [13]) (by kernel_rfl) (by simp) ?_
          refine AllReadyH.cons rfl (fun K hK => ?_) AllReadyH.nil
          refine step_any rfl (op_storeRow rfl rt114x rfl rfl (iaR_size hax hx2 _ _ _) (iaR_one hrc.one rfl) (b7.ext (by (repeat (first | with_reducible exact Ext.refl _ | with_reducible assumption | refine Ext.trans ?_ (by with_reducible assumption) | refine Ext.alloc ?_ _ _ | refine Ext.drew ?_ | refine Ext.drewN ?_ _)))) (by decide) ?_)
          rintro W8 b8 m8
          refine hK.out _ _ ?_ (fun hHeld => ?_)
          · exact Ext.trans_mod HH.out m8 (fun q hq => by have hq2 : q = BX := hq; rw [hq2]; exact Nat.le_trans (Ext.size (by (repeat (first | with_reducible exact Ext.refl _ | with_reducible assumption | refine Ext.trans ?_ (by with_reducible assumption) | refine Ext.alloc ?_ _ _ | refine Ext.drew ?_ | refine Ext.drewN ?_ _)))) g7)
          clear hK K HH
          have HH : Hid (Ext W0 _) := hHeld
          clear hHeld
          change wpAnyH _ _ _ _ _ _ _ (Act.put _ none _) _
          simp only [Act.put, List.setIfInBounds_toArray, List.set_cons_zero, List.set_cons_succ]
          refine wpAnyH_done (by kernel_rfl) ?_ _
          (have hX : NL (Wd (OC O v) BX) W8 rc x.code := (by first | exact (NL.ext (O := Wd (OC O v) BX) hrc (by (repeat (first | with_reducible exact Ext.refl _ | with_reducible assumption | refine Ext.trans ?_ (by with_reducible assumption) | refine Ext.alloc ?_ _ _ | refine Ext.drew ?_ | refine Ext.drewN ?_ _)))).keep m8 (fun b hb q => hb (Or.inr q)) | exact ((hrc.widen (Nat.le_trans (Ext.size (by (repeat (first | with_reducible exact Ext.refl _ | with_reducible assumption | refine Ext.trans ?_ (by with_reducible assumption) | refine Ext.alloc ?_ _ _ | refine Ext.drew ?_ | refine Ext.drewN ?_ _)))) g7)).ext (by (repeat (first | with_reducible exact Ext.refl _ | with_reducible assumption | refine Ext.trans ?_ (by with_reducible assumption) | refine Ext.alloc ?_ _ _ | refine Ext.drew ?_ | refine Ext.drewN ?_ _)))).keep m8 (fun b hb q => hb (Or.inr q))); exact key BX W8 rc ⟨HH.out, Nat.le_trans (Ext.size (by (repeat (first | with_reducible exact Ext.refl _ | with_reducible assumption | refine Ext.trans ?_ (by with_reducible assumption) | refine Ext.alloc ?_ _ _ | refine Ext.drew ?_ | refine Ext.drewN ?_ _)))) g7, b8, hX⟩)
          refine step_any rfl (op_alloc rfl zero114b rfl ?_)
          rintro BX W7 e7 b7 g7
          refine hK.out _ _ ?_ (fun hHeld => ?_)
          · exact HH.out.trans e7
          clear hK K HH
          have HH : Hid (Ext W0 _) := hHeld
          clear hHeld
          change wpAnyH _ _ _ _ _ _ _ (Act.put _ (some 6) _) _
          simp only [Act.put, List.setIfInBounds_toArray, List.set_cons_zero, List.set_cons_succ]
          refine wpAnyH_ready (rs := [10]) (by kernel_rfl) (by simp) ?_
          refine AllReadyH.cons rfl (fun K hK => ?_) AllReadyH.nil
          go_simp
          go_at_call 36; refine (yBytesOf2 (O := Wd (OC O v) BX) (fun b hb => hb.elim (hOC.ext (by (repeat (first | with_reducible exact Ext.refl _ | with_reducible assumption | refine Ext.trans ?_ (by with_reducible assumption) | refine Ext.alloc ?_ _ _ | refine Ext.drew ?_ | refine Ext.drewN ?_ _))) b) (fun q => by rw [q]; exact (show Blk _ BX 55 58 _ from b7.ext (by (repeat (first | with_reducible exact Ext.refl _ | with_reducible assumption | refine Ext.trans ?_ (by with_reducible assumption) | refine Ext.alloc ?_ _ _ | refine Ext.drew ?_ | refine Ext.drewN ?_ _)))).lt)) (hLp5.code.ext (by (repeat (first | with_reducible exact Ext.refl _ | with_reducible assumption | refine Ext.trans ?_ (by with_reducible assumption) | refine Ext.alloc ?_ _ _ | refine Ext.drew ?_ | refine Ext.drewN ?_ _))))).mono ?_; rintro e wd ⟨rc, rfl, hrc, he⟩
          refine hK.out _ _ ?_ (fun hHeld => ?_)
          · first | exact HH.out.trans hmY | exact HH.out.trans he | exact HH.out
          clear hK K HH
          have HH : Hid (Ext W0 _) := hHeld
          clear hHeld
          refine wpAnyH_take (i := 11) rfl (by kernel_rfl) (by kernel_rfl) (by kernel_rfl) (fun _ _ _ h => h) (yields_build (ps := [(0, .agg (av x.addr)), (1, .int .u64 (x.nonce : Nat)), (2, .agg (bw x.bal)), (3, rc)]) (by rfl) rfl (b114x hax hx2 hrc.one) (by simp [Act.eval])) HH.out ?_
          change wpAnyH _ _ _ _ _ _ _ (Act.put _ (some 32) _) _
          simp only [Act.put, List.setIfInBounds_toArray, List.set_cons_zero, List.set_cons_succ]
          refine wpAnyH_ready (rs := [13]) (by kernel_rfl) (by simp) ?_
          refine AllReadyH.cons rfl (fun K hK => ?_) AllReadyH.nil
          refine step_any rfl (op_storeRow rfl rt114x rfl rfl (iaR_size hax hx2 _ _ _) (iaR_one hrc.one rfl) (b7.ext (by (repeat (first | with_reducible exact Ext.refl _ | with_reducible assumption | refine Ext.trans ?_ (by with_reducible assumption) | refine Ext.alloc ?_ _ _ | refine Ext.drew ?_ | refine Ext.drewN ?_ _)))) (by decide) ?_)
          rintro W8 b8 m8
          refine hK.out _ _ ?_ (fun hHeld => ?_)
          · exact Ext.trans_mod HH.out m8 (fun q hq => by have hq2 : q = BX := hq; rw [hq2]; exact Nat.le_trans (Ext.size (by (repeat (first | with_reducible exact Ext.refl _ | with_reducible assumption | refine Ext.trans ?_ (by with_reducible assumption) | refine Ext.alloc ?_ _ _ | refine Ext.drew ?_ | refine Ext.drewN ?_ _)))) g7)
          clear hK K HH
          have HH : Hid (Ext W0 _) := hHeld
          clear hHeld
          change wpAnyH _ _ _ _ _ _ _ (Act.put _ none _) _
          simp only [Act.put, List.setIfInBounds_toArray, List.set_cons_zero, List.set_cons_succ]
          refine wpAnyH_done (by kernel_rfl) ?_ _
          (have hX : NL (Wd (OC O v) BX) W8 rc x.code := (by first | exact (NL.ext (O := Wd (OC O v) BX) hrc (by (repeat (first | with_reducible exact Ext.refl _ | with_reducible assumption | refine Ext.trans ?_ (by with_reducible assumption) | refine Ext.alloc ?_ _ _ | refine Ext.drew ?_ | refine Ext.drewN ?_ _)))).keep m8 (fun b hb q => hb (Or.inr q)) | exact ((hrc.widen (Nat.le_trans (Ext.size (by (repeat (first | with_reducible exact Ext.refl _ | with_reducible assumption | refine Ext.trans ?_ (by with_reducible assumption) | refine Ext.alloc ?_ _ _ | refine Ext.drew ?_ | refine Ext.drewN ?_ _)))) g7)).ext (by (repeat (first | with_reducible exact Ext.refl _ | with_reducible assumption | refine Ext.trans ?_ (by with_reducible assumption) | refine Ext.alloc ?_ _ _ | refine Ext.drew ?_ | refine Ext.drewN ?_ _)))).keep m8 (fun b hb q => hb (Or.inr q))); exact key BX W8 rc ⟨HH.out, Nat.le_trans (Ext.size (by (repeat (first | with_reducible exact Ext.refl _ | with_reducible assumption | refine Ext.trans ?_ (by with_reducible assumption) | refine Ext.alloc ?_ _ _ | refine Ext.drew ?_ | refine Ext.drewN ?_ _)))) g7, b8, hX⟩)
          refine step_any rfl (op_alloc rfl zero114b rfl ?_)
          rintro BX W7 e7 b7 g7
          refine hK.out _ _ ?_ (fun hHeld => ?_)
          · exact HH.out.trans e7
          clear hK K HH
          have HH : Hid (Ext W0 _) := hHeld
          clear hHeld
          change wpAnyH _ _ _ _ _ _ _ (Act.put _ (some 6) _) _
          simp only [Act.put, List.setIfInBounds_toArray, List.set_cons_zero, List.set_cons_succ]
          refine wpAnyH_ready (rs := [7]) (by kernel_rfl) (by simp) ?_
          refine AllReadyH.cons rfl (fun K hK => ?_) AllReadyH.nil
          go_simp
          go_at_call 35; refine (yWord _ _ _ (hLp5.bal.ext (by (repeat (first | with_reducible exact Ext.refl _ | with_reducible assumption | refine Ext.trans ?_ (by with_reducible assumption) | refine Ext.alloc ?_ _ _ | refine Ext.drew ?_ | refine Ext.drewN ?_ _)))) hx2).mono ?_; rintro e wb ⟨rfl, he⟩
          refine hK.out _ _ ?_ (fun hHeld => ?_)
          · first | exact HH.out.trans hmY | exact HH.out.trans he | exact HH.out
          clear hK K HH
          have HH : Hid (Ext W0 _) := hHeld
          clear hHeld
          refine wpAnyH_ready (rs := [10]) (by kernel_rfl) (by simp) ?_
          refine AllReadyH.cons rfl (fun K hK => ?_) AllReadyH.nil
          go_simp
          go_at_call 36; refine (yBytesOf2 (O := Wd (OC O v) BX) (fun b hb => hb.elim (hOC.ext (by (repeat (first | with_reducible exact Ext.refl _ | with_reducible assumption | refine Ext.trans ?_ (by with_reducible assumption) | refine Ext.alloc ?_ _ _ | refine Ext.drew ?_ | refine Ext.drewN ?_ _))) b) (fun q => by rw [q]; exact (show Blk _ BX 55 58 _ from b7.ext (by (repeat (first | with_reducible exact Ext.refl _ | with_reducible assumption | refine Ext.trans ?_ (by with_reducible assumption) | refine Ext.alloc ?_ _ _ | refine Ext.drew ?_ | refine Ext.drewN ?_ _)))).lt)) (hLp5.code.ext (by (repeat (first | with_reducible exact Ext.refl _ | with_reducible assumption | refine Ext.trans ?_ (by with_reducible assumption) | refine Ext.alloc ?_ _ _ | refine Ext.drew ?_ | refine Ext.drewN ?_ _))))).mono ?_; rintro e wd ⟨rc, rfl, hrc, he⟩
          refine hK.out _ _ ?_ (fun hHeld => ?_)
          · first | exact HH.out.trans hmY | exact HH.out.trans he | exact HH.out
          clear hK K HH
          have HH : Hid (Ext W0 _) := hHeld
          clear hHeld
          refine wpAnyH_take (i := 11) rfl (by kernel_rfl) (by kernel_rfl) (by kernel_rfl) (fun _ _ _ h => h) (yields_build (ps := [(0, .agg (av x.addr)), (1, .int .u64 (x.nonce : Nat)), (2, .agg (bw x.bal)), (3, rc)]) (by rfl) rfl (b114x hax hx2 hrc.one) (by simp [Act.eval])) HH.out ?_
          change wpAnyH _ _ _ _ _ _ _ (Act.put _ (some 32) _) _
          simp only [Act.put, List.setIfInBounds_toArray, List.set_cons_zero, List.set_cons_succ]
          refine wpAnyH_ready (rs := [13]) (by kernel_rfl) (by simp) ?_
          refine AllReadyH.cons rfl (fun K hK => ?_) AllReadyH.nil
          refine step_any rfl (op_storeRow rfl rt114x rfl rfl (iaR_size hax hx2 _ _ _) (iaR_one hrc.one rfl) (b7.ext (by (repeat (first | with_reducible exact Ext.refl _ | with_reducible assumption | refine Ext.trans ?_ (by with_reducible assumption) | refine Ext.alloc ?_ _ _ | refine Ext.drew ?_ | refine Ext.drewN ?_ _)))) (by decide) ?_)
          rintro W8 b8 m8
          refine hK.out _ _ ?_ (fun hHeld => ?_)
          · exact Ext.trans_mod HH.out m8 (fun q hq => by have hq2 : q = BX := hq; rw [hq2]; exact Nat.le_trans (Ext.size (by (repeat (first | with_reducible exact Ext.refl _ | with_reducible assumption | refine Ext.trans ?_ (by with_reducible assumption) | refine Ext.alloc ?_ _ _ | refine Ext.drew ?_ | refine Ext.drewN ?_ _)))) g7)
          clear hK K HH
          have HH : Hid (Ext W0 _) := hHeld
          clear hHeld
          change wpAnyH _ _ _ _ _ _ _ (Act.put _ none _) _
          simp only [Act.put, List.setIfInBounds_toArray, List.set_cons_zero, List.set_cons_succ]
          refine wpAnyH_done (by kernel_rfl) ?_ _
          (have hX : NL (Wd (OC O v) BX) W8 rc x.code := (by first | exact (NL.ext (O := Wd (OC O v) BX) hrc (by (repeat (first | with_reducible exact Ext.refl _ | with_reducible assumption | refine Ext.trans ?_ (by with_reducible assumption) | refine Ext.alloc ?_ _ _ | refine Ext.drew ?_ | refine Ext.drewN ?_ _)))).keep m8 (fun b hb q => hb (Or.inr q)) | exact ((hrc.widen (Nat.le_trans (Ext.size (by (repeat (first | with_reducible exact Ext.refl _ | with_reducible assumption | refine Ext.trans ?_ (by with_reducible assumption) | refine Ext.alloc ?_ _ _ | refine Ext.drew ?_ | refine Ext.drewN ?_ _)))) g7)).ext (by (repeat (first | with_reducible exact Ext.refl _ | with_reducible assumption | refine Ext.trans ?_ (by with_reducible assumption) | refine Ext.alloc ?_ _ _ | refine Ext.drew ?_ | refine Ext.drewN ?_ _)))).keep m8 (fun b hb q => hb (Or.inr q))); exact key BX W8 rc ⟨HH.out, Nat.le_trans (Ext.size (by (repeat (first | with_reducible exact Ext.refl _ | with_reducible assumption | refine Ext.trans ?_ (by with_reducible assumption) | refine Ext.alloc ?_ _ _ | refine Ext.drew ?_ | refine Ext.drewN ?_ _)))) g7, b8, hX⟩)
          refine step_any rfl (op_alloc rfl zero114b rfl ?_)
          rintro BX W7 e7 b7 g7
          refine hK.out _ _ ?_ (fun hHeld => ?_)
          · exact HH.out.trans e7
          clear hK K HH
          have HH : Hid (Ext W0 _) := hHeld
          clear hHeld
          change wpAnyH _ _ _ _ _ _ _ (Act.put _ (some 6) _) _
          simp only [Act.put, List.setIfInBounds_toArray, List.set_cons_zero, List.set_cons_succ]
          refine wpAnyH_ready (rs := [4]) (by kernel_rfl) (by simp) ?_
          refine AllReadyH.cons rfl (fun K hK => ?_) AllReadyH.nil
          go_simp
          go_at_call 34; refine (ySmall (hLp5.nonce.ext (by (repeat (first | with_reducible exact Ext.refl _ | with_reducible assumption | refine Ext.trans ?_ (by with_reducible assumption) | refine Ext.alloc ?_ _ _ | refine Ext.drew ?_ | refine Ext.drewN ?_ _))))).mono ?_; rintro e wa ⟨rfl, ew⟩; rw [if_pos hx1]; subst ew
          refine hK.out _ _ ?_ (fun hHeld => ?_)
          · first | exact HH.out.trans hmY | exact HH.out.trans he | exact HH.out
          clear hK K HH
          have HH : Hid (Ext W0 _) := hHeld
          clear hHeld
          refine wpAnyH_ready (rs := [7]) (by kernel_rfl) (by simp) ?_
          refine AllReadyH.cons rfl (fun K hK => ?_) AllReadyH.nil
          go_simp
          go_at_call 35; refine (yWord _ _ _ (hLp5.bal.ext (by (repeat (first | with_reducible exact Ext.refl _ | with_reducible assumption | refine Ext.trans ?_ (by with_reducible assumption) | refine Ext.alloc ?_ _ _ | refine Ext.drew ?_ | refine Ext.drewN ?_ _)))) hx2).mono ?_; rintro e wb ⟨rfl, he⟩
          refine hK.out _ _ ?_ (fun hHeld => ?_)
          · first | exact HH.out.trans hmY | exact HH.out.trans he | exact HH.out
          clear hK K HH
          have HH : Hid (Ext W0 _) := hHeld
          clear hHeld
          refine wpAnyH_ready (rs := [10]) (by kernel_rfl) (by simp) ?_
          refine AllReadyH.cons rfl (fun K hK => ?_) AllReadyH.nil
          go_simp
          go_at_call 36; refine (yBytesOf2 (O := Wd (OC O v) BX) (fun b hb => hb.elim (hOC.ext (by (repeat (first | with_reducible exact Ext.refl _ | with_reducible assumption | refine Ext.trans ?_ (by with_reducible assumption) | refine Ext.alloc ?_ _ _ | refine Ext.drew ?_ | refine Ext.drewN ?_ _))) b) (fun q => by rw [q]; exact (show Blk _ BX 55 58 _ from b7.ext (by (repeat (first | with_reducible exact Ext.refl _ | with_reducible assumption | refine Ext.trans ?_ (by with_reducible assumption) | refine Ext.alloc ?_ _ _ | refine Ext.drew ?_ | refine Ext.drewN ?_ _)))).lt)) (hLp5.code.ext (by (repeat (first | with_reducible exact Ext.refl _ | with_reducible assumption | refine Ext.trans ?_ (by with_reducible assumption) | refine Ext.alloc ?_ _ _ | refine Ext.drew ?_ | refine Ext.drewN ?_ _))))).mono ?_; rintro e wd ⟨rc, rfl, hrc, he⟩
          refine hK.out _ _ ?_ (fun hHeld => ?_)
          · first | exact HH.out.trans hmY | exact HH.out.trans he | exact HH.out
          clear hK K HH
          have HH : Hid (Ext W0 _) := hHeld
          clear hHeld
          refine wpAnyH_take (i := 11) rfl (by kernel_rfl) (by kernel_rfl) (by kernel_rfl) (fun _ _ _ h => h) (yields_build (ps := [(0, .agg (av x.addr)), (1, .int .u64 (x.nonce : Nat)), (2, .agg (bw x.bal)), (3, rc)]) (by rfl) rfl (b114x hax hx2 hrc.one) (by simp [Act.eval])) HH.out ?_
          change wpAnyH _ _ _ _ _ _ _ (Act.put _ (some 32) _) _
          simp only [Act.put, List.setIfInBounds_toArray, List.set_cons_zero, List.set_cons_succ]
          refine wpAnyH_ready (rs := [13]) (by kernel_rfl) (by simp) ?_
          refine AllReadyH.cons rfl (fun K hK => ?_) AllReadyH.nil
          refine step_any rfl (op_storeRow rfl rt114x rfl rfl (iaR_size hax hx2 _ _ _) (iaR_one hrc.one rfl) (b7.ext (by (repeat (first | with_reducible exact Ext.refl _ | with_reducible assumption | refine Ext.trans ?_ (by with_reducible assumption) | refine Ext.alloc ?_ _ _ | refine Ext.drew ?_ | refine Ext.drewN ?_ _)))) (by decide) ?_)
          rintro W8 b8 m8
          refine hK.out _ _ ?_ (fun hHeld => ?_)
          · exact Ext.trans_mod HH.out m8 (fun q hq => by have hq2 : q = BX := hq; rw [hq2]; exact Nat.le_trans (Ext.size (by (repeat (first | with_reducible exact Ext.refl _ | with_reducible assumption | refine Ext.trans ?_ (by with_reducible assumption) | refine Ext.alloc ?_ _ _ | refine Ext.drew ?_ | refine Ext.drewN ?_ _)))) g7)
          clear hK K HH
          have HH : Hid (Ext W0 _) := hHeld
          clear hHeld
          change wpAnyH _ _ _ _ _ _ _ (Act.put _ none _) _
          simp only [Act.put, List.setIfInBounds_toArray, List.set_cons_zero, List.set_cons_succ]
          refine wpAnyH_done (by kernel_rfl) ?_ _
          (have hX : NL (Wd (OC O v) BX) W8 rc x.code := (by first | exact (NL.ext (O := Wd (OC O v) BX) hrc (by (repeat (first | with_reducible exact Ext.refl _ | with_reducible assumption | refine Ext.trans ?_ (by with_reducible assumption) | refine Ext.alloc ?_ _ _ | refine Ext.drew ?_ | refine Ext.drewN ?_ _)))).keep m8 (fun b hb q => hb (Or.inr q)) | exact ((hrc.widen (Nat.le_trans (Ext.size (by (repeat (first | with_reducible exact Ext.refl _ | with_reducible assumption | refine Ext.trans ?_ (by with_reducible assumption) | refine Ext.alloc ?_ _ _ | refine Ext.drew ?_ | refine Ext.drewN ?_ _)))) g7)).ext (by (repeat (first | with_reducible exact Ext.refl _ | with_reducible assumption | refine Ext.trans ?_ (by with_reducible assumption) | refine Ext.alloc ?_ _ _ | refine Ext.drew ?_ | refine Ext.drewN ?_ _)))).keep m8 (fun b hb q => hb (Or.inr q))); exact key BX W8 rc ⟨HH.out, Nat.le_trans (Ext.size (by (repeat (first | with_reducible exact Ext.refl _ | with_reducible assumption | refine Ext.trans ?_ (by with_reducible assumption) | refine Ext.alloc ?_ _ _ | refine Ext.drew ?_ | refine Ext.drewN ?_ _)))) g7, b8, hX⟩)
          rintro BX W8 rc ⟨hE8, gX, bX, hrc⟩
          have eW8 : Ext w5 W8 := hW0.trans hE8
          have g5X : w5.heap.size ≤ BX := Nat.le_trans hW0.size gX
          have bL8 := bL5.ext eW8
          replace bX := bX.same (c' := cf (iaR x.addr x.nonce x.bal rc (.slice none 0 0))) (fun j hj => iaR_lay hax hx2 _ _ _ j hj)
          have hsl8 : SloL (Wd O BX) W8 (.slice so x.slots.length sc) x.slots := SloL.ext (GRow.widen hsl5 g5X (fun _ _ _ k => ⟨k.key.widen g5X, k.val.widen g5X⟩)) eW8
          obtain ⟨sl, hsl9⟩ : ∃ z, Hid (x.slots = z) := ⟨_, rfl⟩
          rw [hsl9.out] at hsl8 hL23 hx3 hx4
          have hE58 : Ext w W8 := hE5.trans eW8
          have hG8 : GRow 58 55 (IAcC (OC O v) W8) (fun b => w.heap.size ≤ b) W8 v LX := hG5.ext eW8 (fun _ _ _ k => k.ext eW8)
          have hnS : ∀ b, W8.heap.size ≤ b → ¬ OC O v b := fun b hb q => by have := hOC b q; have := eW8.size; omega
          have hXO : ¬ OC O v BX := fun q => by have := hOC BX q; omega
          clear hE8 gX hW0 hLp5 hOC bL5 hsl5
          go_upto_block 2 with ((with_reducible (refine Veil.out ?_; apply wl_loadC onet106x)); (case hw => rfl); (case hx => rfl); (case hc => exact (bL8.cell (i := 23) (by decide)).trans (congrArg some hL23)))
          try simp only [Act.put]
          go_upto_region 8 with (fail)
          try simp only [Act.put]
          go_loopw [36] (fun iv wr => ∃ (j : Nat) (v' : Value), iv = .int .i64 (j : Nat) ∧ j ≤ sl.length ∧ Blk wr BX 55 58 (cf (iaR x.addr x.nonce x.bal rc v')) ∧ GRow 127 64 ISlC (fun b => W8.heap.size ≤ b) wr v' (sl.take j) ∧ Mod (· = BX) W8 wr) (fun iv _ => sl.length - (intOf iv).toNat)
          case atStart => exact ⟨0, .slice none 0 0, rfl, Nat.zero_le _, bX, Or.inl ⟨rfl, rfl⟩, Mod.refl _ _⟩
          case round =>
            obtain ⟨j, vj, rfl, hj, bXj, hGj, hmj⟩ := hrel
            rcases Nat.lt_or_ge j sl.length with hjlt | hjge
            · have zj : (j : Int) < sl.length := by omega
              rcases hsl8 with ⟨q, _⟩ | ⟨sb, scap, ss, q1, q2, q3, q4, q5, q6⟩
              · rw [q] at hjlt; simp at hjlt
              injection q1 with q1a q1b q1c
              clear q1b
              subst q1a
              subst q1c
              have hsj := q6 j hjlt
              have hsl4 := hx4 sl[j] (List.getElem_mem _)
              have sbX : ¬ sb = BX := fun q => q5 (Or.inr q)
              have hsb := q4.mod hmj sbX
              obtain ⟨sx, hsx⟩ : ∃ z, Hid (sl[j] = z) := ⟨sl[j], rfl⟩
              have htk : sl.take (j + 1) = sl.take j ++ [sl[j]] := List.take_succ_eq_append_getElem hjlt
              rw [hsx.out] at hsj htk hsl4
              replace htk := (show Hid _ from htk)
              obtain ⟨hs4a, hs4b⟩ := hsl4
              have hk1 := hsj.key
              have hk2 := hsj.val
              have honeS : Ones (rowOf ss (j * 2) 2) := ones_of (fun q hq => by
                rw [rowOf_size] at hq
                rw [cf_rowOf _ _ _ hq]
                rcases (show q = 0 ∨ q = 1 by omega) with rfl | rfl
                · exact hk1.one
                · exact hk2.one)
              obtain ⟨j2, hj2⟩ : ∃ z : Nat, Hid ((j + 1 : Nat) = z) := ⟨_, rfl⟩
              have jj1 : IntKind.i64.wrap ((j : Int) + 1) = (j2 : Int) := by rw [IntKind.wrap_i64, ← hj2.out]; omega
              go_upto_region 10 with (first | ((with_reducible (refine Veil.out ?_; apply wl_loadRow rt116)); (case hx => rfl); (case hB => exact hsb); (case hi => omega)) | ((with_reducible (refine Veil.out ?_; apply wl_allocB zero116x)); (case hn => rfl); rintro BS WS eS bS gS) | ((with_reducible (refine Veil.out ?_; apply wl_storeRow rt116)); (case hx => rfl); (case hy => rfl); (case hr => exact rowOf_size _ _ _); (case h1 => exact honeS); (case hB => exact bS); (case hi => decide); rintro W5 b5 m5))
              have hE5' : Ext wr W5 := Ext.trans_mod eS m5 (fun q hq => by have hq2 : q = BS := hq; rw [hq2]; exact gS)
              have bX5 := bXj.ext hE5'
              have m5' := hmj.trans_ext hE5'
              have c50 : layv (cf #[.slice none 0 0, .slice none 0 0]) 0 (rowOf ss (j * 2) 2) 0 = ss (j * 2) := by
                have := layv_in (cf #[.slice none 0 0, .slice none 0 0]) 0 (rowOf ss (j * 2) 2) (j := 0) (by rw [rowOf_size]; decide)
                rw [Nat.zero_add] at this
                rw [this, cf_rowOf _ _ _ (by decide), Nat.add_zero]
              have c51 : layv (cf #[.slice none 0 0, .slice none 0 0]) 0 (rowOf ss (j * 2) 2) 1 = ss (j * 2 + 1) := by
                have := layv_in (cf #[.slice none 0 0, .slice none 0 0]) 0 (rowOf ss (j * 2) 2) (j := 1) (by rw [rowOf_size]; decide)
                rw [Nat.zero_add] at this
                rw [this, cf_rowOf _ _ _ (by decide)]
              obtain ⟨cS, hcS⟩ : ∃ z, Hid (layv (cf #[.slice none 0 0, .slice none 0 0]) 0 (rowOf ss (j * 2) 2) = z) := ⟨_, rfl⟩
              rw [hcS.out] at b5 c50 c51
              rw [← c50] at hk1
              rw [← c51] at hk2
              have hk15 : NV (Wd O BX) W5 (cS 0) sx.1 := hk1.keep m5' (fun b hb q => hb (Or.inr q))
              have hk25 : NV (Wd O BX) W5 (cS 1) sx.2 := hk2.keep m5' (fun b hb q => hb (Or.inr q))
              have hBSX : BS ≠ BX := fun q => by have := bXj.lt; omega
              have hG5' : GRow 127 64 ISlC (fun b => W8.heap.size ≤ b ∧ b ≠ BS) W5 vj (sl.take j) := (hGj.mono (fun _ _ _ k => k) (fun b hb q => ⟨q, fun e => by omega⟩) (fun _ _ _ _ k _ => k)).ext hE5' (fun _ _ _ k => k)
              have hTN : ∀ W', Ext W5 W' → ∀ b, W'.heap.size ≤ b → W8.heap.size ≤ b ∧ b ≠ BS := fun W' hW b hb => ⟨Nat.le_trans (Nat.le_trans m5'.size hW.size) hb, fun e => by have := b5.lt; have := hW.size; omega⟩
              have hlen : (sl.take j).length ≤ 1048576 := by rw [List.length_take]; omega
              have hXl : BX < W8.heap.size := bX.lt
              have k54 : cf (iaR x.addr x.nonce x.bal rc vj) 54 = vj := (iaR_cf hax hx2 _ _ _).2.2.2.2
              have K54 : ∀ W', Ext W5 W' → W'.cell? ⟨BX, 54, none⟩ = some vj := fun W' hW => by rw [(bX5.ext hW).cell (by decide), k54]
              obtain ⟨LS, hLS⟩ : ∃ z, Hid (sl.take j = z) := ⟨_, rfl⟩
              rw [hLS.out] at hG5' hlen
              obtain ⟨cX, hcX⟩ : ∃ z, Hid (cf (iaR x.addr x.nonce x.bal rc vj) = z) := ⟨_, rfl⟩
              rw [hcX.out] at bX5
              clear bS eS m5 hcS hsb honeS hsj bXj hGj hE5' c50 c51 hmj k54 hk1 hk2
              refine w_ext ?_
              rintro W0 hW0
              refine' joinX4 (P := _) (Fc := fun W11 v9 B9 => Blk W11 BX 55 58 (updv cX 54 v9) ∧ GRow 127 64 ISlC (fun b => W8.heap.size ≤ b) W11 v9 (LS ++ [sx]) ∧ Mod (· = BX) W8 W11) (fun key => _) _
              rotate_left
              refine wp_region_held_drew (S := fun w' => Mod (fun b => b = BX ∨ (W8.heap.size ≤ b ∧ b ≠ BS)) W0 w') (by kernel_rfl) (Mod.refl _ _).drew (fun hHeld => ?_)
              have HH : Hid (Mod (fun b => b = BX ∨ (W8.heap.size ≤ b ∧ b ≠ BS)) W0 _) := hHeld
              clear hHeld
              refine wpAnyH_take (i := 0) (v := ?_) rfl (by kernel_rfl) (by kernel_rfl) (by kernel_rfl) (fun _ _ _ h => h) (Or.inl ⟨by rfl, ?_⟩) HH.out ?_
              rotate_left
              · intro w hSw; go_simp; try with_reducible rfl
              change wpAnyH _ _ _ _ _ _ _ (Act.put _ (some 40) _) _
              simp only [Act.put, List.setIfInBounds_toArray, List.set_cons_zero, List.set_cons_succ]
              refine wpAnyH_take (i := 2) (v := ?_) rfl (by kernel_rfl) (by kernel_rfl) (by kernel_rfl) (fun _ _ _ h => h) (Or.inl ⟨by rfl, ?_⟩) HH.out ?_
              rotate_left
              · intro w hSw; go_simp; try with_reducible rfl
              change wpAnyH _ _ _ _ _ _ _ (Act.put _ (some 42) _) _
              simp only [Act.put, List.setIfInBounds_toArray, List.set_cons_zero, List.set_cons_succ]
              refine wpAnyH_take (i := 3) rfl (by kernel_rfl) (by kernel_rfl) (by kernel_rfl) (fun _ _ _ h => h) (yieldsIf_load1 (by rfl) _ _ rfl _ _ rfl onet96x _ (fun w hSw => ((b5.ext hW0).mod hSw (fun e => e.elim hBSX (fun e => e.2 rfl))).cell (by decide))) HH.out ?_
              change wpAnyH _ _ _ _ _ _ _ (Act.put _ (some 43) _) _
              simp only [Act.put, List.setIfInBounds_toArray, List.set_cons_zero, List.set_cons_succ]
              refine wpAnyH_take (i := 5) (v := ?_) rfl (by kernel_rfl) (by kernel_rfl) (by kernel_rfl) (fun _ _ _ h => h) (Or.inl ⟨by rfl, ?_⟩) HH.out ?_
              rotate_left
              · intro w hSw; go_simp; try with_reducible rfl
              change wpAnyH _ _ _ _ _ _ _ (Act.put _ (some 45) _) _
              simp only [Act.put, List.setIfInBounds_toArray, List.set_cons_zero, List.set_cons_succ]
              refine wpAnyH_take (i := 6) rfl (by kernel_rfl) (by kernel_rfl) (by kernel_rfl) (fun _ _ _ h => h) (yieldsIf_load1 (by rfl) _ _ rfl _ _ rfl onet96x _ (fun w hSw => ((b5.ext hW0).mod hSw (fun e => e.elim hBSX (fun e => e.2 rfl))).cell (by decide))) HH.out ?_
              change wpAnyH _ _ _ _ _ _ _ (Act.put _ (some 46) _) _
              simp only [Act.put, List.setIfInBounds_toArray, List.set_cons_zero, List.set_cons_succ]
              refine wpAnyH_ready (rs := [1, 4]) (by kernel_rfl) (by simp) ?_
              refine (AllReadyH.cons rfl (fun K hK => ?_) (AllReadyH.cons rfl (fun K hK => ?_) AllReadyH.nil))
              refine step_any rfl (op_loadK rfl one112x rfl (K54 _ (by (repeat (first | with_reducible exact Ext.refl _ | with_reducible assumption | refine Ext.trans ?_ (by with_reducible assumption) | refine Ext.alloc ?_ _ _ | refine Ext.drew ?_ | refine Ext.drewN ?_ _)))) ?_)
              refine hK.out _ _ HH.out (fun hHeld => ?_)
              clear hK K HH
              have HH : Hid (Mod (fun b => b = BX ∨ (W8.heap.size ≤ b ∧ b ≠ BS)) W0 _) := hHeld
              clear hHeld
              change wpAnyH _ _ _ _ _ _ _ (Act.put _ (some 41) _) _
              simp only [Act.put, List.setIfInBounds_toArray, List.set_cons_zero, List.set_cons_succ]
              refine wpAnyH_ready (rs := [4]) (by kernel_rfl) (by simp) ?_
              refine AllReadyH.cons rfl (fun K hK => ?_) AllReadyH.nil
              go_simp
              go_at_call 35; refine (yWord _ _ _ (hk15.ext (by (repeat (first | with_reducible exact Ext.refl _ | with_reducible assumption | refine Ext.trans ?_ (by with_reducible assumption) | refine Ext.alloc ?_ _ _ | refine Ext.drew ?_ | refine Ext.drewN ?_ _)))) hs4a).mono ?_; rintro e wa ⟨rfl, he⟩
              refine hK.out _ _ ?_ (fun hHeld => ?_)
              · first | exact HH.out.trans hmY | exact HH.out.trans_ext he | exact HH.out
              clear hK K HH
              have HH : Hid (Mod (fun b => b = BX ∨ (W8.heap.size ≤ b ∧ b ≠ BS)) W0 _) := hHeld
              clear hHeld
              refine wpAnyH_ready (rs := [7]) (by kernel_rfl) (by simp) ?_
              refine AllReadyH.cons rfl (fun K hK => ?_) AllReadyH.nil
              go_simp
              go_at_call 35; refine (yWord _ _ _ (hk25.ext (by (repeat (first | with_reducible exact Ext.refl _ | with_reducible assumption | refine Ext.trans ?_ (by with_reducible assumption) | refine Ext.alloc ?_ _ _ | refine Ext.drew ?_ | refine Ext.drewN ?_ _)))) hs4b).mono ?_; rintro e wb ⟨rfl, he⟩
              refine hK.out _ _ ?_ (fun hHeld => ?_)
              · first | exact HH.out.trans hmY | exact HH.out.trans_ext he | exact HH.out
              clear hK K HH
              have HH : Hid (Mod (fun b => b = BX ∨ (W8.heap.size ≤ b ∧ b ≠ BS)) W0 _) := hHeld
              clear hHeld
              refine wpAnyH_take (i := 8) rfl (by kernel_rfl) (by kernel_rfl) (by kernel_rfl) (fun _ _ _ h => h) (yields_build (ps := [(0, .agg (bw sx.1)), (1, .agg (bw sx.2))]) (by rfl) rfl (b118x hs4a hs4b) (by simp [Act.eval])) HH.out ?_
              change wpAnyH _ _ _ _ _ _ _ (Act.put _ (some 48) _) _
              simp only [Act.put, List.setIfInBounds_toArray, List.set_cons_zero, List.set_cons_succ]
              refine wpAnyH_ready (rs := [9]) (by kernel_rfl) (by simp) ?_
              refine AllReadyH.cons rfl (fun K hK => ?_) AllReadyH.nil
              refine step_any rfl (op_build1 127 Hvah.t127 _ 64 rfl under112x info118x zero118x size118x zs118x (by decide) (by decide) (isR sx.1 sx.2) (isR_size hs4a hs4b) rfl ?_)
              rintro B9 W9 e9 r9 g9
              refine hK.out _ _ (HH.out.trans_ext e9) (fun hHeld => ?_)
              clear hK K HH
              have HH : Hid (Mod (fun b => b = BX ∨ (W8.heap.size ≤ b ∧ b ≠ BS)) W0 _) := hHeld
              clear hHeld
              change wpAnyH _ _ _ _ _ _ _ (Act.put _ (some 49) _) _
              simp only [Act.put, List.setIfInBounds_toArray, List.set_cons_zero, List.set_cons_succ]
              refine wpAnyH_ready (rs := [10]) (by kernel_rfl) (by simp) ?_
              refine AllReadyH.cons rfl (fun K hK => ?_) AllReadyH.nil
              have eX : Ext W5 W9 := by (repeat (first | with_reducible exact Ext.refl _ | with_reducible assumption | refine Ext.trans ?_ (by with_reducible assumption) | refine Ext.alloc ?_ _ _ | refine Ext.drew ?_ | refine Ext.drewN ?_ _))
              refine step_pushT rfl _ _ 56 rfl sl112x vj LS _ (hTN _ eX) (hG5'.ext eX (fun _ _ _ k => k)) hlen ⟨B9, 0, none⟩ (isR sx.1 sx.2) (isR_size hs4a hs4b) r9 isR_one rfl rfl sx (fun c o hc => isR_row hs4a hs4b c o hc) (fun c c' o y hc k => ISlC.cellsX hc k) ?_
              rintro v9 W10 hG10 m10
              refine hK.out _ _ (HH.out.trans (m10.sub (fun b hb => Or.inr hb))) (fun hHeld => ?_)
              clear hK K HH
              have HH : Hid (Mod (fun b => b = BX ∨ (W8.heap.size ≤ b ∧ b ≠ BS)) W0 _) := hHeld
              clear hHeld
              change wpAnyH _ _ _ _ _ _ _ (Act.put _ (some 50) _) _
              simp only [Act.put, List.setIfInBounds_toArray, List.set_cons_zero, List.set_cons_succ]
              refine wpAnyH_take (i := 11) (v := ?_) rfl (by kernel_rfl) (by kernel_rfl) (by kernel_rfl) (fun _ _ _ h => h) (Or.inl ⟨by rfl, ?_⟩) HH.out ?_
              rotate_left
              · intro w hSw; go_simp; try with_reducible rfl
              change wpAnyH _ _ _ _ _ _ _ (Act.put _ (some 51) _) _
              simp only [Act.put, List.setIfInBounds_toArray, List.set_cons_zero, List.set_cons_succ]
              refine wpAnyH_ready (rs := [12]) (by kernel_rfl) (by simp) ?_
              refine AllReadyH.cons rfl (fun K hK => ?_) AllReadyH.nil
              have bX10 := (bX5.ext eX).mod m10 (fun q => by have := q.1; omega)
              refine step_any rfl (op_store1 rfl one112x rfl rfl (grow_onex hG10) bX10 (by decide) ?_)
              rintro W11 b9 m11
              have hG9 : GRow 127 64 ISlC (fun b => W8.heap.size ≤ b) W11 v9 (LS ++ [sx]) := hG10.mono (fun _ _ _ k => k) (fun b _ q => q.1) (fun b n t c k q => k.mod m11 (fun e => by have e2 : b = BX := e; have := q.1; omega))
              have m9' : Mod (· = BX) W8 W11 := ((m5'.trans_ext eX).trans' m10 (fun b q => Or.inr q.1)).trans m11
              refine hK.out _ _ (HH.out.trans (m11.sub (fun b hb => Or.inl hb))) (fun hHeld => ?_)
              clear hK K HH
              have HH : Hid (Mod (fun b => b = BX ∨ (W8.heap.size ≤ b ∧ b ≠ BS)) W0 _) := hHeld
              clear hHeld
              change wpAnyH _ _ _ _ _ _ _ (Act.put _ none _) _
              simp only [Act.put, List.setIfInBounds_toArray, List.set_cons_zero, List.set_cons_succ]
              refine wpAnyH_done (by kernel_rfl) ?_ _
              exact key W11 v9 B9 ⟨b9, hG9, m9'⟩
              go_simp
              go_at_call 35; refine (yWord _ _ _ (hk15.ext (by (repeat (first | with_reducible exact Ext.refl _ | with_reducible assumption | refine Ext.trans ?_ (by with_reducible assumption) | refine Ext.alloc ?_ _ _ | refine Ext.drew ?_ | refine Ext.drewN ?_ _)))) hs4a).mono ?_; rintro e wa ⟨rfl, he⟩
              refine hK.out _ _ ?_ (fun hHeld => ?_)
              · first | exact HH.out.trans hmY | exact HH.out.trans_ext he | exact HH.out
              clear hK K HH
              have HH : Hid (Mod (fun b => b = BX ∨ (W8.heap.size ≤ b ∧ b ≠ BS)) W0 _) := hHeld
              clear hHeld
              refine wpAnyH_ready (rs := [1, 7]) (by kernel_rfl) (by simp) ?_
              refine (AllReadyH.cons rfl (fun K hK => ?_) (AllReadyH.cons rfl (fun K hK => ?_) AllReadyH.nil))
              refine step_any rfl (op_loadK rfl one112x rfl (K54 _ (by (repeat (first | with_reducible exact Ext.refl _ | with_reducible assumption | refine Ext.trans ?_ (by with_reducible assumption) | refine Ext.alloc ?_ _ _ | refine Ext.drew ?_ | refine Ext.drewN ?_ _)))) ?_)
              refine hK.out _ _ HH.out (fun hHeld => ?_)
              clear hK K HH
              have HH : Hid (Mod (fun b => b = BX ∨ (W8.heap.size ≤ b ∧ b ≠ BS)) W0 _) := hHeld
              clear hHeld
              change wpAnyH _ _ _ _ _ _ _ (Act.put _ (some 41) _) _
              simp only [Act.put, List.setIfInBounds_toArray, List.set_cons_zero, List.set_cons_succ]
              refine wpAnyH_ready (rs := [7]) (by kernel_rfl) (by simp) ?_
              refine AllReadyH.cons rfl (fun K hK => ?_) AllReadyH.nil
              go_simp
              go_at_call 35; refine (yWord _ _ _ (hk25.ext (by (repeat (first | with_reducible exact Ext.refl _ | with_reducible assumption | refine Ext.trans ?_ (by with_reducible assumption) | refine Ext.alloc ?_ _ _ | refine Ext.drew ?_ | refine Ext.drewN ?_ _)))) hs4b).mono ?_; rintro e wb ⟨rfl, he⟩
              refine hK.out _ _ ?_ (fun hHeld => ?_)
              · first | exact HH.out.trans hmY | exact HH.out.trans_ext he | exact HH.out
              clear hK K HH
              have HH : Hid (Mod (fun b => b = BX ∨ (W8.heap.size ≤ b ∧ b ≠ BS)) W0 _) := hHeld
              clear hHeld
              refine wpAnyH_take (i := 8) rfl (by kernel_rfl) (by kernel_rfl) (by kernel_rfl) (fun _ _ _ h => h) (yields_build (ps := [(0, .agg (bw sx.1)), (1, .agg (bw sx.2))]) (by rfl) rfl (b118x hs4a hs4b) (by simp [Act.eval])) HH.out ?_
              change wpAnyH _ _ _ _ _ _ _ (Act.put _ (some 48) _) _
              simp only [Act.put, List.setIfInBounds_toArray, List.set_cons_zero, List.set_cons_succ]
              refine wpAnyH_ready (rs := [9]) (by kernel_rfl) (by simp) ?_
              refine AllReadyH.cons rfl (fun K hK => ?_) AllReadyH.nil
              refine step_any rfl (op_build1 127 Hvah.t127 _ 64 rfl under112x info118x zero118x size118x zs118x (by decide) (by decide) (isR sx.1 sx.2) (isR_size hs4a hs4b) rfl ?_)
              rintro B9 W9 e9 r9 g9
              refine hK.out _ _ (HH.out.trans_ext e9) (fun hHeld => ?_)
              clear hK K HH
              have HH : Hid (Mod (fun b => b = BX ∨ (W8.heap.size ≤ b ∧ b ≠ BS)) W0 _) := hHeld
              clear hHeld
              change wpAnyH _ _ _ _ _ _ _ (Act.put _ (some 49) _) _
              simp only [Act.put, List.setIfInBounds_toArray, List.set_cons_zero, List.set_cons_succ]
              refine wpAnyH_ready (rs := [10]) (by kernel_rfl) (by simp) ?_
              refine AllReadyH.cons rfl (fun K hK => ?_) AllReadyH.nil
              have eX : Ext W5 W9 := by (repeat (first | with_reducible exact Ext.refl _ | with_reducible assumption | refine Ext.trans ?_ (by with_reducible assumption) | refine Ext.alloc ?_ _ _ | refine Ext.drew ?_ | refine Ext.drewN ?_ _))
              refine step_pushT rfl _ _ 56 rfl sl112x vj LS _ (hTN _ eX) (hG5'.ext eX (fun _ _ _ k => k)) hlen ⟨B9, 0, none⟩ (isR sx.1 sx.2) (isR_size hs4a hs4b) r9 isR_one rfl rfl sx (fun c o hc => isR_row hs4a hs4b c o hc) (fun c c' o y hc k => ISlC.cellsX hc k) ?_
              rintro v9 W10 hG10 m10
              refine hK.out _ _ (HH.out.trans (m10.sub (fun b hb => Or.inr hb))) (fun hHeld => ?_)
              clear hK K HH
              have HH : Hid (Mod (fun b => b = BX ∨ (W8.heap.size ≤ b ∧ b ≠ BS)) W0 _) := hHeld
              clear hHeld
              change wpAnyH _ _ _ _ _ _ _ (Act.put _ (some 50) _) _
              simp only [Act.put, List.setIfInBounds_toArray, List.set_cons_zero, List.set_cons_succ]
              refine wpAnyH_take (i := 11) (v := ?_) rfl (by kernel_rfl) (by kernel_rfl) (by kernel_rfl) (fun _ _ _ h => h) (Or.inl ⟨by rfl, ?_⟩) HH.out ?_
              rotate_left
              · intro w hSw; go_simp; try with_reducible rfl
              change wpAnyH _ _ _ _ _ _ _ (Act.put _ (some 51) _) _
              simp only [Act.put, List.setIfInBounds_toArray, List.set_cons_zero, List.set_cons_succ]
              refine wpAnyH_ready (rs := [12]) (by kernel_rfl) (by simp) ?_
              refine AllReadyH.cons rfl (fun K hK => ?_) AllReadyH.nil
              have bX10 := (bX5.ext eX).mod m10 (fun q => by have := q.1; omega)
              refine step_any rfl (op_store1 rfl one112x rfl rfl (grow_onex hG10) bX10 (by decide) ?_)
              rintro W11 b9 m11
              have hG9 : GRow 127 64 ISlC (fun b => W8.heap.size ≤ b) W11 v9 (LS ++ [sx]) := hG10.mono (fun _ _ _ k => k) (fun b _ q => q.1) (fun b n t c k q => k.mod m11 (fun e => by have e2 : b = BX := e; have := q.1; omega))
              have m9' : Mod (· = BX) W8 W11 := ((m5'.trans_ext eX).trans' m10 (fun b q => Or.inr q.1)).trans m11
              refine hK.out _ _ (HH.out.trans (m11.sub (fun b hb => Or.inl hb))) (fun hHeld => ?_)
              clear hK K HH
              have HH : Hid (Mod (fun b => b = BX ∨ (W8.heap.size ≤ b ∧ b ≠ BS)) W0 _) := hHeld
              clear hHeld
              change wpAnyH _ _ _ _ _ _ _ (Act.put _ none _) _
              simp only [Act.put, List.setIfInBounds_toArray, List.set_cons_zero, List.set_cons_succ]
              refine wpAnyH_done (by kernel_rfl) ?_ _
              exact key W11 v9 B9 ⟨b9, hG9, m9'⟩
              go_simp
              go_at_call 35; refine (yWord _ _ _ (hk25.ext (by (repeat (first | with_reducible exact Ext.refl _ | with_reducible assumption | refine Ext.trans ?_ (by with_reducible assumption) | refine Ext.alloc ?_ _ _ | refine Ext.drew ?_ | refine Ext.drewN ?_ _)))) hs4b).mono ?_; rintro e wb ⟨rfl, he⟩
              refine hK.out _ _ ?_ (fun hHeld => ?_)
              · first | exact HH.out.trans hmY | exact HH.out.trans_ext he | exact HH.out
              clear hK K HH
              have HH : Hid (Mod (fun b => b = BX ∨ (W8.heap.size ≤ b ∧ b ≠ BS)) W0 _) := hHeld
              clear hHeld
              refine wpAnyH_take (i := 8) rfl (by kernel_rfl) (by kernel_rfl) (by kernel_rfl) (fun _ _ _ h => h) (yields_build (ps := [(0, .agg (bw sx.1)), (1, .agg (bw sx.2))]) (by rfl) rfl (b118x hs4a hs4b) (by simp [Act.eval])) HH.out ?_
              change wpAnyH _ _ _ _ _ _ _ (Act.put _ (some 48) _) _
              simp only [Act.put, List.setIfInBounds_toArray, List.set_cons_zero, List.set_cons_succ]
              refine wpAnyH_ready (rs := [1, 9]) (by kernel_rfl) (by simp) ?_
              refine (AllReadyH.cons rfl (fun K hK => ?_) (AllReadyH.cons rfl (fun K hK => ?_) AllReadyH.nil))
              refine step_any rfl (op_loadK rfl one112x rfl (K54 _ (by (repeat (first | with_reducible exact Ext.refl _ | with_reducible assumption | refine Ext.trans ?_ (by with_reducible assumption) | refine Ext.alloc ?_ _ _ | refine Ext.drew ?_ | refine Ext.drewN ?_ _)))) ?_)
              refine hK.out _ _ HH.out (fun hHeld => ?_)
              clear hK K HH
              have HH : Hid (Mod (fun b => b = BX ∨ (W8.heap.size ≤ b ∧ b ≠ BS)) W0 _) := hHeld
              clear hHeld
              change wpAnyH _ _ _ _ _ _ _ (Act.put _ (some 41) _) _
              simp only [Act.put, List.setIfInBounds_toArray, List.set_cons_zero, List.set_cons_succ]
              refine wpAnyH_ready (rs := [9]) (by kernel_rfl) (by simp) ?_
              refine AllReadyH.cons rfl (fun K hK => ?_) AllReadyH.nil
              refine step_any rfl (op_build1 127 Hvah.t127 _ 64 rfl under112x info118x zero118x size118x zs118x (by decide) (by decide) (isR sx.1 sx.2) (isR_size hs4a hs4b) rfl ?_)
              rintro B9 W9 e9 r9 g9
              refine hK.out _ _ (HH.out.trans_ext e9) (fun hHeld => ?_)
              clear hK K HH
              have HH : Hid (Mod (fun b => b = BX ∨ (W8.heap.size ≤ b ∧ b ≠ BS)) W0 _) := hHeld
              clear hHeld
              change wpAnyH _ _ _ _ _ _ _ (Act.put _ (some 49) _) _
              simp only [Act.put, List.setIfInBounds_toArray, List.set_cons_zero, List.set_cons_succ]
              refine wpAnyH_ready (rs := [10]) (by kernel_rfl) (by simp) ?_
              refine AllReadyH.cons rfl (fun K hK => ?_) AllReadyH.nil
              have eX : Ext W5 W9 := by (repeat (first | with_reducible exact Ext.refl _ | with_reducible assumption | refine Ext.trans ?_ (by with_reducible assumption) | refine Ext.alloc ?_ _ _ | refine Ext.drew ?_ | refine Ext.drewN ?_ _))
              refine step_pushT rfl _ _ 56 rfl sl112x vj LS _ (hTN _ eX) (hG5'.ext eX (fun _ _ _ k => k)) hlen ⟨B9, 0, none⟩ (isR sx.1 sx.2) (isR_size hs4a hs4b) r9 isR_one rfl rfl sx (fun c o hc => isR_row hs4a hs4b c o hc) (fun c c' o y hc k => ISlC.cellsX hc k) ?_
              rintro v9 W10 hG10 m10
              refine hK.out _ _ (HH.out.trans (m10.sub (fun b hb => Or.inr hb))) (fun hHeld => ?_)
              clear hK K HH
              have HH : Hid (Mod (fun b => b = BX ∨ (W8.heap.size ≤ b ∧ b ≠ BS)) W0 _) := hHeld
              clear hHeld
              change wpAnyH _ _ _ _ _ _ _ (Act.put _ (some 50) _) _
              simp only [Act.put, List.setIfInBounds_toArray, List.set_cons_zero, List.set_cons_succ]
              refine wpAnyH_take (i := 11) (v := ?_) rfl (by kernel_rfl) (by kernel_rfl) (by kernel_rfl) (fun _ _ _ h => h) (Or.inl ⟨by rfl, ?_⟩) HH.out ?_
              rotate_left
              · intro w hSw; go_simp; try with_reducible rfl
              change wpAnyH _ _ _ _ _ _ _ (Act.put _ (some 51) _) _
              simp only [Act.put, List.setIfInBounds_toArray, List.set_cons_zero, List.set_cons_succ]
              refine wpAnyH_ready (rs := [12]) (by kernel_rfl) (by simp) ?_
              refine AllReadyH.cons rfl (fun K hK => ?_) AllReadyH.nil
              have bX10 := (bX5.ext eX).mod m10 (fun q => by have := q.1; omega)
              refine step_any rfl (op_store1 rfl one112x rfl rfl (grow_onex hG10) bX10 (by decide) ?_)
              rintro W11 b9 m11
              have hG9 : GRow 127 64 ISlC (fun b => W8.heap.size ≤ b) W11 v9 (LS ++ [sx]) := hG10.mono (fun _ _ _ k => k) (fun b _ q => q.1) (fun b n t c k q => k.mod m11 (fun e => by have e2 : b = BX := e; have := q.1; omega))
              have m9' : Mod (· = BX) W8 W11 := ((m5'.trans_ext eX).trans' m10 (fun b q => Or.inr q.1)).trans m11
              refine hK.out _ _ (HH.out.trans (m11.sub (fun b hb => Or.inl hb))) (fun hHeld => ?_)
              clear hK K HH
              have HH : Hid (Mod (fun b => b = BX ∨ (W8.heap.size ≤ b ∧ b ≠ BS)) W0 _) := hHeld
              clear hHeld
              change wpAnyH _ _ _ _ _ _ _ (Act.put _ none _) _
              simp only [Act.put, List.setIfInBounds_toArray, List.set_cons_zero, List.set_cons_succ]
              refine wpAnyH_done (by kernel_rfl) ?_ _
              exact key W11 v9 B9 ⟨b9, hG9, m9'⟩
              refine step_any rfl (op_build1 127 Hvah.t127 _ 64 rfl under112x info118x zero118x size118x zs118x (by decide) (by decide) (isR sx.1 sx.2) (isR_size hs4a hs4b) rfl ?_)
              rintro B9 W9 e9 r9 g9
              refine hK.out _ _ (HH.out.trans_ext e9) (fun hHeld => ?_)
              clear hK K HH
              have HH : Hid (Mod (fun b => b = BX ∨ (W8.heap.size ≤ b ∧ b ≠ BS)) W0 _) := hHeld
              clear hHeld
              change wpAnyH _ _ _ _ _ _ _ (Act.put _ (some 49) _) _
              simp only [Act.put, List.setIfInBounds_toArray, List.set_cons_zero, List.set_cons_succ]
              refine wpAnyH_ready (rs := [1]) (by kernel_rfl) (by simp) ?_
              refine AllReadyH.cons rfl (fun K hK => ?_) AllReadyH.nil
              refine step_any rfl (op_loadK rfl one112x rfl (K54 _ (by (repeat (first | with_reducible exact Ext.refl _ | with_reducible assumption | refine Ext.trans ?_ (by with_reducible assumption) | refine Ext.alloc ?_ _ _ | refine Ext.drew ?_ | refine Ext.drewN ?_ _)))) ?_)
              refine hK.out _ _ HH.out (fun hHeld => ?_)
              clear hK K HH
              have HH : Hid (Mod (fun b => b = BX ∨ (W8.heap.size ≤ b ∧ b ≠ BS)) W0 _) := hHeld
              clear hHeld
              change wpAnyH _ _ _ _ _ _ _ (Act.put _ (some 41) _) _
              simp only [Act.put, List.setIfInBounds_toArray, List.set_cons_zero, List.set_cons_succ]
              refine wpAnyH_ready (rs := [10]) (by kernel_rfl) (by simp) ?_
              refine AllReadyH.cons rfl (fun K hK => ?_) AllReadyH.nil
              have eX : Ext W5 W9 := by (repeat (first | with_reducible exact Ext.refl _ | with_reducible assumption | refine Ext.trans ?_ (by with_reducible assumption) | refine Ext.alloc ?_ _ _ | refine Ext.drew ?_ | refine Ext.drewN ?_ _))
              refine step_pushT rfl _ _ 56 rfl sl112x vj LS _ (hTN _ eX) (hG5'.ext eX (fun _ _ _ k => k)) hlen ⟨B9, 0, none⟩ (isR sx.1 sx.2) (isR_size hs4a hs4b) r9 isR_one rfl rfl sx (fun c o hc => isR_row hs4a hs4b c o hc) (fun c c' o y hc k => ISlC.cellsX hc k) ?_
              rintro v9 W10 hG10 m10
              refine hK.out _ _ (HH.out.trans (m10.sub (fun b hb => Or.inr hb))) (fun hHeld => ?_)
              clear hK K HH
              have HH : Hid (Mod (fun b => b = BX ∨ (W8.heap.size ≤ b ∧ b ≠ BS)) W0 _) := hHeld
              clear hHeld
              change wpAnyH _ _ _ _ _ _ _ (Act.put _ (some 50) _) _
              simp only [Act.put, List.setIfInBounds_toArray, List.set_cons_zero, List.set_cons_succ]
              refine wpAnyH_take (i := 11) (v := ?_) rfl (by kernel_rfl) (by kernel_rfl) (by kernel_rfl) (fun _ _ _ h => h) (Or.inl ⟨by rfl, ?_⟩) HH.out ?_
              rotate_left
              · intro w hSw; go_simp; try with_reducible rfl
              change wpAnyH _ _ _ _ _ _ _ (Act.put _ (some 51) _) _
              simp only [Act.put, List.setIfInBounds_toArray, List.set_cons_zero, List.set_cons_succ]
              refine wpAnyH_ready (rs := [12]) (by kernel_rfl) (by simp) ?_
              refine AllReadyH.cons rfl (fun K hK => ?_) AllReadyH.nil
              have bX10 := (bX5.ext eX).mod m10 (fun q => by have := q.1; omega)
              refine step_any rfl (op_store1 rfl one112x rfl rfl (grow_onex hG10) bX10 (by decide) ?_)
              rintro W11 b9 m11
              have hG9 : GRow 127 64 ISlC (fun b => W8.heap.size ≤ b) W11 v9 (LS ++ [sx]) := hG10.mono (fun _ _ _ k => k) (fun b _ q => q.1) (fun b n t c k q => k.mod m11 (fun e => by have e2 : b = BX := e; have := q.1; omega))
              have m9' : Mod (· = BX) W8 W11 := ((m5'.trans_ext eX).trans' m10 (fun b q => Or.inr q.1)).trans m11
              refine hK.out _ _ (HH.out.trans (m11.sub (fun b hb => Or.inl hb))) (fun hHeld => ?_)
              clear hK K HH
              have HH : Hid (Mod (fun b => b = BX ∨ (W8.heap.size ≤ b ∧ b ≠ BS)) W0 _) := hHeld
              clear hHeld
              change wpAnyH _ _ _ _ _ _ _ (Act.put _ none _) _
              simp only [Act.put, List.setIfInBounds_toArray, List.set_cons_zero, List.set_cons_succ]
              refine wpAnyH_done (by kernel_rfl) ?_ _
              exact key W11 v9 B9 ⟨b9, hG9, m9'⟩
              rintro W11 v9 B9 ⟨b9, hG9, m9'⟩
              go_wp2
              go_roundw
              case rel =>
                have h9 := hj2.out
                refine ⟨j2, v9, rfl, by rw [← h9]; exact hjlt, ?_, ?_, m9'⟩
                · rw [← hcX.out] at b9; exact b9.same (fun q hq => iaR_upd hax hx2 _ _ _ _ q hq)
                · rw [← h9, htk.out, hLS.out]; exact hG9
              case measure => exact meas_ltx hj2.out hjlt
            · have zj : ¬ (j : Int) < sl.length := by omega
              obtain rfl : j = sl.length := by omega
              rw [List.take_length] at hGj
              have eE : Ext w5 wr := Ext.trans_mod eW8 hmj (fun q hq => by have hq2 : q = BX := hq; rw [hq2]; exact g5X)
              have eEw : Ext w wr := hE5.trans eE
              have hGE : GRow 58 55 (IAcC (OC O v) wr) (fun b => w.heap.size ≤ b) wr v LX := hG5.ext eE (fun _ _ _ k => k.ext eE)
              have hrcE : NLx (OC O v) wr rc x.code := (hrc.keep hmj (fun b hb q => hb (Or.inr q))).narrow.x
              have hELs : EL 64 ISlC (OC O v) wr vj x.slots := by rw [hsl9.out]; exact hGj.elS hnS
              obtain ⟨rX, hrX⟩ : ∃ z, Hid (iaR x.addr x.nonce x.bal rc vj = z) := ⟨_, rfl⟩
              have hsX : rX.size = 55 := by rw [← hrX.out]; exact iaR_size hax hx2 _ _ _
              have honX : Ones rX := by rw [← hrX.out]; exact iaR_one hrc.one (grow_onex hGj)
              have hRX : ∀ W', Ext wr W' → ∀ c o, (∀ j u, rX[j]? = some u → c (o + j) = u) → IAcC (OC O v) W' c o x.out := fun W' hW c o h => iaR_row (x := x.out) hax hx1 hx2 (hrcE.ext hW) (hELs.mono hW (fun _ _ _ k => k)) c o (fun j z hz => h j z (by rw [← hrX.out]; exact hz))
              rw [hrX.out] at bXj
              have hrowX := rowOf_cfx hsX
              have hlX : LX.length ≤ 1048576 := by omega
              obtain ⟨ox, hox⟩ : ∃ z, Hid (x.out = z) := ⟨_, rfl⟩
              rw [hox.out] at hRX hexY
              clear hsl8 hGj hELs hrcE hrc hmj hG8 hrX bX bL8 hsl9
              go_upto_region 12 with (fail)
              refine wp_region_lit ?_
              refine wl_any rfl ?_
              go_simp
              try simp only [Act.put, List.setIfInBounds_toArray, List.set_cons_zero, List.set_cons_succ]
              (with_reducible (refine Veil.out ?_; apply wl_loadRow rt114x)); (case hx => rfl); (case hB => exact bXj); (case hi => decide)
              rw [hrowX]
              try simp only [Act.put, List.setIfInBounds_toArray, List.set_cons_zero, List.set_cons_succ]
              refine wl_any rfl (op_build1 58 Hvah.t58 _ 55 rfl under23x info114x zero114x size114x zs114x (by decide) (by decide) rX hsX rfl ?_)
              rintro B9 W9 e9 r9 g9
              try simp only [Act.put, List.setIfInBounds_toArray, List.set_cons_zero, List.set_cons_succ]
              refine wl_any rfl (op_pushN _ _ 27 rfl sl23x (R := IAcC) O v LX (fun b => w.heap.size ≤ b) (fun b hb => Nat.le_trans (eEw.trans e9).size hb) (hGE.ext e9 (fun _ _ _ k => k.ext e9)) hlX ⟨B9, 0, none⟩ rX hsX r9 honX rfl rfl ox (hRX _ e9) (fun _ _ _ _ _ _ hc k => k.cellsS hc) (fun _ _ _ _ _ _ _ m hs k => k.keepS m hs) (fun _ _ _ _ _ _ hr k => k.reoS hr) ?_)
              rintro v9 W10 hG10 m10 _
              try simp only [Act.put, List.setIfInBounds_toArray, List.set_cons_zero, List.set_cons_succ]
              have e10 : Ext w W10 := Ext.trans_mod (eEw.trans e9) m10 (fun q hq => hq)
              go_wp2
              go_roundw
              case rel =>
                have h9 := hi1.out
                refine ⟨i1, rfl, by rw [← h9]; exact hlt, ?_, e10⟩
                rw [← h9, hexY.out]
                exact hG10
              case measure => exact meas_ltx hi1.out hlt
      · have z1 : ¬ (i : Int) < l.length := by omega
        obtain rfl : i = l.length := by omega
        rw [List.take_length] at hGr
        go_wp2
        go_meet
        case rel => exact ⟨hGr, hm⟩
  case rest =>
  obtain ⟨hGf, hEf⟩ := hcut
  go_wp2
  refine post_11 (v := u3) rfl rfl ?_
  exact ⟨_, rfl, GRow.elS (hGf.mono (fun _ _ _ k => k.reoS (fun b _ q => Or.inl q)) (fun _ _ q => q) (fun _ _ _ _ k _ => k)) (fun b hb q => by have := hO b q; omega), hEf⟩
end
end Go.Proofs.YgvahwGreat
