import Derived.Test.YgvahwGreatRowsG
import Derived.Test.YgvahwGreatNatI
namespace Go.Proofs.YgvahwGreat
open Go.RowKit
set_option linter.unusedSimpArgs false
theorem nFromA {O : Nat → Prop} {w : World} {b o n a : Nat} {t : TypeId} {c : Nat → Value} (hO : Small O w) (hB : Blk w b n t c) (hA : AAt c o a) (ha : a < 2 ^ 160) (ho : o + 20 ≤ n) : Calls Hvah.prog 43 #[.slice (some ⟨b, o, none⟩) 20 20] w fun e w' => ∃ r, e = .returned r ∧ NV O w' r a ∧ Ext w w' := by
  have := nFromBE hO (NL.ofRow (cap := 20) (hA.row ha hB ho) (digits_beL 20 a) (len20 ha) hB.lt (Nat.le_refl _) (by decide))
  rwa [bev_beL] at this
theorem BAt.row {w : World} {g n o a : Nat} {t : TypeId} {c : Nat → Value} (h : BAt c o a) (ha : a < P256) (hB : Blk w g n t c) (hn : o + 32 ≤ n) : RowIn w g o (bw a) := fun i v hv => by
  have hs : (bw a).size = 32 := by simp [bw, bcells_length, len32 ha]
  have hi := (Array.getElem?_eq_some_iff.1 hv).1
  rw [hB.cell (by omega), h i v hv]
theorem nFromR {O : Nat → Prop} {w : World} {b o a : Nat} (hO : Small O w) (hR : RowIn w b o (bw a)) (ha : a < P256) (hb : b < w.heap.size) : Calls Hvah.prog 43 #[.slice (some ⟨b, o, none⟩) 32 32] w fun e w' => ∃ r, e = .returned r ∧ NV O w' r a ∧ Ext w w' := by
  have := nFromBE hO (NL.ofRow (cap := 32) hR (digits_beL 32 a) (len32 ha) hb (Nat.le_refl _) (by decide))
  rwa [bev_beL] at this
theorem nFromB {O : Nat → Prop} {w : World} {b o n a : Nat} {t : TypeId} {c : Nat → Value} (hO : Small O w) (hB : Blk w b n t c) (hA : BAt c o a) (ha : a < P256) (ho : o + 32 ≤ n) : Calls Hvah.prog 43 #[.slice (some ⟨b, o, none⟩) 32 32] w fun e w' => ∃ r, e = .returned r ∧ NV O w' r a ∧ Ext w w' :=
  nFromR hO (hA.row ha hB ho) ha hB.lt
theorem one26 : OneT 24 := oneT_of (by kernel_rfl) (by kernel_rfl)
theorem one29 : OneT 34 := oneT_of (by kernel_rfl) (by kernel_rfl)
section
variable {kk : Nat → Value} {O TM TL : Nat → Prop} {w : World} {Y F q n : Nat} {tF : TypeId} {c d : Nat → Value} {W : YW} {start : List (Nat × Nat × Nat)} {st : ASt} {f : AFrame}
set_option maxRecDepth 100000 in
set_option maxHeartbeats 6400000 in
theorem yBaseFee (hX : YX kk O TM TL w Y F q n tF c d W start st f) : Calls Hvah.prog 79 #[.pointer (some ⟨Y, 0, none⟩)] w fun e w' => ∃ r, e = .returned r ∧ NV O w' r st.env.baseFee ∧ Ext w w' := by
  have hO := hX.small
  go_enter Hvah.func79, Hvah.ntmps79
  go_wp2_with (go_at_call 43; refine (nFromB (hO.ext (by (repeat (first | with_reducible exact Ext.refl _ | with_reducible assumption | refine Ext.trans ?_ (by with_reducible assumption) | refine Ext.alloc ?_ _ _ | refine Ext.drew ?_ | refine Ext.drewN ?_ _)))) ((hX.ext (by (repeat (first | with_reducible exact Ext.refl _ | with_reducible assumption | refine Ext.trans ?_ (by with_reducible assumption) | refine Ext.alloc ?_ _ _ | refine Ext.drew ?_ | refine Ext.drewN ?_ _)))).bY) hX.env.baseFee hX.env.bLt (by decide)).mono ?_; rintro e w1 ⟨r, rfl, hr, he⟩)
  go_ret
  exact ⟨_, rfl, hr, he⟩
set_option maxRecDepth 100000 in
set_option maxHeartbeats 6400000 in
theorem yBlock65 (hX : YX kk O TM TL w Y F q n tF c d W start st f) {va : Value} {a : Nat} (_ha : NV O w va a) : Calls Hvah.prog 239 #[.pointer (some ⟨Y, 0, none⟩), .int .u8 65, va] w fun e w' => ∃ r, e = .returned r ∧ NV O w' r (st.env.value 65 a) ∧ Ext w w' := by
  have hO := hX.small
  go_enter Hvah.func239, Hvah.ntmps239
  go_wp2_with (first
    | (go_at_call 43; refine (nFromA (hO.ext (by (repeat (first | with_reducible exact Ext.refl _ | with_reducible assumption | refine Ext.trans ?_ (by with_reducible assumption) | refine Ext.alloc ?_ _ _ | refine Ext.drew ?_ | refine Ext.drewN ?_ _)))) ((hX.ext (by (repeat (first | with_reducible exact Ext.refl _ | with_reducible assumption | refine Ext.trans ?_ (by with_reducible assumption) | refine Ext.alloc ?_ _ _ | refine Ext.drew ?_ | refine Ext.drewN ?_ _)))).bY) hX.env.coinbase hX.env.cLt (by decide)).mono ?_; rintro e w1 ⟨r, rfl, hr, he⟩))
  go_ret
  exact ⟨_, rfl, NV.ext hr (by (repeat (first | with_reducible exact Ext.refl _ | with_reducible assumption | refine Ext.trans ?_ (by with_reducible assumption) | refine Ext.alloc ?_ _ _ | refine Ext.drew ?_ | refine Ext.drewN ?_ _))), by (repeat (first | with_reducible exact Ext.refl _ | with_reducible assumption | refine Ext.trans ?_ (by with_reducible assumption) | refine Ext.alloc ?_ _ _ | refine Ext.drew ?_ | refine Ext.drewN ?_ _))⟩
set_option maxRecDepth 100000 in
set_option maxHeartbeats 6400000 in
theorem yBlock66 (hX : YX kk O TM TL w Y F q n tF c d W start st f) {va : Value} {a : Nat} (_ha : NV O w va a) : Calls Hvah.prog 239 #[.pointer (some ⟨Y, 0, none⟩), .int .u8 66, va] w fun e w' => ∃ r, e = .returned r ∧ NV O w' r (st.env.value 66 a) ∧ Ext w w' := by
  have hO := hX.small
  have e1 := hX.env.time
  have e2 := hX.env.tLt
  go_enter Hvah.func239, Hvah.ntmps239
  go_wp2_with (first
    | ((with_reducible (refine Veil.out ?_; apply wl_load1 one26)); (case hx => rfl); (case hB => exact (hX.bY.ext (by (repeat (first | with_reducible exact Ext.refl _ | with_reducible assumption | refine Ext.trans ?_ (by with_reducible assumption) | refine Ext.alloc ?_ _ _ | refine Ext.drew ?_ | refine Ext.drewN ?_ _))))); (case ho => first | decide | (have := hX.hq; omega)))
    | (go_at_call 42; refine (nNum O _ _ (hO.ext (by (repeat (first | with_reducible exact Ext.refl _ | with_reducible assumption | refine Ext.trans ?_ (by with_reducible assumption) | refine Ext.alloc ?_ _ _ | refine Ext.drew ?_ | refine Ext.drewN ?_ _)))) e2).mono ?_; rintro e w1 ⟨r, rfl, hr, he⟩))
  go_ret
  exact ⟨_, rfl, NV.ext hr (by (repeat (first | with_reducible exact Ext.refl _ | with_reducible assumption | refine Ext.trans ?_ (by with_reducible assumption) | refine Ext.alloc ?_ _ _ | refine Ext.drew ?_ | refine Ext.drewN ?_ _))), by (repeat (first | with_reducible exact Ext.refl _ | with_reducible assumption | refine Ext.trans ?_ (by with_reducible assumption) | refine Ext.alloc ?_ _ _ | refine Ext.drew ?_ | refine Ext.drewN ?_ _))⟩
set_option maxRecDepth 100000 in
set_option maxHeartbeats 6400000 in
theorem yBlock67 (hX : YX kk O TM TL w Y F q n tF c d W start st f) {va : Value} {a : Nat} (_ha : NV O w va a) : Calls Hvah.prog 239 #[.pointer (some ⟨Y, 0, none⟩), .int .u8 67, va] w fun e w' => ∃ r, e = .returned r ∧ NV O w' r (st.env.value 67 a) ∧ Ext w w' := by
  have hO := hX.small
  have e1 := hX.env.number
  have e2 := hX.env.nLt
  go_enter Hvah.func239, Hvah.ntmps239
  go_wp2_with (first
    | ((with_reducible (refine Veil.out ?_; apply wl_load1 one26)); (case hx => rfl); (case hB => exact (hX.bY.ext (by (repeat (first | with_reducible exact Ext.refl _ | with_reducible assumption | refine Ext.trans ?_ (by with_reducible assumption) | refine Ext.alloc ?_ _ _ | refine Ext.drew ?_ | refine Ext.drewN ?_ _))))); (case ho => first | decide | (have := hX.hq; omega)))
    | (go_at_call 42; refine (nNum O _ _ (hO.ext (by (repeat (first | with_reducible exact Ext.refl _ | with_reducible assumption | refine Ext.trans ?_ (by with_reducible assumption) | refine Ext.alloc ?_ _ _ | refine Ext.drew ?_ | refine Ext.drewN ?_ _)))) e2).mono ?_; rintro e w1 ⟨r, rfl, hr, he⟩))
  go_ret
  exact ⟨_, rfl, NV.ext hr (by (repeat (first | with_reducible exact Ext.refl _ | with_reducible assumption | refine Ext.trans ?_ (by with_reducible assumption) | refine Ext.alloc ?_ _ _ | refine Ext.drew ?_ | refine Ext.drewN ?_ _))), by (repeat (first | with_reducible exact Ext.refl _ | with_reducible assumption | refine Ext.trans ?_ (by with_reducible assumption) | refine Ext.alloc ?_ _ _ | refine Ext.drew ?_ | refine Ext.drewN ?_ _))⟩
set_option maxRecDepth 100000 in
set_option maxHeartbeats 6400000 in
theorem yBlock68 (hX : YX kk O TM TL w Y F q n tF c d W start st f) {va : Value} {a : Nat} (_ha : NV O w va a) : Calls Hvah.prog 239 #[.pointer (some ⟨Y, 0, none⟩), .int .u8 68, va] w fun e w' => ∃ r, e = .returned r ∧ NV O w' r (st.env.value 68 a) ∧ Ext w w' := by
  have hO := hX.small
  go_enter Hvah.func239, Hvah.ntmps239
  go_wp2_with (first
    | (go_at_call 43; refine (nFromB (hO.ext (by (repeat (first | with_reducible exact Ext.refl _ | with_reducible assumption | refine Ext.trans ?_ (by with_reducible assumption) | refine Ext.alloc ?_ _ _ | refine Ext.drew ?_ | refine Ext.drewN ?_ _)))) ((hX.ext (by (repeat (first | with_reducible exact Ext.refl _ | with_reducible assumption | refine Ext.trans ?_ (by with_reducible assumption) | refine Ext.alloc ?_ _ _ | refine Ext.drew ?_ | refine Ext.drewN ?_ _)))).bY) hX.env.randao hX.env.rLt (by decide)).mono ?_; rintro e w1 ⟨r, rfl, hr, he⟩))
  go_ret
  exact ⟨_, rfl, NV.ext hr (by (repeat (first | with_reducible exact Ext.refl _ | with_reducible assumption | refine Ext.trans ?_ (by with_reducible assumption) | refine Ext.alloc ?_ _ _ | refine Ext.drew ?_ | refine Ext.drewN ?_ _))), by (repeat (first | with_reducible exact Ext.refl _ | with_reducible assumption | refine Ext.trans ?_ (by with_reducible assumption) | refine Ext.alloc ?_ _ _ | refine Ext.drew ?_ | refine Ext.drewN ?_ _))⟩
set_option maxRecDepth 100000 in
set_option maxHeartbeats 6400000 in
theorem yBlock69 (hX : YX kk O TM TL w Y F q n tF c d W start st f) {va : Value} {a : Nat} (_ha : NV O w va a) : Calls Hvah.prog 239 #[.pointer (some ⟨Y, 0, none⟩), .int .u8 69, va] w fun e w' => ∃ r, e = .returned r ∧ NV O w' r (st.env.value 69 a) ∧ Ext w w' := by
  have hO := hX.small
  have e1 := hX.env.gasLimit
  have e2 := hX.env.gLt
  go_enter Hvah.func239, Hvah.ntmps239
  go_wp2_with (first
    | ((with_reducible (refine Veil.out ?_; apply wl_load1 one26)); (case hx => rfl); (case hB => exact (hX.bY.ext (by (repeat (first | with_reducible exact Ext.refl _ | with_reducible assumption | refine Ext.trans ?_ (by with_reducible assumption) | refine Ext.alloc ?_ _ _ | refine Ext.drew ?_ | refine Ext.drewN ?_ _))))); (case ho => first | decide | (have := hX.hq; omega)))
    | (go_at_call 42; refine (nNum O _ _ (hO.ext (by (repeat (first | with_reducible exact Ext.refl _ | with_reducible assumption | refine Ext.trans ?_ (by with_reducible assumption) | refine Ext.alloc ?_ _ _ | refine Ext.drew ?_ | refine Ext.drewN ?_ _)))) e2).mono ?_; rintro e w1 ⟨r, rfl, hr, he⟩))
  go_ret
  exact ⟨_, rfl, NV.ext hr (by (repeat (first | with_reducible exact Ext.refl _ | with_reducible assumption | refine Ext.trans ?_ (by with_reducible assumption) | refine Ext.alloc ?_ _ _ | refine Ext.drew ?_ | refine Ext.drewN ?_ _))), by (repeat (first | with_reducible exact Ext.refl _ | with_reducible assumption | refine Ext.trans ?_ (by with_reducible assumption) | refine Ext.alloc ?_ _ _ | refine Ext.drew ?_ | refine Ext.drewN ?_ _))⟩
set_option maxRecDepth 100000 in
set_option maxHeartbeats 6400000 in
theorem yBlock70 (hX : YX kk O TM TL w Y F q n tF c d W start st f) {va : Value} {a : Nat} (_ha : NV O w va a) : Calls Hvah.prog 239 #[.pointer (some ⟨Y, 0, none⟩), .int .u8 70, va] w fun e w' => ∃ r, e = .returned r ∧ NV O w' r (st.env.value 70 a) ∧ Ext w w' := by
  have hO := hX.small
  go_enter Hvah.func239, Hvah.ntmps239
  go_wp2_with (first
    | (go_at_call 43; refine (nFromB (hO.ext (by (repeat (first | with_reducible exact Ext.refl _ | with_reducible assumption | refine Ext.trans ?_ (by with_reducible assumption) | refine Ext.alloc ?_ _ _ | refine Ext.drew ?_ | refine Ext.drewN ?_ _)))) ((hX.ext (by (repeat (first | with_reducible exact Ext.refl _ | with_reducible assumption | refine Ext.trans ?_ (by with_reducible assumption) | refine Ext.alloc ?_ _ _ | refine Ext.drew ?_ | refine Ext.drewN ?_ _)))).bY) hX.env.chainID hX.env.iLt (by decide)).mono ?_; rintro e w1 ⟨r, rfl, hr, he⟩))
  go_ret
  exact ⟨_, rfl, NV.ext hr (by (repeat (first | with_reducible exact Ext.refl _ | with_reducible assumption | refine Ext.trans ?_ (by with_reducible assumption) | refine Ext.alloc ?_ _ _ | refine Ext.drew ?_ | refine Ext.drewN ?_ _))), by (repeat (first | with_reducible exact Ext.refl _ | with_reducible assumption | refine Ext.trans ?_ (by with_reducible assumption) | refine Ext.alloc ?_ _ _ | refine Ext.drew ?_ | refine Ext.drewN ?_ _))⟩
set_option maxRecDepth 100000 in
set_option maxHeartbeats 6400000 in
theorem yBlock72 (hX : YX kk O TM TL w Y F q n tF c d W start st f) {va : Value} {a : Nat} (_ha : NV O w va a) : Calls Hvah.prog 239 #[.pointer (some ⟨Y, 0, none⟩), .int .u8 72, va] w fun e w' => ∃ r, e = .returned r ∧ NV O w' r (st.env.value 72 a) ∧ Ext w w' := by
  have hO := hX.small
  go_enter Hvah.func239, Hvah.ntmps239
  go_wp2_with (first
    | (go_at_call 79; refine (yBaseFee (hX.ext (by (repeat (first | with_reducible exact Ext.refl _ | with_reducible assumption | refine Ext.trans ?_ (by with_reducible assumption) | refine Ext.alloc ?_ _ _ | refine Ext.drew ?_ | refine Ext.drewN ?_ _))))).mono ?_; rintro e w1 ⟨r, rfl, hr, he⟩))
  go_ret
  exact ⟨_, rfl, NV.ext hr (by (repeat (first | with_reducible exact Ext.refl _ | with_reducible assumption | refine Ext.trans ?_ (by with_reducible assumption) | refine Ext.alloc ?_ _ _ | refine Ext.drew ?_ | refine Ext.drewN ?_ _))), by (repeat (first | with_reducible exact Ext.refl _ | with_reducible assumption | refine Ext.trans ?_ (by with_reducible assumption) | refine Ext.alloc ?_ _ _ | refine Ext.drew ?_ | refine Ext.drewN ?_ _))⟩
set_option maxRecDepth 100000 in
set_option maxHeartbeats 6400000 in
theorem yBlock64 (hX : YX kk O TM TL w Y F q n tF c d W start st f) {va : Value} {a : Nat} (ha : NV O w va a) (hal : a < P256) : Calls Hvah.prog 239 #[.pointer (some ⟨Y, 0, none⟩), .int .u8 64, va] w fun e w' => ∃ r, e = .returned r ∧ NV O w' r (st.env.value 64 a) ∧ Ext w w' := by
  have hO := hX.small
  have e1 := hX.env.number
  have e2 := hX.env.nLt
  have hda : dl a ≤ 2000 := Nat.le_trans (dl_P256' hal) (by decide)
  have hev : st.env.value 64 a = if a < st.env.number then st.env.hashes.getD (st.env.number - (a + 1)) 0 else 0 := rfl
  have hwl := hX.env.hashes
  have hfew := hX.env.few
  have hfi : (st.env.hashes.length : Int) ≤ 4 := by omega
  have hcs : ∃ os cps, c 178 = .slice os st.env.hashes.length cps := by
    rcases hwl with ⟨h1, h2⟩ | ⟨b, off, cap, h1, _⟩
    · exact ⟨none, 0, by rw [h1]; exact h2⟩
    · exact ⟨_, _, h1⟩
  obtain ⟨os, cps, h178⟩ := hcs
  by_cases hlt : a < st.env.number
  · have hle : decide (a + 1 ≤ st.env.number) = true := decide_eq_true (by omega)
    by_cases hin : st.env.number - (a + 1) < st.env.hashes.length
    · rcases hwl with ⟨h1, h2⟩ | ⟨b, off, cap, h1, h2, h3, h4, h5, h6⟩
      · rw [h1] at hin; cases hin
      · obtain ⟨hl, hrow⟩ := h6 _ hin
        rw [h178] at h1
        injection h1 with h1 _ _
        subst h1
        have HP := fun W v (hv : NV O W v (st.env.number - (a + 1))) => yPlace hv st.env.hashes.length (by omega)
        rw [if_pos hin, decide_eq_true hin] at HP
        rw [hev, if_pos hlt, show st.env.hashes.getD (st.env.number - (a + 1)) 0 = st.env.hashes[st.env.number - (a + 1)] by simp [List.getD, hin]]
        have HF := fun W (hW : Ext w W) => nFromR (hO.ext hW) (hrow.ext h5 hW) hl (Nat.lt_of_lt_of_le h5 hW.size)
        clear hev
        have hini : ((st.env.number - (a + 1) : Nat) : Int) < st.env.hashes.length := by omega
        generalize st.env.hashes[st.env.number - (a + 1)] = z at *
        obtain ⟨m, hm⟩ : ∃ m, Hid (st.env.number - (a + 1) = m) := ⟨_, rfl⟩
        rw [hm.out] at HP hin hini hrow HF
        clear hrow
        go_enter Hvah.func239, Hvah.ntmps239
        go_wp2_with (first
          | ((with_reducible (refine Veil.out ?_; apply wl_load1 one26)); (case hx => rfl); (case hB => exact (hX.bY.ext (by (repeat (first | with_reducible exact Ext.refl _ | with_reducible assumption | refine Ext.trans ?_ (by with_reducible assumption) | refine Ext.alloc ?_ _ _ | refine Ext.drew ?_ | refine Ext.drewN ?_ _))))); (case ho => first | decide | (have := hX.hq; omega)))
          | ((with_reducible (refine Veil.out ?_; apply wl_load1 one29)); (case hx => rfl); (case hB => exact (hX.bY.ext (by (repeat (first | with_reducible exact Ext.refl _ | with_reducible assumption | refine Ext.trans ?_ (by with_reducible assumption) | refine Ext.alloc ?_ _ _ | refine Ext.drew ?_ | refine Ext.drewN ?_ _))))); (case ho => first | decide | (have := hX.hq; omega)))
          | (go_at_call_of 42 (Value.int IntKind.u64 (st.env.number : Nat)); refine (nNum O _ _ (hO.ext (by (repeat (first | with_reducible exact Ext.refl _ | with_reducible assumption | refine Ext.trans ?_ (by with_reducible assumption) | refine Ext.alloc ?_ _ _ | refine Ext.drew ?_ | refine Ext.drewN ?_ _)))) e2).mono ?_; rintro e w1 ⟨r, rfl, hr, he⟩)
          | (go_at_call 42; refine (nNum O _ _ (hO.ext (by (repeat (first | with_reducible exact Ext.refl _ | with_reducible assumption | refine Ext.trans ?_ (by with_reducible assumption) | refine Ext.alloc ?_ _ _ | refine Ext.drew ?_ | refine Ext.drewN ?_ _)))) (by first | decide | omega)).mono ?_; rintro e w1 ⟨r, rfl, hr, he⟩)
          | (go_at_call 44; refine (nAdd O _ _ _ _ _ (hO.ext (by (repeat (first | with_reducible exact Ext.refl _ | with_reducible assumption | refine Ext.trans ?_ (by with_reducible assumption) | refine Ext.alloc ?_ _ _ | refine Ext.drew ?_ | refine Ext.drewN ?_ _)))) (by first | exact (NV.ext (by with_reducible assumption) (by (repeat (first | with_reducible exact Ext.refl _ | with_reducible assumption | refine Ext.trans ?_ (by with_reducible assumption) | refine Ext.alloc ?_ _ _ | refine Ext.drew ?_ | refine Ext.drewN ?_ _)))) | exact NV.nil) (by first | exact (NV.ext (by with_reducible assumption) (by (repeat (first | with_reducible exact Ext.refl _ | with_reducible assumption | refine Ext.trans ?_ (by with_reducible assumption) | refine Ext.alloc ?_ _ _ | refine Ext.drew ?_ | refine Ext.drewN ?_ _)))) | exact NV.nil) (by repeat (first | with_reducible assumption | exact Nat.le_trans (by with_reducible assumption) (by decide) | exact Nat.le_trans (hok.adl _) (by decide) | exact Nat.le_trans (dl_u64 _ (by first | decide | omega)) (by decide) | refine dl_end' ?_ ?_ | refine dl_max' ?_ ?_ | refine dl_add' ?_ ?_ | refine dl_words' ?_ | refine dl_mul' ?_ ?_ | decide)) (by repeat (first | with_reducible assumption | exact Nat.le_trans (by with_reducible assumption) (by decide) | exact Nat.le_trans (hok.adl _) (by decide) | exact Nat.le_trans (dl_u64 _ (by first | decide | omega)) (by decide) | refine dl_end' ?_ ?_ | refine dl_max' ?_ ?_ | refine dl_add' ?_ ?_ | refine dl_words' ?_ | refine dl_mul' ?_ ?_ | decide))).mono ?_; rintro e w1 ⟨r, rfl, hr, he⟩)
          | (go_at_call 134; refine (nSub O _ _ _ _ _ (hO.ext (by (repeat (first | with_reducible exact Ext.refl _ | with_reducible assumption | refine Ext.trans ?_ (by with_reducible assumption) | refine Ext.alloc ?_ _ _ | refine Ext.drew ?_ | refine Ext.drewN ?_ _)))) (NV.ext (by with_reducible assumption) (by (repeat (first | with_reducible exact Ext.refl _ | with_reducible assumption | refine Ext.trans ?_ (by with_reducible assumption) | refine Ext.alloc ?_ _ _ | refine Ext.drew ?_ | refine Ext.drewN ?_ _)))) (NV.ext (by with_reducible assumption) (by (repeat (first | with_reducible exact Ext.refl _ | with_reducible assumption | refine Ext.trans ?_ (by with_reducible assumption) | refine Ext.alloc ?_ _ _ | refine Ext.drew ?_ | refine Ext.drewN ?_ _))))).mono ?_; rintro e w1 ⟨r, rfl, hr, he⟩; rw [hle]; replace hr := hr.cast hm.out)
          | (go_at_call 145; refine (HP _ _ (by assumption)).mono ?_; rintro e w1 ⟨rfl, hww⟩; replace hww := hww.symm; subst hww)
          | (go_at_call 43; refine (HF _ (by (repeat (first | with_reducible exact Ext.refl _ | with_reducible assumption | refine Ext.trans ?_ (by with_reducible assumption) | refine Ext.alloc ?_ _ _ | refine Ext.drew ?_ | refine Ext.drewN ?_ _)))).mono ?_; rintro e w1 ⟨r, rfl, hr, he⟩))
        go_ret
        exact ⟨_, rfl, NV.ext hr (by (repeat (first | with_reducible exact Ext.refl _ | with_reducible assumption | refine Ext.trans ?_ (by with_reducible assumption) | refine Ext.alloc ?_ _ _ | refine Ext.drew ?_ | refine Ext.drewN ?_ _))), by (repeat (first | with_reducible exact Ext.refl _ | with_reducible assumption | refine Ext.trans ?_ (by with_reducible assumption) | refine Ext.alloc ?_ _ _ | refine Ext.drew ?_ | refine Ext.drewN ?_ _))⟩
    · have HP := fun W v (hv : NV O W v (st.env.number - (a + 1))) => yPlace hv st.env.hashes.length (by omega)
      rw [if_neg hin, decide_eq_false hin] at HP
      rw [hev, if_pos hlt, show st.env.hashes.getD (st.env.number - (a + 1)) 0 = 0 by simp [List.getD, Nat.le_of_not_lt hin]]
      clear hev
      obtain ⟨m, hm⟩ : ∃ m, Hid (st.env.number - (a + 1) = m) := ⟨_, rfl⟩
      rw [hm.out] at HP
      clear hin
      go_enter Hvah.func239, Hvah.ntmps239
      go_wp2_with (first
        | ((with_reducible (refine Veil.out ?_; apply wl_load1 one26)); (case hx => rfl); (case hB => exact (hX.bY.ext (by (repeat (first | with_reducible exact Ext.refl _ | with_reducible assumption | refine Ext.trans ?_ (by with_reducible assumption) | refine Ext.alloc ?_ _ _ | refine Ext.drew ?_ | refine Ext.drewN ?_ _))))); (case ho => first | decide | (have := hX.hq; omega)))
        | ((with_reducible (refine Veil.out ?_; apply wl_load1 one29)); (case hx => rfl); (case hB => exact (hX.bY.ext (by (repeat (first | with_reducible exact Ext.refl _ | with_reducible assumption | refine Ext.trans ?_ (by with_reducible assumption) | refine Ext.alloc ?_ _ _ | refine Ext.drew ?_ | refine Ext.drewN ?_ _))))); (case ho => first | decide | (have := hX.hq; omega)))
        | (go_at_call_of 42 (Value.int IntKind.u64 (st.env.number : Nat)); refine (nNum O _ _ (hO.ext (by (repeat (first | with_reducible exact Ext.refl _ | with_reducible assumption | refine Ext.trans ?_ (by with_reducible assumption) | refine Ext.alloc ?_ _ _ | refine Ext.drew ?_ | refine Ext.drewN ?_ _)))) e2).mono ?_; rintro e w1 ⟨r, rfl, hr, he⟩)
        | (go_at_call 42; refine (nNum O _ _ (hO.ext (by (repeat (first | with_reducible exact Ext.refl _ | with_reducible assumption | refine Ext.trans ?_ (by with_reducible assumption) | refine Ext.alloc ?_ _ _ | refine Ext.drew ?_ | refine Ext.drewN ?_ _)))) (by first | decide | omega)).mono ?_; rintro e w1 ⟨r, rfl, hr, he⟩)
        | (go_at_call 44; refine (nAdd O _ _ _ _ _ (hO.ext (by (repeat (first | with_reducible exact Ext.refl _ | with_reducible assumption | refine Ext.trans ?_ (by with_reducible assumption) | refine Ext.alloc ?_ _ _ | refine Ext.drew ?_ | refine Ext.drewN ?_ _)))) (by first | exact (NV.ext (by with_reducible assumption) (by (repeat (first | with_reducible exact Ext.refl _ | with_reducible assumption | refine Ext.trans ?_ (by with_reducible assumption) | refine Ext.alloc ?_ _ _ | refine Ext.drew ?_ | refine Ext.drewN ?_ _)))) | exact NV.nil) (by first | exact (NV.ext (by with_reducible assumption) (by (repeat (first | with_reducible exact Ext.refl _ | with_reducible assumption | refine Ext.trans ?_ (by with_reducible assumption) | refine Ext.alloc ?_ _ _ | refine Ext.drew ?_ | refine Ext.drewN ?_ _)))) | exact NV.nil) (by repeat (first | with_reducible assumption | exact Nat.le_trans (by with_reducible assumption) (by decide) | exact Nat.le_trans (hok.adl _) (by decide) | exact Nat.le_trans (dl_u64 _ (by first | decide | omega)) (by decide) | refine dl_end' ?_ ?_ | refine dl_max' ?_ ?_ | refine dl_add' ?_ ?_ | refine dl_words' ?_ | refine dl_mul' ?_ ?_ | decide)) (by repeat (first | with_reducible assumption | exact Nat.le_trans (by with_reducible assumption) (by decide) | exact Nat.le_trans (hok.adl _) (by decide) | exact Nat.le_trans (dl_u64 _ (by first | decide | omega)) (by decide) | refine dl_end' ?_ ?_ | refine dl_max' ?_ ?_ | refine dl_add' ?_ ?_ | refine dl_words' ?_ | refine dl_mul' ?_ ?_ | decide))).mono ?_; rintro e w1 ⟨r, rfl, hr, he⟩)
        | (go_at_call 134; refine (nSub O _ _ _ _ _ (hO.ext (by (repeat (first | with_reducible exact Ext.refl _ | with_reducible assumption | refine Ext.trans ?_ (by with_reducible assumption) | refine Ext.alloc ?_ _ _ | refine Ext.drew ?_ | refine Ext.drewN ?_ _)))) (NV.ext (by with_reducible assumption) (by (repeat (first | with_reducible exact Ext.refl _ | with_reducible assumption | refine Ext.trans ?_ (by with_reducible assumption) | refine Ext.alloc ?_ _ _ | refine Ext.drew ?_ | refine Ext.drewN ?_ _)))) (NV.ext (by with_reducible assumption) (by (repeat (first | with_reducible exact Ext.refl _ | with_reducible assumption | refine Ext.trans ?_ (by with_reducible assumption) | refine Ext.alloc ?_ _ _ | refine Ext.drew ?_ | refine Ext.drewN ?_ _))))).mono ?_; rintro e w1 ⟨r, rfl, hr, he⟩; rw [hle]; replace hr := hr.cast hm.out)
        | (go_at_call 145; refine (HP _ _ (by assumption)).mono ?_; rintro e w1 ⟨rfl, hww⟩; replace hww := hww.symm; subst hww)
        | (go_at_call 43; refine (HF _ (by (repeat (first | with_reducible exact Ext.refl _ | with_reducible assumption | refine Ext.trans ?_ (by with_reducible assumption) | refine Ext.alloc ?_ _ _ | refine Ext.drew ?_ | refine Ext.drewN ?_ _)))).mono ?_; rintro e w1 ⟨r, rfl, hr, he⟩))
      go_ret
      exact ⟨_, rfl, NV.nil, by (repeat (first | with_reducible exact Ext.refl _ | with_reducible assumption | refine Ext.trans ?_ (by with_reducible assumption) | refine Ext.alloc ?_ _ _ | refine Ext.drew ?_ | refine Ext.drewN ?_ _))⟩
  · rw [hev, if_neg hlt]
    clear hev
    have hle : decide (a + 1 ≤ st.env.number) = false := decide_eq_false (by omega)
    obtain ⟨m, hm⟩ : ∃ m, Hid (st.env.number - (a + 1) = m) := ⟨_, rfl⟩
    go_enter Hvah.func239, Hvah.ntmps239
    go_wp2_with (first
      | ((with_reducible (refine Veil.out ?_; apply wl_load1 one26)); (case hx => rfl); (case hB => exact (hX.bY.ext (by (repeat (first | with_reducible exact Ext.refl _ | with_reducible assumption | refine Ext.trans ?_ (by with_reducible assumption) | refine Ext.alloc ?_ _ _ | refine Ext.drew ?_ | refine Ext.drewN ?_ _))))); (case ho => first | decide | (have := hX.hq; omega)))
      | ((with_reducible (refine Veil.out ?_; apply wl_load1 one29)); (case hx => rfl); (case hB => exact (hX.bY.ext (by (repeat (first | with_reducible exact Ext.refl _ | with_reducible assumption | refine Ext.trans ?_ (by with_reducible assumption) | refine Ext.alloc ?_ _ _ | refine Ext.drew ?_ | refine Ext.drewN ?_ _))))); (case ho => first | decide | (have := hX.hq; omega)))
      | (go_at_call_of 42 (Value.int IntKind.u64 (st.env.number : Nat)); refine (nNum O _ _ (hO.ext (by (repeat (first | with_reducible exact Ext.refl _ | with_reducible assumption | refine Ext.trans ?_ (by with_reducible assumption) | refine Ext.alloc ?_ _ _ | refine Ext.drew ?_ | refine Ext.drewN ?_ _)))) e2).mono ?_; rintro e w1 ⟨r, rfl, hr, he⟩)
      | (go_at_call 42; refine (nNum O _ _ (hO.ext (by (repeat (first | with_reducible exact Ext.refl _ | with_reducible assumption | refine Ext.trans ?_ (by with_reducible assumption) | refine Ext.alloc ?_ _ _ | refine Ext.drew ?_ | refine Ext.drewN ?_ _)))) (by first | decide | omega)).mono ?_; rintro e w1 ⟨r, rfl, hr, he⟩)
      | (go_at_call 44; refine (nAdd O _ _ _ _ _ (hO.ext (by (repeat (first | with_reducible exact Ext.refl _ | with_reducible assumption | refine Ext.trans ?_ (by with_reducible assumption) | refine Ext.alloc ?_ _ _ | refine Ext.drew ?_ | refine Ext.drewN ?_ _)))) (by first | exact (NV.ext (by with_reducible assumption) (by (repeat (first | with_reducible exact Ext.refl _ | with_reducible assumption | refine Ext.trans ?_ (by with_reducible assumption) | refine Ext.alloc ?_ _ _ | refine Ext.drew ?_ | refine Ext.drewN ?_ _)))) | exact NV.nil) (by first | exact (NV.ext (by with_reducible assumption) (by (repeat (first | with_reducible exact Ext.refl _ | with_reducible assumption | refine Ext.trans ?_ (by with_reducible assumption) | refine Ext.alloc ?_ _ _ | refine Ext.drew ?_ | refine Ext.drewN ?_ _)))) | exact NV.nil) (by repeat (first | with_reducible assumption | exact Nat.le_trans (by with_reducible assumption) (by decide) | exact Nat.le_trans (hok.adl _) (by decide) | exact Nat.le_trans (dl_u64 _ (by first | decide | omega)) (by decide) | refine dl_end' ?_ ?_ | refine dl_max' ?_ ?_ | refine dl_add' ?_ ?_ | refine dl_words' ?_ | refine dl_mul' ?_ ?_ | decide)) (by repeat (first | with_reducible assumption | exact Nat.le_trans (by with_reducible assumption) (by decide) | exact Nat.le_trans (hok.adl _) (by decide) | exact Nat.le_trans (dl_u64 _ (by first | decide | omega)) (by decide) | refine dl_end' ?_ ?_ | refine dl_max' ?_ ?_ | refine dl_add' ?_ ?_ | refine dl_words' ?_ | refine dl_mul' ?_ ?_ | decide))).mono ?_; rintro e w1 ⟨r, rfl, hr, he⟩)
      | (go_at_call 134; refine (nSub O _ _ _ _ _ (hO.ext (by (repeat (first | with_reducible exact Ext.refl _ | with_reducible assumption | refine Ext.trans ?_ (by with_reducible assumption) | refine Ext.alloc ?_ _ _ | refine Ext.drew ?_ | refine Ext.drewN ?_ _)))) (NV.ext (by with_reducible assumption) (by (repeat (first | with_reducible exact Ext.refl _ | with_reducible assumption | refine Ext.trans ?_ (by with_reducible assumption) | refine Ext.alloc ?_ _ _ | refine Ext.drew ?_ | refine Ext.drewN ?_ _)))) (NV.ext (by with_reducible assumption) (by (repeat (first | with_reducible exact Ext.refl _ | with_reducible assumption | refine Ext.trans ?_ (by with_reducible assumption) | refine Ext.alloc ?_ _ _ | refine Ext.drew ?_ | refine Ext.drewN ?_ _))))).mono ?_; rintro e w1 ⟨r, rfl, hr, he⟩; rw [hle]; replace hr := hr.cast hm.out)
      | (go_at_call 145; refine (HP _ _ (by assumption)).mono ?_; rintro e w1 ⟨rfl, hww⟩; replace hww := hww.symm; subst hww)
      | (go_at_call 43; refine (HF _ (by (repeat (first | with_reducible exact Ext.refl _ | with_reducible assumption | refine Ext.trans ?_ (by with_reducible assumption) | refine Ext.alloc ?_ _ _ | refine Ext.drew ?_ | refine Ext.drewN ?_ _)))).mono ?_; rintro e w1 ⟨r, rfl, hr, he⟩))
    go_ret
    exact ⟨_, rfl, NV.nil, by (repeat (first | with_reducible exact Ext.refl _ | with_reducible assumption | refine Ext.trans ?_ (by with_reducible assumption) | refine Ext.alloc ?_ _ _ | refine Ext.drew ?_ | refine Ext.drewN ?_ _))⟩
theorem yBlockValue (hX : YX kk O TM TL w Y F q n tF c d W start st f) (o : Nat) (ho : (64 ≤ o ∧ o ≤ 70) ∨ o = 72) {va : Value} {a : Nat} (ha : NV O w va a) (hal : a < P256) : Calls Hvah.prog 239 #[.pointer (some ⟨Y, 0, none⟩), .int .u8 o, va] w fun e w' => ∃ r, e = .returned r ∧ NV O w' r (st.env.value o a) ∧ Ext w w' := by
  rcases (show o = 64 ∨ o = 65 ∨ o = 66 ∨ o = 67 ∨ o = 68 ∨ o = 69 ∨ o = 70 ∨ o = 72 by omega) with rfl | rfl | rfl | rfl | rfl | rfl | rfl | rfl
  · exact yBlock64 hX ha hal
  · exact yBlock65 hX ha
  · exact yBlock66 hX ha
  · exact yBlock67 hX ha
  · exact yBlock68 hX ha
  · exact yBlock69 hX ha
  · exact yBlock70 hX ha
  · exact yBlock72 hX ha
end
end Go.Proofs.YgvahwGreat
