import Derived.Test.YgvahwGreatDn
import Derived.Test.YgvahwGreatKd
import Derived.Test.YgvahwGreatU256H
namespace Go.Proofs.YgvahwGreat
open Go.RowKit
set_option linter.unusedSimpArgs false

/-- A number by its limbs. -/
def fsum (p : Nat → Nat) : Nat → Nat
  | 0 => 0
  | n + 1 => fsum p n + Bn n * p n
theorem fsum_congr {p q : Nat → Nat} : ∀ n, (∀ i, i < n → p i = q i) → fsum p n = fsum q n
  | 0, _ => rfl
  | n + 1, h => by unfold fsum; rw [fsum_congr n (fun i hi => h i (by omega)), h n (by omega)]
theorem fsum_upd (p : Nat → Nat) (j y : Nat) : ∀ n, j < n → fsum (fun i => if i = j then y else p i) n + Bn j * p j = fsum p n + Bn j * y
  | 0, h => absurd h (Nat.not_lt_zero _)
  | n + 1, h => by
    unfold fsum
    by_cases e : n = j
    · subst e
      rw [if_pos rfl, fsum_congr n (fun i hi => by rw [if_neg (by omega)] : ∀ i, i < n → (if i = n then y else p i) = p i)]
      omega
    · rw [if_neg e]
      have := fsum_upd p j y n (by omega)
      omega
/-- Limbs in a block. -/
def FL (n : Nat) (c : Nat → Value) (p : Nat → Nat) : Prop := ∀ i, i < n → c i = .int .u64 (p i : Nat) ∧ p i < 18446744073709551616
theorem FL.put {n : Nat} {c : Nat → Value} {p : Nat → Nat} (h : FL n c p) (j j0 : Nat) (v : Value) (y : Nat) (e : j = j0) (hv : v = .int .u64 (y : Nat)) (hy : y < 18446744073709551616) : FL n (updv c j v) (fun i => if i = j0 then y else p i) := fun i hi => by
  subst e
  by_cases q : i = j
  · subst q; rw [updv_same]; simp [hv, hy]
  · rw [updv_ne _ _ q]; simp [q]; exact h i hi
theorem z406 : ∃ i, Hvah.prog.info? 414 = some i ∧ i.zero = some (.agg (Array.replicate 16 (.int .u64 0))) := ⟨Hvah.t414, by kernel_rfl, by kernel_rfl⟩
theorem rt406 : RowT 414 16 := rowT_of (by kernel_rfl) (by kernel_rfl)
theorem Bn_add (i k : Nat) : Bn (i + k) = Bn i * Bn k := Nat.pow_add _ _ _
theorem mulIn (S' S D pk lo hi xi yk cy RH : Nat) (h1 : S' + D * pk = S + D * lo) (h2 : lo + 18446744073709551616 * hi = xi * yk + pk + cy) (h3 : S + cy * D = RH) : S' + hi * (D * 18446744073709551616) = RH + D * (xi * yk) := by
  have h4 : D * lo + D * (18446744073709551616 * hi) = D * (xi * yk) + D * pk + D * cy := by rw [← Nat.mul_add, h2, Nat.mul_add, Nat.mul_add]
  have h5 : hi * (D * 18446744073709551616) = D * (18446744073709551616 * hi) := by rw [Nat.mul_comm, Nat.mul_assoc]
  rw [h5]
  rw [Nat.mul_comm cy D] at h3
  omega
theorem mulIn2 (i k xi yk f g : Nat) : f + xi * Bn i * g + Bn (i + k) * (xi * yk) = f + xi * Bn i * (g + Bn k * yk) := by
  rw [Nat.mul_add, ← Nat.add_assoc, Bn_add]
  congr 1
  rw [Nat.mul_comm (Bn i) (Bn k), Nat.mul_assoc, Nat.mul_comm (Bn k), Nat.mul_assoc, ← Nat.mul_assoc (Bn i), Nat.mul_comm (Bn i) (xi * yk), Nat.mul_assoc xi yk, Nat.mul_comm yk (Bn i), Nat.mul_assoc, Nat.mul_assoc, Nat.mul_comm yk (Bn k)]
  simp only [Nat.mul_assoc]
set_option maxRecDepth 100000 in
set_option maxHeartbeats 6400000 in
theorem uMul1024 {w : World} {ga gb : Nat} {ta tb : TypeId} {ca cb : Nat → Value} {x y : Nat → Nat} (hA : Blk w ga 8 ta ca) (hB : Blk w gb 8 tb cb) (fA : FL 8 ca x) (fB : FL 8 cb y) : Calls Hvah.prog 369 #[.pointer (some ⟨ga, 0, none⟩), .pointer (some ⟨gb, 0, none⟩)] w fun e w' => ∃ r p, e = .returned (.agg r) ∧ r.size = 16 ∧ FL 16 (cf r) p ∧ fsum p 16 = fsum x 8 * fsum y 8 ∧ Ext w w' := by
  go_enter Hvah.func369, Hvah.ntmps369
  go_upto_region 1 with (first | ((with_reducible (refine Veil.out ?_; apply wl_allocF z406)); rintro R W1 e1 bR gR))
  go_upto_region 3 with (first | ((with_reducible (refine Veil.out ?_; apply wl_allocF z406)); rintro P W2 e2 bP gP))
  try simp only [Act.put]
  have gPw : w.heap.size ≤ P := Nat.le_trans e1.size gP
  have hRP : ¬ R = P := fun q => by have := bR.lt; omega
  have bR2 := bR.ext e2
  have hE2 : Ext w W2 := e1.trans e2
  clear bR e1 e2
  go_loopw [14] (fun iv wr => ∃ (i : Nat) (cP : Nat → Value) (p : Nat → Nat), iv = .int .i64 (i : Nat) ∧ i ≤ 8 ∧ Blk wr P 16 414 cP ∧ FL 16 cP p ∧ fsum p 16 = fsum x i * fsum y 8 ∧ (∀ q, i + 8 ≤ q → p q = 0) ∧ Blk wr R 16 414 (fun _ => .int .u64 0) ∧ Ext w wr) (fun iv _ => 8 - (intOf iv).toNat)
  case atStart => exact ⟨0, _, fun _ => 0, rfl, by decide, bP, fun i hi => ⟨rfl, by show 0 < _; decide⟩, by show fsum (fun _ => 0) 16 = 0 * _; rw [Nat.zero_mul]; simp [fsum], fun q _ => rfl, bR2, hE2⟩
  case round =>
    clear bP bR2 hE2
    obtain ⟨i, cP, p, rfl, hi8, bP, fP, hsum, hzero, bR, hE⟩ := hrel
    rcases Nat.lt_or_ge i 8 with hlt | hge
    · have hii : (i : Int) < 8 := by omega
      obtain ⟨fA1, fA2⟩ := fA i hlt
      have hxs : fsum x (i + 1) = fsum x i + Bn i * x i := rfl
      obtain ⟨xi, hxi⟩ : ∃ v, Hid (x i = v) := ⟨_, rfl⟩
      rw [hxi.out] at fA1 fA2 hxs
      have KA : ∀ W q, Ext wr W → q = i → W.cell? ⟨ga, q, none⟩ = some (.int .u64 (xi : Nat)) := fun W q hW hq => by rw [hq, (hA.ext (hE.trans hW)).cell (by omega), fA1]
      go_upto_region 4 with (fail)
      refine w_ext ?_
      rintro W0 hW0
      refine wp_region_held_drew (S := fun w' => (0 ≤ (w' : World).heap.size)) (by kernel_rfl) (Nat.zero_le _) (fun hHeld => ?_)
      have HH : Hid ((0 ≤ (_ : World).heap.size)) := hHeld
      clear hHeld
      refine wpAnyH_take (i := 0) (v := ?_) rfl (by kernel_rfl) (by kernel_rfl) (by kernel_rfl) (fun _ _ _ h => h) (Or.inl ⟨by rfl, ?_⟩) HH.out ?_
      rotate_left
      · intro w hSw; go_simp; try with_reducible rfl
      change wpAnyH _ _ _ _ _ _ _ (Act.put _ (some 16) _) _
      simp only [Act.put, List.setIfInBounds_toArray, List.set_cons_zero, List.set_cons_succ]
      refine wpAnyH_take (i := 1) (v := ?_) rfl (by kernel_rfl) (by kernel_rfl) (by kernel_rfl) (fun _ _ _ h => h) (Or.inl ⟨by rfl, ?_⟩) HH.out ?_
      rotate_left
      · intro w hSw; go_simp; try with_reducible rfl
      change wpAnyH _ _ _ _ _ _ _ (Act.put _ (some 17) _) _
      simp only [Act.put, List.setIfInBounds_toArray, List.set_cons_zero, List.set_cons_succ]
      refine wpAnyH_take (i := 2) (v := ?_) rfl (by kernel_rfl) (by kernel_rfl) (by kernel_rfl) (fun _ _ _ h => h) (Or.inl ⟨by rfl, ?_⟩) HH.out ?_
      rotate_left
      · intro w hSw; go_simp; try with_reducible rfl
      change wpAnyH _ _ _ _ _ _ _ (Act.put _ (some 18) _) _
      simp only [Act.put, List.setIfInBounds_toArray, List.set_cons_zero, List.set_cons_succ]
      refine wpAnyH_take (i := 4) (v := ?_) rfl (by kernel_rfl) (by kernel_rfl) (by kernel_rfl) (fun _ _ _ h => h) (Or.inl ⟨by rfl, ?_⟩) HH.out ?_
      rotate_left
      · intro w hSw; go_simp; try with_reducible rfl
      change wpAnyH _ _ _ _ _ _ _ (Act.put _ (some 6) _) _
      simp only [Act.put, List.setIfInBounds_toArray, List.set_cons_zero, List.set_cons_succ]
      refine wpAnyH_ready (rs := [3]) (by kernel_rfl) (by simp) ?_
      refine AllReadyH.cons rfl (fun K hK => ?_) AllReadyH.nil
      refine step_any rfl (op_loadK rfl onet26k rfl (KA _ _ (by (repeat (first | with_reducible exact Ext.refl _ | with_reducible assumption | refine Ext.trans ?_ (by with_reducible assumption) | refine Ext.alloc ?_ _ _ | refine Ext.drew ?_ | refine Ext.drewN ?_ _))) (by omega)) ?_)
      refine hK.out _ _ HH.out (fun hHeld => ?_)
      clear hK K HH
      have HH : Hid ((0 ≤ (_ : World).heap.size)) := hHeld
      clear hHeld
      change wpAnyH _ _ _ _ _ _ _ (Act.put _ (some 19) _) _
      simp only [Act.put, List.setIfInBounds_toArray, List.set_cons_zero, List.set_cons_succ]
      refine wpAnyH_take (i := 5) (v := ?_) rfl (by kernel_rfl) (by kernel_rfl) (by kernel_rfl) (fun _ _ _ h => h) (Or.inl ⟨by rfl, ?_⟩) HH.out ?_
      rotate_left
      · intro w hSw; go_simp; try with_reducible rfl
      change wpAnyH _ _ _ _ _ _ _ (Act.put _ (some 7) _) _
      simp only [Act.put, List.setIfInBounds_toArray, List.set_cons_zero, List.set_cons_succ]
      refine wpAnyH_done (by kernel_rfl) ?_ _
      go_upto_region 7 with (fail)
      try simp only [Act.put]
      have hW0 : Ext wr W0 := by assumption
      have bP0 := bP.ext hW0.drew
      have bR0 := bR.ext hW0.drew
      have hE0 := hE.trans hW0.drew
      clear bP bR hE
      go_loopw [8, 21] (fun cv iv wr => ∃ (k cy : Nat) (cP : Nat → Value) (p : Nat → Nat), cv = .int .u64 (cy : Nat) ∧ iv = .int .i64 (k : Nat) ∧ k ≤ 8 ∧ cy < 18446744073709551616 ∧ Blk wr P 16 414 cP ∧ FL 16 cP p ∧ fsum p 16 + cy * Bn (i + k) = fsum x i * fsum y 8 + xi * Bn i * fsum y k ∧ (∀ q, i + 8 ≤ q → p q = 0) ∧ Blk wr R 16 414 (fun _ => .int .u64 0) ∧ Ext w wr) (fun _ iv _ => 8 - (intOf iv).toNat)
      case atStart => exact ⟨0, 0, cP, p, rfl, rfl, by decide, by decide, bP0, fP, by rw [hsum]; simp [fsum], hzero, bR0, hE0⟩
      case round =>
        clear bP0 bR0 hE0 fP hsum hzero
        obtain ⟨k, cy, cP, p, rfl, rfl, hk8, hcy, bP, fP, hsum, hzero, bR, hE⟩ := hrel
        rcases Nat.lt_or_ge k 8 with hltk | hge
        · have hki : (k : Int) < 8 := by omega
          obtain ⟨fB1, fB2⟩ := fB k hltk
          obtain ⟨fP1, fP2⟩ := fP (i + k) (by omega)
          have hys : fsum y (k + 1) = fsum y k + Bn k * y k := rfl
          have hup := fsum_upd p (i + k)
          obtain ⟨yk, hyk⟩ : ∃ v, Hid (y k = v) := ⟨_, rfl⟩
          rw [hyk.out] at fB1 fB2 hys
          obtain ⟨pk, hpk⟩ : ∃ v, Hid (p (i + k) = v) := ⟨_, rfl⟩
          rw [hpk.out] at fP1 fP2 hup
          obtain ⟨ik, hik⟩ : ∃ v, Hid (i + k = v) := ⟨_, rfl⟩
          have hik2 := hik.out
          have j1 : IntKind.i64.wrap ((i : Int) + k) = (ik : Int) := by rw [IntKind.wrap_i64]; omega
          have hik16 : (ik : Int) < 16 := by omega
          have HM := fun W => uMulAdd xi yk pk cy W fA2 fB2 fP2 hcy
          have KB : ∀ W q, Ext wr W → q = k → W.cell? ⟨gb, q, none⟩ = some (.int .u64 (yk : Nat)) := fun W q hW hq => by rw [hq, (hB.ext (hE.trans hW)).cell (by omega), fB1]
          have KP : ∀ W, Ext wr W → W.cell? ⟨P, ik, none⟩ = some (.int .u64 (pk : Nat)) := fun W hW => by rw [← hik2, (bP.ext hW).cell (by omega), fP1]
          clear hik2
          go_upto_region 8 with (fail)
          refine w_ext ?_
          rintro W0 hW0
          refine wp_region_held_drew (S := fun w' => (0 ≤ (w' : World).heap.size)) (by kernel_rfl) (Nat.zero_le _) (fun hHeld => ?_)
          have HH : Hid ((0 ≤ (_ : World).heap.size)) := hHeld
          clear hHeld
          refine wpAnyH_take (i := 0) (v := ?_) rfl (by kernel_rfl) (by kernel_rfl) (by kernel_rfl) (fun _ _ _ h => h) (Or.inl ⟨by rfl, ?_⟩) HH.out ?_
          rotate_left
          · intro w hSw; go_simp; try with_reducible rfl
          change wpAnyH _ _ _ _ _ _ _ (Act.put _ (some 23) _) _
          simp only [Act.put, List.setIfInBounds_toArray, List.set_cons_zero, List.set_cons_succ]
          refine wpAnyH_take (i := 1) (v := ?_) rfl (by kernel_rfl) (by kernel_rfl) (by kernel_rfl) (fun _ _ _ h => h) (Or.inl ⟨by rfl, ?_⟩) HH.out ?_
          rotate_left
          · intro w hSw; go_simp; try with_reducible rfl
          change wpAnyH _ _ _ _ _ _ _ (Act.put _ (some 24) _) _
          simp only [Act.put, List.setIfInBounds_toArray, List.set_cons_zero, List.set_cons_succ]
          refine wpAnyH_take (i := 2) (v := ?_) rfl (by kernel_rfl) (by kernel_rfl) (by kernel_rfl) (fun _ _ _ h => h) (Or.inl ⟨by rfl, ?_⟩) HH.out ?_
          rotate_left
          · intro w hSw; go_simp; try with_reducible rfl
          change wpAnyH _ _ _ _ _ _ _ (Act.put _ (some 25) _) _
          simp only [Act.put, List.setIfInBounds_toArray, List.set_cons_zero, List.set_cons_succ]
          refine wpAnyH_take (i := 4) (v := ?_) rfl (by kernel_rfl) (by kernel_rfl) (by kernel_rfl) (fun _ _ _ h => h) (Or.inl ⟨by rfl, ?_⟩) HH.out ?_
          rotate_left
          · intro w hSw; go_simp; try with_reducible rfl
          change wpAnyH _ _ _ _ _ _ _ (Act.put _ (some 9) _) _
          simp only [Act.put, List.setIfInBounds_toArray, List.set_cons_zero, List.set_cons_succ]
          refine wpAnyH_ready (rs := [3]) (by kernel_rfl) (by simp) ?_
          refine AllReadyH.cons rfl (fun K hK => ?_) AllReadyH.nil
          refine step_any rfl (op_loadK rfl onet26k rfl (KB _ _ (by (repeat (first | with_reducible exact Ext.refl _ | with_reducible assumption | refine Ext.trans ?_ (by with_reducible assumption) | refine Ext.alloc ?_ _ _ | refine Ext.drew ?_ | refine Ext.drewN ?_ _))) (by omega)) ?_)
          refine hK.out _ _ HH.out (fun hHeld => ?_)
          clear hK K HH
          have HH : Hid ((0 ≤ (_ : World).heap.size)) := hHeld
          clear hHeld
          change wpAnyH _ _ _ _ _ _ _ (Act.put _ (some 26) _) _
          simp only [Act.put, List.setIfInBounds_toArray, List.set_cons_zero, List.set_cons_succ]
          refine wpAnyH_take (i := 5) (v := ?_) rfl (by kernel_rfl) (by kernel_rfl) (by kernel_rfl) (fun _ _ _ h => h) (Or.inl ⟨by rfl, ?_⟩) HH.out ?_
          rotate_left
          · intro w hSw; go_simp; try with_reducible rfl
          change wpAnyH _ _ _ _ _ _ _ (Act.put _ (some 10) _) _
          simp only [Act.put, List.setIfInBounds_toArray, List.set_cons_zero, List.set_cons_succ]
          refine wpAnyH_done (by kernel_rfl) ?_ _
          go_upto_region 10 with (first | ((with_reducible (refine Veil.out ?_; apply wl_loadC onet26k)); (case hw => rfl); (case hx => rfl); (case hc => exact KP _ (by (repeat (first | with_reducible exact Ext.refl _ | with_reducible assumption | refine Ext.trans ?_ (by with_reducible assumption) | refine Ext.alloc ?_ _ _ | refine Ext.drew ?_ | refine Ext.drewN ?_ _))))) | (go_at_call 414; refine (HM _).mono ?_; rintro e w5 ⟨lo, hi, rfl, hlo, hhi, hmul, he5⟩))
          go_wp2_with (first | ((with_reducible (refine Veil.out ?_; apply wl_storeC onet26k (v := .int .u64 (lo : Nat)))); (case hx => rfl); (case hy => rfl); (case h1 => rfl); (case hB => exact bP.ext (by (repeat (first | with_reducible exact Ext.refl _ | with_reducible assumption | refine Ext.trans ?_ (by with_reducible assumption) | refine Ext.alloc ?_ _ _ | refine Ext.drew ?_ | refine Ext.drewN ?_ _)))); (case hi => omega); rintro W6 b6 m6))
          go_roundw
          case rel =>
            have hik2 := hik.out
            have hm := hmul.out
            have hEW : Ext wr W0 := by (repeat (first | with_reducible exact Ext.refl _ | with_reducible assumption | refine Ext.trans ?_ (by with_reducible assumption) | refine Ext.alloc ?_ _ _ | refine Ext.drew ?_ | refine Ext.drewN ?_ _))
            refine ⟨k + 1, hi, _, (fun q => if q = ik then lo else p q), rfl, int_eq (by omega), by omega, hhi, b6, fP.put ik ik _ lo rfl rfl hlo, ?_, fun q hq => ?_, (bR.ext hEW.drew).mod m6 hRP, Ext.trans_mod (hE.trans hEW.drew) m6 (fun q hq => by have hq2 : q = P := hq; rw [hq2]; exact gPw)⟩
            · have h1 := hup lo 16 (by omega)
              rw [hik2] at h1 hsum
              have h3 := mulIn _ _ _ _ _ _ _ _ _ _ h1 hm hsum
              rw [show i + (k + 1) = ik + 1 by omega, Bn_succ, h3, hys, ← hik2]
              exact mulIn2 _ _ _ _ _ _
            · show (if q = ik then lo else p q) = 0
              rw [if_neg (by omega)]; exact hzero q hq
          case measure => simp [intOf]; omega
        · have hki : ¬ (k : Int) < 8 := by omega
          obtain rfl : k = 8 := by omega
          have j1 : IntKind.i64.wrap ((i : Int) + 8) = ((i + 8 : Nat) : Int) := by rw [IntKind.wrap_i64]; omega
          obtain ⟨e8, he8⟩ : ∃ e, Hid (i + 8 = e) := ⟨_, rfl⟩
          have he82 := he8.out
          rw [he82] at j1
          have i16 : (e8 : Int) < 16 := by omega
          clear he82
          go_wp2_with (first | ((with_reducible (refine Veil.out ?_; apply wl_storeC onet26k (v := .int .u64 (cy : Nat)))); (case hx => rfl); (case hy => rfl); (case h1 => rfl); (case hB => exact bP.ext (by (repeat (first | with_reducible exact Ext.refl _ | with_reducible assumption | refine Ext.trans ?_ (by with_reducible assumption) | refine Ext.alloc ?_ _ _ | refine Ext.drew ?_ | refine Ext.drewN ?_ _)))); (case hi => omega); rintro W7 b7 m7))
          go_roundw
          case rel =>
            have he82 := he8.out
            refine ⟨i + 1, _, (fun q => if q = e8 then cy else p q), int_eq (by omega), by omega, b7, fP.put e8 e8 _ cy rfl rfl hcy, ?_, fun q hq => ?_, bR.mod m7 hRP, Ext.trans_mod hE m7 (fun q hq => by have hq2 : q = P := hq; rw [hq2]; exact gPw)⟩
            · have h1 := fsum_upd p e8 cy 16 (by omega)
              rw [hzero e8 (by omega), Nat.mul_zero, Nat.add_zero] at h1
              rw [h1, hxs, Nat.add_mul, ← he82, Nat.mul_comm (Bn (i + 8)) cy, hsum, Nat.mul_comm (Bn i) xi]
            · show (if q = e8 then cy else p q) = 0
              rw [if_neg (by omega)]; exact hzero q (by omega)
          case measure => simp [intOf]; omega
    · have hii : ¬ (i : Int) < 8 := by omega
      obtain rfl : i = 8 := by omega
      go_wp2_with (first | ((with_reducible (refine Veil.out ?_; apply wl_loadRow rt406)); (case hx => rfl); (case hB => exact bP.ext (by (repeat (first | with_reducible exact Ext.refl _ | with_reducible assumption | refine Ext.trans ?_ (by with_reducible assumption) | refine Ext.alloc ?_ _ _ | refine Ext.drew ?_ | refine Ext.drewN ?_ _)))); (case hi => decide)) | ((with_reducible (refine Veil.out ?_; apply wl_storeRow rt406)); (case hx => rfl); (case hy => rfl); (case hr => exact rowOf_size _ _ _); (case h1 => exact ones_of (fun q hq => by rw [rowOf_size] at hq; rw [cf_rowOf _ _ _ hq, Nat.zero_add, (fP q hq).1]; rfl)); (case hB => exact bR.ext (by (repeat (first | with_reducible exact Ext.refl _ | with_reducible assumption | refine Ext.trans ?_ (by with_reducible assumption) | refine Ext.alloc ?_ _ _ | refine Ext.drew ?_ | refine Ext.drewN ?_ _)))); (case hi => decide); rintro W9 b9 m9))
      have b9' : Blk W9 R 16 414 (layv (fun _ => .int .u64 0) 0 (rowOf cP 0 16)) := b9
      refine post_row rt406 (rowOf cP 0 16) (rowOf_size _ _ _) rfl rfl (fun q v hv => ?_) rfl ?_
      · have hq := (Array.getElem?_eq_some_iff.1 hv).1
        rw [rowOf_size] at hq
        rw [Nat.zero_add, b9'.cell hq]
        have := layv_in (fun _ => Value.int .u64 0) 0 (rowOf cP 0 16) (j := q) (by rw [rowOf_size]; exact hq)
        rw [Nat.zero_add] at this
        rw [this, cf_get hv]
      · first | exact ⟨_, p, rfl, rowOf_size _ _ _, fun q hq => by rw [cf_rowOf _ _ _ hq, Nat.zero_add]; exact fP q hq, hsum, Ext.trans_mod hE m9 (fun q hq => by have hq2 : q = R := hq; rw [hq2]; exact gR)⟩ | exact ⟨_, rfl, rowOf_size _ _ _, p, fun q hq => by rw [cf_rowOf _ _ _ hq, Nat.zero_add]; exact fP q hq, hsum, Ext.trans_mod hE m9 (fun q hq => by have hq2 : q = R := hq; rw [hq2]; exact gR)⟩
end Go.Proofs.YgvahwGreat
