import Derived.Test.YgvahwGreatPe
import Derived.Test.YgvahwGreatMm
namespace Go.Proofs.YgvahwGreat
open Go.RowKit
set_option linter.unusedSimpArgs false
/-- What ModExp is to do (an open premise as yet). -/
def ModExpOK : Prop := ∀ (w : World) (A E M a e m : Nat) (ca ce cm : Nat → Value), Blk w A 8 345 ca → Blk w E 8 345 ce → Blk w M 8 345 cm → rowOf ca 0 8 = wideV a → rowOf ce 0 8 = wideV e → rowOf cm 0 8 = wideV m → a < 256 ^ 64 → e < 256 ^ 64 → m < 256 ^ 64 →
  Calls Hvah.prog 271 #[.pointer (some ⟨A, 0, none⟩), .pointer (some ⟨E, 0, none⟩), .pointer (some ⟨M, 0, none⟩)] w fun x w' => x = .returned (.agg (wideV (dmod (a ^ e) m))) ∧ Ext w w'
theorem wideV_size (x : Nat) : (wideV x).size = 8 := rowOf_size _ _ _
theorem wideV_ones (x : Nat) : Ones (wideV x) := ones_of (fun j hj => by rw [wideV_size] at hj; unfold wideV; rw [cf_rowOf _ _ _ hj]; rfl)
theorem wideV_lay (c : Nat → Value) (x : Nat) : rowOf (layv c 0 (wideV x)) 0 8 = wideV x := by rw [← wideV_size x]; exact rowOf_lay _ _ _
theorem wideV_at (x i : Nat) (hi : i < 8) : (wideV x)[i]? = some (.int .u64 (lim x i : Nat)) := by
  have h1 : i < (wideV x).size := by rw [wideV_size]; exact hi
  rw [Array.getElem?_eq_getElem h1]
  congr 1
  have h2 : cf (wideV x) i = .int .u64 (lim x i : Nat) := by unfold wideV; rw [cf_rowOf _ _ _ hi, Nat.zero_add]
  rw [← h2]
  exact (cf_get (Array.getElem?_eq_getElem h1)).symm
theorem lim_ext : ∀ (n x y : Nat), x < 18446744073709551616 ^ n → y < 18446744073709551616 ^ n → (∀ k, k < n → lim x k = lim y k) → x = y
  | 0, x, y, hx, hy, _ => by simp at hx hy; omega
  | n + 1, x, y, hx, hy, h => by
    have h0 := h 0 (by omega)
    unfold lim at h0
    rw [Nat.pow_zero, Nat.div_one, Nat.div_one] at h0
    have hq := lim_ext n (x / 18446744073709551616) (y / 18446744073709551616) (Nat.div_lt_of_lt_mul (by rw [Nat.mul_comm, ← Nat.pow_succ]; exact hx)) (Nat.div_lt_of_lt_mul (by rw [Nat.mul_comm, ← Nat.pow_succ]; exact hy)) (fun k hk => by
      have := h (k + 1) (by omega)
      unfold lim at this ⊢
      rw [Nat.div_div_eq_div_mul, Nat.div_div_eq_div_mul, Nat.mul_comm, ← Nat.pow_succ]; exact this)
    omega
theorem under337 : Hvah.prog.underlying 345 = some (.array 8 24) := by kernel_rfl
theorem run_index337 {i : Nat} {cs : Array Value} {v : Value} (hi : i < 8) (hc : cs[i]? = some v) (W : World) : Sem.run Hvah.prog (Instr.index 345 (.agg cs) (.int .i64 (i : Nat))) W = .ok v W := by
  simp only [Instr.index, asIntOf, part]
  have h0 : (0 : Int) ≤ i ∧ (i : Int) < ((8 : Nat) : Int) := by omega
  simp [go_sem, run_underlying under337, h0]
  rw [if_pos hi, hc]
  rfl
theorem NL.suffix {O : Nat → Prop} {w : World} {g n m : Nat} {l : List Nat} {t : TypeId} (h : w.heap[g]? = some (.cells (bcells l).toArray t (0, 0))) (hd : Digits l) (hO : ¬ O g) (hn : l.length = n) (hm : m ≤ n) (hc : n ≤ 140737488355328) : NL O w (.slice (some ⟨g, n - m, none⟩) m m) (l.drop (n - m)) := by
  have hlen : (l.drop (n - m)).length = m := by rw [List.length_drop]; omega
  refine ⟨some ⟨g, n - m, none⟩, m, by rw [hlen], by omega, by omega, fun x hx => hd x (List.mem_of_mem_drop hx), fun _ => ⟨g, n - m, rfl, hO, (Array.getElem?_eq_some_iff.1 h).1, fun i hi => ?_⟩⟩
  have := cell_row h (n - m + i) (by rw [hlen] at hi; omega)
  rw [this, List.getElem_drop]
theorem bytes8_be {v : Nat} (hv : v < 18446744073709551616) : bev (bytes8 v) = v := bev_bytes8 v hv
theorem blk_row {w : World} {B n : Nat} {t : TypeId} {c : Nat → Value} {a : Array Value} (h : Blk w B n t c) (ha : rowOf c 0 n = a) : w.heap[B]? = some (.cells a t (0, 0)) := by
  obtain ⟨x, h1, h2, h3⟩ := h
  rw [h1, ← ha]
  congr 2
  refine ext_cf (by rw [rowOf_size, h2]) (fun i hi => ?_)
  rw [h2] at hi
  rw [cf_rowOf _ _ _ hi, Nat.zero_add]
  exact cf_get (h3 i hi)
theorem rowOf_zero64 : rowOf (cf #[.int .u8 0, .int .u8 0, .int .u8 0, .int .u8 0, .int .u8 0, .int .u8 0, .int .u8 0, .int .u8 0, .int .u8 0, .int .u8 0, .int .u8 0, .int .u8 0, .int .u8 0, .int .u8 0, .int .u8 0, .int .u8 0, .int .u8 0, .int .u8 0, .int .u8 0, .int .u8 0, .int .u8 0, .int .u8 0, .int .u8 0, .int .u8 0, .int .u8 0, .int .u8 0, .int .u8 0, .int .u8 0, .int .u8 0, .int .u8 0, .int .u8 0, .int .u8 0, .int .u8 0, .int .u8 0, .int .u8 0, .int .u8 0, .int .u8 0, .int .u8 0, .int .u8 0, .int .u8 0, .int .u8 0, .int .u8 0, .int .u8 0, .int .u8 0, .int .u8 0, .int .u8 0, .int .u8 0, .int .u8 0, .int .u8 0, .int .u8 0, .int .u8 0, .int .u8 0, .int .u8 0, .int .u8 0, .int .u8 0, .int .u8 0, .int .u8 0, .int .u8 0, .int .u8 0, .int .u8 0, .int .u8 0, .int .u8 0, .int .u8 0, .int .u8 0]) 0 64 = (bcells (List.replicate 64 0)).toArray := by
  have := cut_rowZ (N := 64) (c := cf #[.int .u8 0, .int .u8 0, .int .u8 0, .int .u8 0, .int .u8 0, .int .u8 0, .int .u8 0, .int .u8 0, .int .u8 0, .int .u8 0, .int .u8 0, .int .u8 0, .int .u8 0, .int .u8 0, .int .u8 0, .int .u8 0, .int .u8 0, .int .u8 0, .int .u8 0, .int .u8 0, .int .u8 0, .int .u8 0, .int .u8 0, .int .u8 0, .int .u8 0, .int .u8 0, .int .u8 0, .int .u8 0, .int .u8 0, .int .u8 0, .int .u8 0, .int .u8 0, .int .u8 0, .int .u8 0, .int .u8 0, .int .u8 0, .int .u8 0, .int .u8 0, .int .u8 0, .int .u8 0, .int .u8 0, .int .u8 0, .int .u8 0, .int .u8 0, .int .u8 0, .int .u8 0, .int .u8 0, .int .u8 0, .int .u8 0, .int .u8 0, .int .u8 0, .int .u8 0, .int .u8 0, .int .u8 0, .int .u8 0, .int .u8 0, .int .u8 0, .int .u8 0, .int .u8 0, .int .u8 0, .int .u8 0, .int .u8 0, .int .u8 0, .int .u8 0]) (fun i hi => z341_at hi) 0 (by decide)
  rw [Nat.sub_zero, List.replicate_zero, List.append_nil] at this
  exact this
/-- The list behind a PutBE64. -/
def put8 (l : List Nat) (off v : Nat) : List Nat := l.take off ++ bytes8 v ++ l.drop (off + 8)
theorem put8_len {l : List Nat} {off v : Nat} (h : off + 8 ≤ l.length) : (put8 l off v).length = l.length := by
  unfold put8; simp [bytes8]; omega
theorem put8_dig {l : List Nat} (hd : Digits l) (off v : Nat) : Digits (put8 l off v) := fun d h => by
  rcases List.mem_append.1 h with q | q
  · rcases List.mem_append.1 q with q | q
    · exact hd d (List.mem_of_mem_take q)
    · exact digits_bytes8 v d q
  · exact hd d (List.mem_of_mem_drop q)
theorem put8_same {l : List Nat} {off v : Nat} (h : off + 8 ≤ l.length) (hv : v < 18446744073709551616) : be64 (put8 l off v) off = v := by
  rw [be64_bev _ _ (by rw [put8_len h]; exact h)]
  have e : ((put8 l off v).drop off).take 8 = bytes8 v := by
    unfold put8
    have h1 : (l.take off).length = off := by rw [List.length_take]; omega
    rw [List.append_assoc]
    conv => lhs; rw [← h1]
    rw [show (l.take (l.take off).length) = l.take off by rw [h1], List.drop_left, show 8 = (bytes8 v).length from rfl, List.take_left]
  rw [e, bytes8_be hv]
theorem put8_ne {l : List Nat} {off v o2 : Nat} (h : off + 8 ≤ l.length) (hne : o2 + 8 ≤ off ∨ off + 8 ≤ o2) : be64 (put8 l off v) o2 = be64 l o2 := by
  have hg : ∀ k, (k < off ∨ off + 8 ≤ k) → (put8 l off v).getD k 0 = l.getD k 0 := fun k hk => by
    unfold put8
    rw [List.getD_eq_getElem?_getD, List.getD_eq_getElem?_getD]
    rcases hk with hk | hk
    · rw [List.append_assoc, List.getElem?_append_left (by rw [List.length_take]; omega), List.getElem?_take, if_pos hk]
    · rw [List.getElem?_append_right (by simp [bytes8]; omega), List.getElem?_drop]
      congr 2
      simp [bytes8]; omega
  unfold be64
  rw [hg o2 (by omega), hg (o2 + 1) (by omega), hg (o2 + 2) (by omega), hg (o2 + 3) (by omega), hg (o2 + 4) (by omega), hg (o2 + 5) (by omega), hg (o2 + 6) (by omega), hg (o2 + 7) (by omega)]
/-- 64 bytes whose limbs are those of r are r's bytes. -/
theorem wide_bytes {l : List Nat} {r m : Nat} (hd : Digits l) (hl : l.length = 64) (h : ∀ k, k < 8 → be64 l (56 - 8 * k) = lim r k) (hm : m ≤ 64) (hr : r < 256 ^ m) : l.drop (64 - m) = beL m r := by
  have hr2 : r < 18446744073709551616 ^ 8 := Nat.lt_of_lt_of_le hr (by rw [show 18446744073709551616 ^ 8 = 256 ^ 64 from by decide]; exact Nat.pow_le_pow_right (by decide) hm)
  have hb := bev_lt l hd
  rw [hl] at hb
  have e : bev l = r := lim_ext 8 _ _ (by rw [show 18446744073709551616 ^ 8 = 256 ^ 64 from by decide]; exact hb) hr2 (fun k hk => by rw [← h k hk, be64_lim l hd hl k hk])
  have hlen : (l.drop (64 - m)).length = m := by rw [List.length_drop]; omega
  have hdd : Digits (l.drop (64 - m)) := fun d q => hd d (List.mem_of_mem_drop q)
  have hbd := bev_lt _ hdd
  rw [hlen] at hbd
  have e2 : bev (l.drop (64 - m)) = r := by
    have e3 : bev l = bev (l.take (64 - m)) * 256 ^ m + bev (l.drop (64 - m)) := by
      conv => lhs; rw [← List.take_append_drop (64 - m) l]
      rw [bev_append, hlen]
    rw [e] at e3
    have : (bev (l.take (64 - m)) * 256 ^ m + bev (l.drop (64 - m))) % 256 ^ m = r % 256 ^ m := by rw [← e3]
    rw [Nat.add_comm, Nat.add_mul_mod_self_right, Nat.mod_eq_of_lt hbd, Nat.mod_eq_of_lt hr] at this
    exact this
  refine bev_inj _ _ hdd (digits_beL _ _) ?_ ?_
  · rw [hlen, beL_length m r ((digs_length_le r m).2 hr)]
  · rw [e2, bev_beL]
section
variable {w : World}
theorem mNatRun4 {O : Nat → Prop} {v : Value} {L : List Nat} (hO : Small O w) (hv : NL O w v L) : Calls Hvah.prog 196 #[.int .u8 4, v] w fun e' w' => ∃ r, e' = .returned r ∧ NL O w' r (L) ∧ Ext w w' := by
  have HC := fun W (hW : Ext w W) => mCopied O v L W (fun x hx => Nat.lt_of_lt_of_le (hO x hx) hW.size) (hv.ext hW)
  go_enter Hvah.func196, Hvah.ntmps196
  go_wp2_with (first | (go_at_call 269; refine (HC _ (by (repeat (first | with_reducible exact Ext.refl _ | with_reducible assumption | refine Ext.trans ?_ (by with_reducible assumption) | refine Ext.alloc ?_ _ _ | refine Ext.drew ?_ | refine Ext.drewN ?_ _)))).mono ?_; rintro e w1 ⟨rv, rfl, hrv, he⟩))
  refine bodyPost_ret (v := rv) (by simp [results, Hvah.results196, go_sem]; try rfl) rfl ?_
  exact ⟨_, rfl, hrv, he⟩
theorem mNatRun5n {O O' : Nat → Prop} {v : Value} {L : List Nat} (hv : NL O' w v L) (hn : natLens L = none) : Calls Hvah.prog 196 #[.int .u8 5, v] w fun e' w' => ∃ r, e' = .returned r ∧ NL O w' r ([]) ∧ Ext w w' := by
  have HL := fun W (hW : Ext w W) => mLengths (hv.ext hW)
  rw [show lensI L = .tuple #[.int .i64 0, .int .i64 0, .int .i64 0, .bool false] by unfold lensI; rw [hn]] at HL
  clear hn
  go_enter Hvah.func196, Hvah.ntmps196
  go_wp2_with (first | (go_at_call 259; refine (HL _ (by (repeat (first | with_reducible exact Ext.refl _ | with_reducible assumption | refine Ext.trans ?_ (by with_reducible assumption) | refine Ext.alloc ?_ _ _ | refine Ext.drew ?_ | refine Ext.drewN ?_ _)))).mono ?_; rintro e w1 ⟨rfl, he⟩))
  refine bodyPost_ret (v := .slice none 0 0) (by simp [results, Hvah.results196, go_sem]; try rfl) rfl ?_
  exact ⟨_, rfl, NL.nil, by (repeat (first | with_reducible exact Ext.refl _ | with_reducible assumption | refine Ext.trans ?_ (by with_reducible assumption) | refine Ext.alloc ?_ _ _ | refine Ext.drew ?_ | refine Ext.drewN ?_ _))⟩
theorem mNatRun5z {O O' : Nat → Prop} {v : Value} {L : List Nat} (hv : NL O' w v L) {b e : Nat} (hn : natLens L = some (b, e, 0)) : Calls Hvah.prog 196 #[.int .u8 5, v] w fun e' w' => ∃ r, e' = .returned r ∧ NL O w' r ([]) ∧ Ext w w' := by
  have HL := fun W (hW : Ext w W) => mLengths (hv.ext hW)
  rw [show lensI L = .tuple #[.int .i64 (b : Nat), .int .i64 (e : Nat), .int .i64 0, .bool true] by unfold lensI; rw [hn]; rfl] at HL
  clear hn
  go_enter Hvah.func196, Hvah.ntmps196
  go_wp2_with (first | (go_at_call 259; refine (HL _ (by (repeat (first | with_reducible exact Ext.refl _ | with_reducible assumption | refine Ext.trans ?_ (by with_reducible assumption) | refine Ext.alloc ?_ _ _ | refine Ext.drew ?_ | refine Ext.drewN ?_ _)))).mono ?_; rintro e w1 ⟨rfl, he⟩))
  refine bodyPost_ret (v := .slice none 0 0) (by simp [results, Hvah.results196, go_sem]; try rfl) rfl ?_
  exact ⟨_, rfl, NL.nil, by (repeat (first | with_reducible exact Ext.refl _ | with_reducible assumption | refine Ext.trans ?_ (by with_reducible assumption) | refine Ext.alloc ?_ _ _ | refine Ext.drew ?_ | refine Ext.drewN ?_ _))⟩
set_option maxRecDepth 100000 in
set_option maxHeartbeats 6400000 in
theorem mNatRun5 (HME : ModExpOK) {O O' : Nat → Prop} {v : Value} {L : List Nat} (hO : Small O w) (hv : NL O' w v L) {b e m : Nat} (hn : natLens L = some (b, e, m)) (hm0 : 0 < m) : Calls Hvah.prog 196 #[.int .u8 5, v] w fun e' w' => ∃ r, e' = .returned r ∧ NL O w' r (beL m (dmod (natPart L 96 b ^ natPart L (96 + b) e) (natPart L (96 + b + e) m))) ∧ Ext w w' := by
  have hle : b ≤ 64 ∧ e ≤ 64 ∧ m ≤ 64 := by
    unfold natLens at hn
    simp only [] at hn
    split at hn
    · cases hn
    · injection hn with hn; injection hn with h1 h2; injection h2 with h2 h3; omega
  obtain ⟨hb64, he64, hm64⟩ := hle
  have HL := fun W (hW : Ext w W) => mLengths (hv.ext hW)
  rw [show lensI L = .tuple #[.int .i64 (b : Nat), .int .i64 (e : Nat), .int .i64 (m : Nat), .bool true] by unfold lensI; rw [hn]] at HL
  clear hn
  have HO1 := fun W (hW : Ext w W) => mOperand (hv.ext hW) 96 b (by omega) hb64
  have HO2 : ∀ W, Ext w W → Calls Hvah.prog 270 #[v, .int .i64 (96 + (b : Int)), .int .i64 e] W fun e' w' => e' = .returned (.agg (wideV (natPart L (96 + b) e))) ∧ Ext W w' := fun W hW => by
    rw [show (96 : Int) + b = ((96 + b : Nat) : Int) by omega]
    exact mOperand (hv.ext hW) (96 + b) e (by omega) he64
  have HO3 : ∀ W, Ext w W → Calls Hvah.prog 270 #[v, .int .i64 (96 + (b : Int) + e), .int .i64 m] W fun e' w' => e' = .returned (.agg (wideV (natPart L (96 + b + e) m))) ∧ Ext W w' := fun W hW => by
    rw [show (96 : Int) + b + e = ((96 + b + e : Nat) : Int) by omega]
    exact mOperand (hv.ext hW) (96 + b + e) m (by omega) hm64
  have hp := fun off n (hn : n ≤ 64) => Nat.lt_of_lt_of_le (natPart_lt hv off n).1 (show 256 ^ n ≤ 256 ^ 64 from Nat.pow_le_pow_right (by decide) hn)
  have hpa := hp 96 b hb64
  have hpe := hp (96 + b) e he64
  have hpm := hp (96 + b + e) m hm64
  have hpm2 := (natPart_lt hv (96 + b + e) m).1
  clear hp
  generalize natPart L 96 b = a at *
  generalize natPart L (96 + b) e = x at *
  generalize natPart L (96 + b + e) m = y at *
  have hr : dmod (a ^ x) y < 256 ^ m := by
    unfold dmod
    split
    · exact Nat.pow_pos (by decide)
    · exact Nat.lt_trans (Nat.mod_lt _ (by omega)) hpm2
  have HM := fun W A E M ca ce cm h1 h2 h3 h4 h5 h6 => HME W A E M a x y ca ce cm h1 h2 h3 h4 h5 h6 hpa hpe hpm
  generalize dmod (a ^ x) y = r at *
  clear HME hpa hpe hpm hpm2
  have i0 : ((m : Int) == 0) = false := by simp; omega
  have i1 : (m : Int) ≤ 64 := by omega
  have jw1 : IntKind.i64.wrap ((96 : Int) + b) = 96 + b := by rw [IntKind.wrap_i64]; omega
  have jw2 : IntKind.i64.wrap ((96 : Int) + b + e) = 96 + b + e := by rw [IntKind.wrap_i64]; omega
  go_enter Hvah.func196, Hvah.ntmps196
  go_upto_region 7 with (first | (go_at_call 259; refine (HL _ (by (repeat (first | with_reducible exact Ext.refl _ | with_reducible assumption | refine Ext.trans ?_ (by with_reducible assumption) | refine Ext.alloc ?_ _ _ | refine Ext.drew ?_ | refine Ext.drewN ?_ _)))).mono ?_; rintro e w1 ⟨rfl, he⟩) | (go_at_call 270; refine (HO1 _ (by (repeat (first | with_reducible exact Ext.refl _ | with_reducible assumption | refine Ext.trans ?_ (by with_reducible assumption) | refine Ext.alloc ?_ _ _ | refine Ext.drew ?_ | refine Ext.drewN ?_ _)))).mono ?_; rintro e w1 ⟨rfl, he1⟩) | ((with_reducible (refine Veil.out ?_; apply wl_allocB (n := 8) z337)); (case hn => rfl); rintro B1 W10 e1 b1 g1) | ((with_reducible (refine Veil.out ?_; apply wl_storeRow rt337)); (case hx => rfl); (case hy => rfl); (case hr => exact wideV_size _); (case h1 => exact wideV_ones _); (case hB => exact b1.ext (by (repeat (first | with_reducible exact Ext.refl _ | with_reducible assumption | refine Ext.trans ?_ (by with_reducible assumption) | refine Ext.alloc ?_ _ _ | refine Ext.drew ?_ | refine Ext.drewN ?_ _)))); (case hi => decide); rintro W1 d1 m1; have hE1 : Ext w W1 := Ext.trans_mod (show Ext w _ by (repeat (first | with_reducible exact Ext.refl _ | with_reducible assumption | refine Ext.trans ?_ (by with_reducible assumption) | refine Ext.alloc ?_ _ _ | refine Ext.drew ?_ | refine Ext.drewN ?_ _))) m1 (fun x hx => by have hx2 : x = B1 := hx; rw [hx2]; exact Nat.le_trans (Ext.size (show Ext w _ by (repeat (first | with_reducible exact Ext.refl _ | with_reducible assumption | refine Ext.trans ?_ (by with_reducible assumption) | refine Ext.alloc ?_ _ _ | refine Ext.drew ?_ | refine Ext.drewN ?_ _)))) g1); skip; clear m1 b1 e1))
  go_upto_region 8 with (first | (go_at_call 270; refine (HO2 _ (by (repeat (first | with_reducible exact Ext.refl _ | with_reducible assumption | refine Ext.trans ?_ (by with_reducible assumption) | refine Ext.alloc ?_ _ _ | refine Ext.drew ?_ | refine Ext.drewN ?_ _)))).mono ?_; rintro e w2 ⟨rfl, he2⟩) | ((with_reducible (refine Veil.out ?_; apply wl_allocB (n := 8) z337)); (case hn => rfl); rintro B2 W20 e2 b2 g2) | ((with_reducible (refine Veil.out ?_; apply wl_storeRow rt337)); (case hx => rfl); (case hy => rfl); (case hr => exact wideV_size _); (case h1 => exact wideV_ones _); (case hB => exact b2.ext (by (repeat (first | with_reducible exact Ext.refl _ | with_reducible assumption | refine Ext.trans ?_ (by with_reducible assumption) | refine Ext.alloc ?_ _ _ | refine Ext.drew ?_ | refine Ext.drewN ?_ _)))); (case hi => decide); rintro W2 d2 m2; have hE2 : Ext w W2 := Ext.trans_mod (show Ext w _ by (repeat (first | with_reducible exact Ext.refl _ | with_reducible assumption | refine Ext.trans ?_ (by with_reducible assumption) | refine Ext.alloc ?_ _ _ | refine Ext.drew ?_ | refine Ext.drewN ?_ _))) m2 (fun x hx => by have hx2 : x = B2 := hx; rw [hx2]; exact Nat.le_trans (Ext.size (show Ext w _ by (repeat (first | with_reducible exact Ext.refl _ | with_reducible assumption | refine Ext.trans ?_ (by with_reducible assumption) | refine Ext.alloc ?_ _ _ | refine Ext.drew ?_ | refine Ext.drewN ?_ _)))) g2); have hF2 : Ext W1 W2 := Ext.trans_mod (show Ext W1 _ by (repeat (first | with_reducible exact Ext.refl _ | with_reducible assumption | refine Ext.trans ?_ (by with_reducible assumption) | refine Ext.alloc ?_ _ _ | refine Ext.drew ?_ | refine Ext.drewN ?_ _))) m2 (fun x hx => by have hx2 : x = B2 := hx; rw [hx2]; exact Nat.le_trans (Ext.size (show Ext W1 _ by (repeat (first | with_reducible exact Ext.refl _ | with_reducible assumption | refine Ext.trans ?_ (by with_reducible assumption) | refine Ext.alloc ?_ _ _ | refine Ext.drew ?_ | refine Ext.drewN ?_ _)))) g2); clear m2 b2 e2))
  go_upto_region 9 with (first | (go_at_call 270; refine (HO3 _ (by (repeat (first | with_reducible exact Ext.refl _ | with_reducible assumption | refine Ext.trans ?_ (by with_reducible assumption) | refine Ext.alloc ?_ _ _ | refine Ext.drew ?_ | refine Ext.drewN ?_ _)))).mono ?_; rintro e w3 ⟨rfl, he3⟩) | ((with_reducible (refine Veil.out ?_; apply wl_allocB (n := 8) z337)); (case hn => rfl); rintro B3 W30 e3 b3 g3) | ((with_reducible (refine Veil.out ?_; apply wl_storeRow rt337)); (case hx => rfl); (case hy => rfl); (case hr => exact wideV_size _); (case h1 => exact wideV_ones _); (case hB => exact b3.ext (by (repeat (first | with_reducible exact Ext.refl _ | with_reducible assumption | refine Ext.trans ?_ (by with_reducible assumption) | refine Ext.alloc ?_ _ _ | refine Ext.drew ?_ | refine Ext.drewN ?_ _)))); (case hi => decide); rintro W3 d3 m3; have hE3 : Ext w W3 := Ext.trans_mod (show Ext w _ by (repeat (first | with_reducible exact Ext.refl _ | with_reducible assumption | refine Ext.trans ?_ (by with_reducible assumption) | refine Ext.alloc ?_ _ _ | refine Ext.drew ?_ | refine Ext.drewN ?_ _))) m3 (fun x hx => by have hx2 : x = B3 := hx; rw [hx2]; exact Nat.le_trans (Ext.size (show Ext w _ by (repeat (first | with_reducible exact Ext.refl _ | with_reducible assumption | refine Ext.trans ?_ (by with_reducible assumption) | refine Ext.alloc ?_ _ _ | refine Ext.drew ?_ | refine Ext.drewN ?_ _)))) g3); have hF3 : Ext W2 W3 := Ext.trans_mod (show Ext W2 _ by (repeat (first | with_reducible exact Ext.refl _ | with_reducible assumption | refine Ext.trans ?_ (by with_reducible assumption) | refine Ext.alloc ?_ _ _ | refine Ext.drew ?_ | refine Ext.drewN ?_ _))) m3 (fun x hx => by have hx2 : x = B3 := hx; rw [hx2]; exact Nat.le_trans (Ext.size (show Ext W2 _ by (repeat (first | with_reducible exact Ext.refl _ | with_reducible assumption | refine Ext.trans ?_ (by with_reducible assumption) | refine Ext.alloc ?_ _ _ | refine Ext.drew ?_ | refine Ext.drewN ?_ _)))) g3); clear m3 b3 e3))
  go_upto_region 10 with (first | (go_at_call 271; refine (HM _ _ _ _ _ _ _ (d1.ext (by (repeat (first | with_reducible exact Ext.refl _ | with_reducible assumption | refine Ext.trans ?_ (by with_reducible assumption) | refine Ext.alloc ?_ _ _ | refine Ext.drew ?_ | refine Ext.drewN ?_ _)))) (d2.ext (by (repeat (first | with_reducible exact Ext.refl _ | with_reducible assumption | refine Ext.trans ?_ (by with_reducible assumption) | refine Ext.alloc ?_ _ _ | refine Ext.drew ?_ | refine Ext.drewN ?_ _)))) (d3.ext (by (repeat (first | with_reducible exact Ext.refl _ | with_reducible assumption | refine Ext.trans ?_ (by with_reducible assumption) | refine Ext.alloc ?_ _ _ | refine Ext.drew ?_ | refine Ext.drewN ?_ _)))) (wideV_lay _ _) (wideV_lay _ _) (wideV_lay _ _)).mono ?_; rintro e w4 ⟨rfl, he4⟩) | ((with_reducible (refine Veil.out ?_; apply wl_allocB (n := 8) z337)); (case hn => rfl); rintro B4 W40 e4 b4 g4) | ((with_reducible (refine Veil.out ?_; apply wl_storeRow rt337)); (case hx => rfl); (case hy => rfl); (case hr => exact wideV_size _); (case h1 => exact wideV_ones _); (case hB => exact b4.ext (by (repeat (first | with_reducible exact Ext.refl _ | with_reducible assumption | refine Ext.trans ?_ (by with_reducible assumption) | refine Ext.alloc ?_ _ _ | refine Ext.drew ?_ | refine Ext.drewN ?_ _)))); (case hi => decide); rintro W4 d4 m4; have hE4 : Ext w W4 := Ext.trans_mod (show Ext w _ by (repeat (first | with_reducible exact Ext.refl _ | with_reducible assumption | refine Ext.trans ?_ (by with_reducible assumption) | refine Ext.alloc ?_ _ _ | refine Ext.drew ?_ | refine Ext.drewN ?_ _))) m4 (fun x hx => by have hx2 : x = B4 := hx; rw [hx2]; exact Nat.le_trans (Ext.size (show Ext w _ by (repeat (first | with_reducible exact Ext.refl _ | with_reducible assumption | refine Ext.trans ?_ (by with_reducible assumption) | refine Ext.alloc ?_ _ _ | refine Ext.drew ?_ | refine Ext.drewN ?_ _)))) g4); have hF4 : Ext W3 W4 := Ext.trans_mod (show Ext W3 _ by (repeat (first | with_reducible exact Ext.refl _ | with_reducible assumption | refine Ext.trans ?_ (by with_reducible assumption) | refine Ext.alloc ?_ _ _ | refine Ext.drew ?_ | refine Ext.drewN ?_ _))) m4 (fun x hx => by have hx2 : x = B4 := hx; rw [hx2]; exact Nat.le_trans (Ext.size (show Ext W3 _ by (repeat (first | with_reducible exact Ext.refl _ | with_reducible assumption | refine Ext.trans ?_ (by with_reducible assumption) | refine Ext.alloc ?_ _ _ | refine Ext.drew ?_ | refine Ext.drewN ?_ _)))) g4); clear m4 b4 e4))
  clear HM HO1 HO2 HO3 HL d1 d2 d3 hF2 hF3 hF4
  go_wp2_with (first | ((with_reducible (refine Veil.out ?_; apply wl_allocB (n := 64) z341)); (case hn => rfl); rintro B5 W5 e5 b5 g5) | ((with_reducible (refine Veil.out ?_; apply wl_loadRow rt337)); (case hx => rfl); (case hB => exact d4.ext (by (repeat (first | with_reducible exact Ext.refl _ | with_reducible assumption | refine Ext.trans ?_ (by with_reducible assumption) | refine Ext.alloc ?_ _ _ | refine Ext.drew ?_ | refine Ext.drewN ?_ _)))); (case hi => decide); rw [wideV_lay]))
  have hE5 : Ext w W5 := by (repeat (first | with_reducible exact Ext.refl _ | with_reducible assumption | refine Ext.trans ?_ (by with_reducible assumption) | refine Ext.alloc ?_ _ _ | refine Ext.drew ?_ | refine Ext.drewN ?_ _))
  have hg5 : w.heap.size ≤ B5 := Nat.le_trans (Ext.size (show Ext w W4 by (repeat (first | with_reducible exact Ext.refl _ | with_reducible assumption | refine Ext.trans ?_ (by with_reducible assumption) | refine Ext.alloc ?_ _ _ | refine Ext.drew ?_ | refine Ext.drewN ?_ _)))) g5
  have hb0 : W5.heap[B5]? = some (.cells (bcells (List.replicate 64 0)).toArray 349 (0, 0)) := blk_row b5 (by rw [rowOf_zero64])
  clear b5 d4 e5 g5
  go_loopw [54] (fun iv wr => ∃ (i : Nat) (l : List Nat), iv = .int .i64 (i : Nat) ∧ i ≤ 8 ∧ wr.heap[B5]? = some (.cells (bcells l).toArray 349 (0, 0)) ∧ l.length = 64 ∧ Digits l ∧ (∀ k, k < i → be64 l (56 - 8 * k) = lim r k) ∧ Ext w wr) (fun iv _ => 8 - (intOf iv).toNat)
  case atStart => exact ⟨0, _, rfl, by omega, hb0, by simp, fun d hd => by rw [List.eq_of_mem_replicate hd]; decide, fun k hk => absurd hk (Nat.not_lt_zero _), hE5⟩
  case round =>
    obtain ⟨i, l, rfl, hi8, hbl, hll, hld, hc, hE⟩ := hrel
    rcases Nat.lt_or_ge i 8 with hlt | hge
    · have hii : (i : Int) < 8 := by omega
      have hat := wideV_at r i hlt
      have hsz := wideV_size r
      have hly := lim_lt r i
      have HPB : ∀ W, W = wr → Calls Hvah.prog 167 #[.slice (some ⟨B5, 0, none⟩) 64 64, .int .i64 (56 - 8 * (i : Int)), .int .u64 (lim r i : Nat)] W fun e w' => e = .returned (.bool true) ∧ w' = wr.setRow B5 (bcells (put8 l (56 - 8 * i) (lim r i))).toArray := fun W hW => by
        rw [hW, show (56 : Int) - 8 * i = ((56 - 8 * i : Nat) : Int) by omega]
        exact mPutBE64 B5 64 (56 - 8 * i) (lim r i) l 349 wr hll (by omega) (by decide) hly hbl
      have jw8 : IntKind.i64.wrap ((8 : Int) * i) = 8 * i := by rw [IntKind.wrap_i64]; omega
      have jw9 : IntKind.i64.wrap ((56 : Int) - 8 * i) = 56 - 8 * i := by rw [IntKind.wrap_i64]; omega
      obtain ⟨z, hz⟩ : ∃ z, Hid (lim r i = z) := ⟨_, rfl⟩
      rw [hz.out] at HPB hat hly
      have hix := run_index337 hlt hat
      clear hat
      go_wp2_with (first | (go_at_call 167; refine (HPB _ rfl).mono ?_; rintro e w6 ⟨rfl, hw6⟩))
      go_roundw
      case rel =>
        have hbl2 : (wr.setRow B5 (bcells (put8 l (56 - 8 * i) z)).toArray).heap[B5]? = some (.cells (bcells (put8 l (56 - 8 * i) z)).toArray 349 (0, 0)) := by rw [setRow_heap _ _ _ _ _ _ hbl]
        refine ⟨i + 1, put8 l (56 - 8 * i) z, int_eq (by omega), by omega, hbl2, by rw [put8_len (by omega), hll], put8_dig hld _ _, fun k hk => ?_, ?_⟩
        · by_cases hki : k = i
          · subst hki; rw [put8_same (by omega) hly, hz.out]
          · rw [put8_ne (by omega) (by omega)]; exact hc k (by omega)
        · exact hE.setRow hg5 _
      case measure => simp [intOf]; omega
    · obtain rfl : i = 8 := by omega
      have hdr := wide_bytes hld hll hc hm64 hr
      have hNL : NL O wr (.slice (some ⟨B5, 64 - m, none⟩) m m) (l.drop (64 - m)) := NL.suffix hbl hld (fun q => by have := hO _ q; omega) hll (by omega) (by decide)
      have jw7 : IntKind.i64.wrap ((64 : Int) - m) = ((64 - m : Nat) : Int) := by rw [IntKind.wrap_i64]; omega
      have q2 : ((64 - m : Nat) : Int) ≤ 64 := by omega
      have q3 : ¬ 64 = 64 - m := by omega
      have q4 : 64 - (64 - m) = m := by omega
      rw [hdr] at hNL
      have HC := fun W (hW : Ext wr W) => mCopied O _ _ W (fun x hx => Nat.lt_of_lt_of_le (hO x hx) (hE.trans hW).size) (hNL.ext hW)
      clear hNL hdr
      go_wp2_with (first | (go_at_call 269; refine (HC _ (by (repeat (first | with_reducible exact Ext.refl _ | with_reducible assumption | refine Ext.trans ?_ (by with_reducible assumption) | refine Ext.alloc ?_ _ _ | refine Ext.drew ?_ | refine Ext.drewN ?_ _)))).mono ?_; rintro e w7 ⟨rv, rfl, hrv, he7⟩))
      refine bodyPost_ret (v := rv) (by simp [results, Hvah.results196, go_sem]; try rfl) rfl ?_
      exact ⟨_, rfl, hrv, hE.trans he7⟩
theorem natLens_le {L : List Nat} {b e m : Nat} (hn : natLens L = some (b, e, m)) : b ≤ 64 ∧ e ≤ 64 ∧ m ≤ 64 := by
  unfold natLens at hn
  simp only [] at hn
  split at hn
  · cases hn
  · injection hn with hn; injection hn with h1 h2; injection h2 with h2 h3; omega
/-- What NativeCost answers. -/
def costV : Option Nat → Value
  | none => .tuple #[.int .u64 0, .bool false]
  | some k => .tuple #[.int .u64 (k : Nat), .bool true]
theorem mNatCost {O : Nat → Prop} {v : Value} {L : List Nat} (hv : NL O w v L) (p : Nat) (hp : p = 4 ∨ p = 5) : Calls Hvah.prog 193 #[.int .u8 (p : Nat), v] w fun e w' => e = .returned (costV (natCost p L)) ∧ Ext w w' := by
  rcases hp with rfl | rfl
  · exact mNatCost4 hv
  · cases hn : natLens L with
    | none =>
      have e : natCost 5 L = none := by unfold natCost; rw [if_neg (by decide), if_pos rfl, hn]; rfl
      rw [e]
      exact mNatCost5n hv hn
    | some t =>
      obtain ⟨b, e, m⟩ := t
      have e2 : natCost 5 L = some (max 200 ((max b m + 7) / 8 * ((max b m + 7) / 8) * max (nbits (natPart L (96 + b) (min e 32)) - 1 + 8 * (e - 32)) 1 / 3)) := by unfold natCost; rw [if_neg (by decide), if_pos rfl, hn]; rfl
      rw [e2]
      exact mNatCost5 hv hn
theorem mNatRun (HME : ModExpOK) {O : Nat → Prop} {v : Value} {L : List Nat} (hO : Small O w) (hv : NL O w v L) (p : Nat) (hp : p = 4 ∨ p = 5) : Calls Hvah.prog 196 #[.int .u8 (p : Nat), v] w fun e' w' => ∃ r, e' = .returned r ∧ NL O w' r (natRun p L) ∧ Ext w w' := by
  rcases hp with rfl | rfl
  · exact mNatRun4 hO hv
  · cases hn : natLens L with
    | none =>
      have e : natRun 5 L = [] := by unfold natRun; rw [if_neg (by decide), hn]
      rw [e]
      exact mNatRun5n hv hn
    | some t =>
      obtain ⟨b, e, m⟩ := t
      have e2 : natRun 5 L = beL m (dmod (natPart L 96 b ^ natPart L (96 + b) e) (natPart L (96 + b + e) m)) := by unfold natRun; rw [if_neg (by decide), hn]; rfl
      rcases Nat.eq_zero_or_pos m with rfl | hm
      · have e3 : natPart L (96 + b + e) 0 = 0 := by unfold natPart cutA; rw [List.take_zero]; rfl
        rw [e2, e3, show dmod (natPart L 96 b ^ natPart L (96 + b) e) 0 = 0 from if_pos rfl, show beL 0 0 = [] from by decide]
        exact mNatRun5z hv hn
      · rw [e2]
        exact mNatRun5 HME hO hv hn hm
end
end Go.Proofs.YgvahwGreat
