import Derived.Test.YgvahwGreatPd
namespace Go.Proofs.YgvahwGreat
open Go.RowKit
set_option linter.unusedSimpArgs false
theorem z337 : zeroOf Hvah.prog 345 = some #[.int .u64 0, .int .u64 0, .int .u64 0, .int .u64 0, .int .u64 0, .int .u64 0, .int .u64 0, .int .u64 0] := by kernel_rfl
theorem rt337 : RowT 345 8 := rowT_of (by kernel_rfl) (by kernel_rfl)
theorem z341 : zeroOf Hvah.prog 349 = some #[.int .u8 0, .int .u8 0, .int .u8 0, .int .u8 0, .int .u8 0, .int .u8 0, .int .u8 0, .int .u8 0, .int .u8 0, .int .u8 0, .int .u8 0, .int .u8 0, .int .u8 0, .int .u8 0, .int .u8 0, .int .u8 0, .int .u8 0, .int .u8 0, .int .u8 0, .int .u8 0, .int .u8 0, .int .u8 0, .int .u8 0, .int .u8 0, .int .u8 0, .int .u8 0, .int .u8 0, .int .u8 0, .int .u8 0, .int .u8 0, .int .u8 0, .int .u8 0, .int .u8 0, .int .u8 0, .int .u8 0, .int .u8 0, .int .u8 0, .int .u8 0, .int .u8 0, .int .u8 0, .int .u8 0, .int .u8 0, .int .u8 0, .int .u8 0, .int .u8 0, .int .u8 0, .int .u8 0, .int .u8 0, .int .u8 0, .int .u8 0, .int .u8 0, .int .u8 0, .int .u8 0, .int .u8 0, .int .u8 0, .int .u8 0, .int .u8 0, .int .u8 0, .int .u8 0, .int .u8 0, .int .u8 0, .int .u8 0, .int .u8 0, .int .u8 0] := by kernel_rfl
theorem z341_at {i : Nat} (hi : i < 64) : cf #[.int .u8 0, .int .u8 0, .int .u8 0, .int .u8 0, .int .u8 0, .int .u8 0, .int .u8 0, .int .u8 0, .int .u8 0, .int .u8 0, .int .u8 0, .int .u8 0, .int .u8 0, .int .u8 0, .int .u8 0, .int .u8 0, .int .u8 0, .int .u8 0, .int .u8 0, .int .u8 0, .int .u8 0, .int .u8 0, .int .u8 0, .int .u8 0, .int .u8 0, .int .u8 0, .int .u8 0, .int .u8 0, .int .u8 0, .int .u8 0, .int .u8 0, .int .u8 0, .int .u8 0, .int .u8 0, .int .u8 0, .int .u8 0, .int .u8 0, .int .u8 0, .int .u8 0, .int .u8 0, .int .u8 0, .int .u8 0, .int .u8 0, .int .u8 0, .int .u8 0, .int .u8 0, .int .u8 0, .int .u8 0, .int .u8 0, .int .u8 0, .int .u8 0, .int .u8 0, .int .u8 0, .int .u8 0, .int .u8 0, .int .u8 0, .int .u8 0, .int .u8 0, .int .u8 0, .int .u8 0, .int .u8 0, .int .u8 0, .int .u8 0, .int .u8 0] i = .int .u8 0 := by
  match i, hi with
  | 0, _ => rfl
  | 1, _ => rfl
  | 2, _ => rfl
  | 3, _ => rfl
  | 4, _ => rfl
  | 5, _ => rfl
  | 6, _ => rfl
  | 7, _ => rfl
  | 8, _ => rfl
  | 9, _ => rfl
  | 10, _ => rfl
  | 11, _ => rfl
  | 12, _ => rfl
  | 13, _ => rfl
  | 14, _ => rfl
  | 15, _ => rfl
  | 16, _ => rfl
  | 17, _ => rfl
  | 18, _ => rfl
  | 19, _ => rfl
  | 20, _ => rfl
  | 21, _ => rfl
  | 22, _ => rfl
  | 23, _ => rfl
  | 24, _ => rfl
  | 25, _ => rfl
  | 26, _ => rfl
  | 27, _ => rfl
  | 28, _ => rfl
  | 29, _ => rfl
  | 30, _ => rfl
  | 31, _ => rfl
  | 32, _ => rfl
  | 33, _ => rfl
  | 34, _ => rfl
  | 35, _ => rfl
  | 36, _ => rfl
  | 37, _ => rfl
  | 38, _ => rfl
  | 39, _ => rfl
  | 40, _ => rfl
  | 41, _ => rfl
  | 42, _ => rfl
  | 43, _ => rfl
  | 44, _ => rfl
  | 45, _ => rfl
  | 46, _ => rfl
  | 47, _ => rfl
  | 48, _ => rfl
  | 49, _ => rfl
  | 50, _ => rfl
  | 51, _ => rfl
  | 52, _ => rfl
  | 53, _ => rfl
  | 54, _ => rfl
  | 55, _ => rfl
  | 56, _ => rfl
  | 57, _ => rfl
  | 58, _ => rfl
  | 59, _ => rfl
  | 60, _ => rfl
  | 61, _ => rfl
  | 62, _ => rfl
  | 63, _ => rfl
  | n + 64, h => exact absurd h (by omega)
/-- A number of eight limbs. -/
def wideV (x : Nat) : Array Value := rowOf (fun j => .int .u64 (lim x j : Nat)) 0 8
theorem bev_append (A C : List Nat) : bev (A ++ C) = bev A * 256 ^ C.length + bev C := by
  unfold bev
  rw [List.reverse_append, val_append, List.length_reverse, Nat.mul_comm, Nat.add_comm]
theorem be64_bev (l : List Nat) (i : Nat) (h : i + 8 ≤ l.length) : be64 l i = bev ((l.drop i).take 8) := by
  have hM : ((l.drop i).take 8).length = 8 := by rw [List.length_take, List.length_drop]; omega
  have hg : ∀ k, k < 8 → l.getD (i + k) 0 = ((l.drop i).take 8).getD k 0 := fun k hk => by
    rw [List.getD_eq_getElem?_getD, List.getD_eq_getElem?_getD, List.getElem?_take, if_pos hk, List.getElem?_drop]
  have g0 := hg 0 (by decide)
  rw [Nat.add_zero] at g0
  unfold be64
  rw [g0, hg 1 (by decide), hg 2 (by decide), hg 3 (by decide), hg 4 (by decide), hg 5 (by decide), hg 6 (by decide), hg 7 (by decide)]
  clear hg g0
  generalize (l.drop i).take 8 = M at *
  match M, hM with
  | [a0, a1, a2, a3, a4, a5, a6, a7], _ => exact (val8 a7 a6 a5 a4 a3 a2 a1 a0).symm
theorem be64_lim (l : List Nat) (hd : Digits l) (hl : l.length = 64) (j : Nat) (hj : j < 8) : be64 l (56 - 8 * j) = lim (bev l) j := by
  rw [be64_bev l _ (by omega), lim_pow]
  have e : l = l.take (56 - 8 * j) ++ ((l.drop (56 - 8 * j)).take 8 ++ l.drop (56 - 8 * j + 8)) := by
    rw [← List.drop_drop, List.take_append_drop, List.take_append_drop]
  have hC : (l.drop (56 - 8 * j + 8)).length = 8 * j := by rw [List.length_drop]; omega
  have hM : ((l.drop (56 - 8 * j)).take 8).length = 8 := by rw [List.length_take, List.length_drop]; omega
  have hC2 := bev_lt (l.drop (56 - 8 * j + 8)) (fun x hx => hd x (List.mem_of_mem_drop hx))
  have hM2 := bev_lt ((l.drop (56 - 8 * j)).take 8) (fun x hx => hd x (List.mem_of_mem_drop (List.mem_of_mem_take hx)))
  rw [hC] at hC2
  rw [hM] at hM2
  have e2 : bev l = (bev (l.take (56 - 8 * j)) * 256 ^ 8 + bev ((l.drop (56 - 8 * j)).take 8)) * 256 ^ (8 * j) + bev (l.drop (56 - 8 * j + 8)) := by
    conv => lhs; rw [e]
    rw [bev_append, bev_append, List.length_append, hC, hM, Nat.pow_add, Nat.add_mul, ← Nat.mul_assoc, Nat.add_assoc]
  rw [e2, show (2 : Nat) ^ (64 * j) = 256 ^ (8 * j) by rw [show (256 : Nat) = 2 ^ 8 from rfl, ← Nat.pow_mul]; congr 1; omega, Nat.add_comm, Nat.add_mul_div_right _ _ (Nat.pow_pos (by decide)), Nat.div_eq_of_lt hC2, Nat.zero_add, show (2 : Nat) ^ 64 = 256 ^ 8 from by decide, Nat.add_comm, Nat.add_mul_mod_self_right, Nat.mod_eq_of_lt hM2]
section
variable {w : World}
set_option maxRecDepth 100000 in
set_option maxHeartbeats 6400000 in
theorem mOperand {O : Nat → Prop} {v : Value} {L : List Nat} (hv : NL O w v L) (off n : Nat) (hoff : off ≤ 4096) (hn : n ≤ 64) : Calls Hvah.prog 270 #[v, .int .i64 off, .int .i64 n] w fun e w' => e = .returned (.agg (wideV (natPart L off n))) ∧ Ext w w' := by
  have HP : ∀ W, Ext w W → ∀ B c, Blk W B 64 349 c → (∀ i, i < 64 → c i = .int .u8 0) → Calls Hvah.prog 260 #[.slice (some ⟨B, 0, none⟩) 64 64, v, .int .i64 (off : Nat), .int .i64 (n : Nat)] W fun e w' => e = .returned (.tuple #[]) ∧ ∃ c', Blk w' B 64 349 c' ∧ rowOf c' 0 64 = (bcells (List.replicate (64 - n) 0 ++ cutA L off n)).toArray ∧ Mod (· = B) W w' := fun W hW B c hB hz => mPart (hv.ext hW) hB hz (by decide) off n (by omega) hn
  obtain ⟨hx, hdig⟩ := natPart_lt hv off n
  have hbv : natPart L off n = bev (List.replicate (64 - n) 0 ++ cutA L off n) := (bev_zeros _ _).symm
  have hTl : (List.replicate (64 - n) 0 ++ cutA L off n).length = 64 := by simp [cutA]; omega
  have hTd : Digits (List.replicate (64 - n) 0 ++ cutA L off n) := fun d hd => by
    rcases List.mem_append.1 hd with q | q
    · rw [List.eq_of_mem_replicate q]; decide
    · exact hdig d q
  rw [hbv]
  clear hbv hx hdig
  have hT9 : ∃ T : List Nat, List.replicate (64 - n) 0 ++ cutA L off n = T := ⟨_, rfl⟩
  obtain ⟨T, hT⟩ := hT9
  rw [hT] at hTl hTd HP
  rw [hT]
  clear hT hv
  go_enter Hvah.func270, Hvah.ntmps270
  go_wp2_with (first | ((with_reducible (refine Veil.out ?_; apply wl_allocB (n := 8) z337)); (case hn => rfl); first | (have _q := b2'; rintro B3 W3 e3 b3 g3) | (rintro B2 W2 e2 b2 g2)) | ((with_reducible (refine Veil.out ?_; apply wl_allocB (n := 64) z341)); (case hn => rfl); rintro B5 W5 e5 b5 g5) | (go_at_call 260; refine (HP _ (by (repeat (first | with_reducible exact Ext.refl _ | with_reducible assumption | refine Ext.trans ?_ (by with_reducible assumption) | refine Ext.alloc ?_ _ _ | refine Ext.drew ?_ | refine Ext.drewN ?_ _))) _ _ b5 (fun i hi => z341_at hi)).mono ?_; rintro e W7 ⟨rfl, c7, b7, r7, m7⟩; have hE7 : Ext w W7 := Ext.trans_mod (show Ext w _ by (repeat (first | with_reducible exact Ext.refl _ | with_reducible assumption | refine Ext.trans ?_ (by with_reducible assumption) | refine Ext.alloc ?_ _ _ | refine Ext.drew ?_ | refine Ext.drewN ?_ _))) m7 (fun x hx => by have hx2 : x = B5 := hx; rw [hx2]; exact Nat.le_trans (Ext.size (show Ext w _ by (repeat (first | with_reducible exact Ext.refl _ | with_reducible assumption | refine Ext.trans ?_ (by with_reducible assumption) | refine Ext.alloc ?_ _ _ | refine Ext.drew ?_ | refine Ext.drewN ?_ _)))) g5); have hn25 : ¬ B2 = B5 := (fun q => (by have := b2.lt; omega)); have b2' := (b2.ext e5).mod m7 hn25; clear b2 m7 b5 e5))
  have hE3 : Ext w W3 := by (repeat (first | with_reducible exact Ext.refl _ | with_reducible assumption | refine Ext.trans ?_ (by with_reducible assumption) | refine Ext.alloc ?_ _ _ | refine Ext.drew ?_ | refine Ext.drewN ?_ _))
  have hg2 : w.heap.size ≤ B2 := g2
  have hg3 : w.heap.size ≤ B3 := Nat.le_trans (Ext.size (show Ext w W7 by (repeat (first | with_reducible exact Ext.refl _ | with_reducible assumption | refine Ext.trans ?_ (by with_reducible assumption) | refine Ext.alloc ?_ _ _ | refine Ext.drew ?_ | refine Ext.drewN ?_ _)))) g3
  have hn23 : ¬ B2 = B3 := fun q => by have := b2'.lt; have := Nat.le_trans (Ext.size (show Ext W7 W7 from Ext.refl _)) g3; omega
  have hn73 : ¬ B5 = B3 := fun q => by have := b7.lt; omega
  replace b2' := b2'.ext (show Ext W7 W3 by (repeat (first | with_reducible exact Ext.refl _ | with_reducible assumption | refine Ext.trans ?_ (by with_reducible assumption) | refine Ext.alloc ?_ _ _ | refine Ext.drew ?_ | refine Ext.drewN ?_ _)))
  replace b7 := b7.ext (show Ext W7 W3 by (repeat (first | with_reducible exact Ext.refl _ | with_reducible assumption | refine Ext.trans ?_ (by with_reducible assumption) | refine Ext.alloc ?_ _ _ | refine Ext.drew ?_ | refine Ext.drewN ?_ _)))
  go_loopw [17] (fun iv wr => ∃ (i : Nat) (c : Nat → Value), iv = .int .i64 (i : Nat) ∧ i ≤ 8 ∧ Blk wr B3 8 345 c ∧ (∀ k, k < i → c k = .int .u64 (lim (bev T) k : Nat)) ∧ Blk wr B5 64 349 c7 ∧ Blk wr B2 8 345 (cf #[.int .u64 0, .int .u64 0, .int .u64 0, .int .u64 0, .int .u64 0, .int .u64 0, .int .u64 0, .int .u64 0]) ∧ Ext w wr) (fun iv _ => 8 - (intOf iv).toNat)
  case atStart => exact ⟨0, _, rfl, by omega, b3, fun k hk => absurd hk (Nat.not_lt_zero _), b7, b2', hE3⟩
  case round =>
    obtain ⟨i, c, rfl, hi8, hb3, hc, hb7, hb2, hE⟩ := hrel
    rcases Nat.lt_or_ge i 8 with hlt | hge
    · have hii : (i : Int) < 8 := by omega
      have HBE : ∀ W, Ext wr W → Calls Hvah.prog 165 #[.slice (some ⟨B5, 0, none⟩) 64 64, .int .i64 (56 - 8 * (i : Int))] W fun e w' => e = .returned (.tuple #[.int .u64 (lim (bev T) i : Nat), .bool true]) ∧ Ext W w' := fun W hW => by
        rw [← be64_lim T hTd hTl i hlt, show (56 : Int) - 8 * i = ((56 - 8 * i : Nat) : Int) by omega]
        refine mBE64L B5 0 64 64 (56 - 8 * i) T W hTl hTd (by omega) (Nat.le_refl _) (by decide) (fun k hk => ?_)
        rw [Nat.zero_add, (hb7.ext hW).cell (by omega)]
        have h1 := cf_rowOf c7 0 64 (j := k) (by omega)
        rw [r7, Nat.zero_add] at h1
        rw [← h1]
        congr 1
        exact cf_get (by simp only [bcells, List.getElem?_toArray, List.getElem?_map, List.getElem?_eq_getElem hk, Option.map_some])
      have jw1 : IntKind.i64.wrap ((8 : Int) * i) = 8 * i := by rw [IntKind.wrap_i64]; omega
      have jw2 : IntKind.i64.wrap ((56 : Int) - 8 * i) = 56 - 8 * i := by rw [IntKind.wrap_i64]; omega
      obtain ⟨y, hy⟩ : ∃ y, Hid (lim (bev T) i = y) := ⟨_, rfl⟩
      rw [hy.out] at HBE
      go_wp2_with (first | (go_at_call 165; refine (HBE _ (by (repeat (first | with_reducible exact Ext.refl _ | with_reducible assumption | refine Ext.trans ?_ (by with_reducible assumption) | refine Ext.alloc ?_ _ _ | refine Ext.drew ?_ | refine Ext.drewN ?_ _)))).mono ?_; rintro e w1 ⟨rfl, he⟩) | ((with_reducible (refine Veil.out ?_; apply wl_storeC onel26)); (case hx => rfl); (case hy => rfl); (case h1 => rfl); (case hB => exact hb3.ext (by (repeat (first | with_reducible exact Ext.refl _ | with_reducible assumption | refine Ext.trans ?_ (by with_reducible assumption) | refine Ext.alloc ?_ _ _ | refine Ext.drew ?_ | refine Ext.drewN ?_ _)))); (case hi => omega); rintro W8 b8 m8))
      go_roundw
      case rel =>
        have hmm : Mod (· = B3) wr W8 := (Ext.mod (show Ext wr _ by (repeat (first | with_reducible exact Ext.refl _ | with_reducible assumption | refine Ext.trans ?_ (by with_reducible assumption) | refine Ext.alloc ?_ _ _ | refine Ext.drew ?_ | refine Ext.drewN ?_ _))) _).trans m8
        refine ⟨i + 1, _, int_eq (by omega), by omega, b8, fun k hk => ?_, hb7.mod hmm hn73, hb2.mod hmm hn23, ?_⟩
        · by_cases hki : k = i
          · subst hki; rw [updv_same, hy.out]; rfl
          · rw [updv_ne _ _ hki]; exact hc k (by omega)
        · exact Ext.trans_mod hE hmm (fun z hz => by have hz2 : z = B3 := hz; rw [hz2]; exact hg3)
      case measure => simp [intOf]; omega
    · obtain rfl : i = 8 := by omega
      have hro : rowOf c 0 8 = wideV (bev T) := by
        refine ext_cf (by rw [rowOf_size]; exact (rowOf_size _ _ _).symm) (fun j hj => ?_)
        rw [rowOf_size] at hj
        unfold wideV
        rw [cf_rowOf _ _ _ hj, cf_rowOf _ _ _ hj, hc (0 + j) (by omega)]
      have hsz : (wideV (bev T)).size = 8 := rowOf_size _ _ _
      have hon : Ones (wideV (bev T)) := ones_of (fun j hj => by rw [hsz] at hj; unfold wideV; rw [cf_rowOf _ _ _ hj]; rfl)
      go_wp2_with (first | ((with_reducible (refine Veil.out ?_; apply wl_loadRow rt337)); (case hx => rfl); (case hB => exact hb3); (case hi => decide); rw [hro]) | ((with_reducible (refine Veil.out ?_; apply wl_storeRow rt337)); (case hx => rfl); (case hy => rfl); (case hr => exact hsz); (case h1 => exact hon); (case hB => exact hb2); (case hi => decide); rintro W9 b9 m9))
      have hrr := b9.rowIn (o := 0) (m := 8) (by decide)
      rw [show rowOf (layv (cf #[.int .u64 0, .int .u64 0, .int .u64 0, .int .u64 0, .int .u64 0, .int .u64 0, .int .u64 0, .int .u64 0]) 0 (wideV (bev T))) 0 8 = wideV (bev T) by rw [← hsz]; exact rowOf_lay _ _ _] at hrr
      refine post_row rt337 (wideV (bev T)) hsz Hvah.results270 rfl hrr rfl ⟨rfl, Ext.trans_mod hE m9 (fun x hx => by have hx2 : x = B2 := hx; rw [hx2]; exact hg2)⟩
end
end Go.Proofs.YgvahwGreat
