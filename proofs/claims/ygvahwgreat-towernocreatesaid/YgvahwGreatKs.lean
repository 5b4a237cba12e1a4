import Derived.Test.YgvahwGreatKr
import Derived.Test.YgvahwGreatKm
import Derived.Test.YgvahwGreatRowsO
namespace Go.Proofs.YgvahwGreat
open Go.RowKit
set_option linter.unusedSimpArgs false

theorem z319 : ∃ i, Hvah.prog.info? 327 = some i ∧ i.zero = some (.agg (Array.replicate 25 (.int .u64 0))) := ⟨Hvah.t327, by kernel_rfl, by kernel_rfl⟩
theorem z323 : ∃ i, Hvah.prog.info? 331 = some i ∧ i.zero = some (.agg (Array.replicate 136 (.int .u8 0))) := ⟨Hvah.t331, by kernel_rfl, by kernel_rfl⟩
theorem under32k : Hvah.prog.underlying 23 = some (.slice 5) := by kernel_rfl
theorem sz5k : (Hvah.prog.info? 5).map (·.size) = some 1 := by kernel_rfl
theorem under323 : Hvah.prog.underlying 331 = some (.array 136 5) := by kernel_rfl
theorem BS.drop136 {O : Nat → Prop} {w : World} {b off cap : Nat} {l : List Nat} (h : BS O w (some ⟨b, off, none⟩) l) (h1 : 136 ≤ l.length) (h2 : l.length ≤ cap) : BS O w (if cap = 136 then some (⟨b, off, none⟩ : Addr) else some ⟨b, off + 136, none⟩) (l.drop 136) := by
  by_cases hc : cap = 136
  · have : l.drop 136 = [] := List.drop_eq_nil_of_le (by omega)
    rw [this]; exact BS.nil
  · rw [if_neg hc]
    refine ⟨fun d hd => h.lt d (List.mem_of_mem_drop hd), fun hne => ?_⟩
    obtain ⟨b', off', e, q2, q3, q4⟩ := h.spot (fun q => by rw [q] at h1; simp at h1)
    injection e with e
    injection e with e1 e2
    subst e1 e2
    refine ⟨_, _, rfl, q2, q3, fun i hi => ?_⟩
    rw [Nat.add_assoc, q4 (136 + i) (by simp at hi; omega)]
    simp

theorem turn_leL {x : Nat} (hx : x < 18446744073709551616) : bytes8 (turnN x) = leL 8 x := by
  have hv : ∀ (n x : Nat), x < 256 ^ n → val (leL n x) = x := by
    intro n
    induction n with
    | zero => intro x h; simp at h; subst h; rfl
    | succ n ih =>
      intro x h
      have h1 := ih (x / 256) (by rw [Nat.pow_succ] at h; exact Nat.div_lt_of_lt_mul (by rw [Nat.mul_comm]; exact h))
      show x % 256 + 256 * val (leL n (x / 256)) = x
      rw [h1]; omega
  have hl8 : (leL 8 x).length = 8 := leL_len 8 x
  have hd := leL_dig 8 x
  have hdr : Digits (leL 8 x).reverse := fun d q => hd d (by simpa using q)
  have h1 := turn_lane (leL 8 x).reverse hdr 0 (by simp [hl8])
  have h2 : be64 (leL 8 x).reverse (8 * 0) = x := by
    rw [be64_val _ _ (by simp [hl8])]
    simp only [Nat.mul_zero, List.drop_zero]
    rw [List.take_of_length_le (by simp [hl8]), List.reverse_reverse, hv 8 x (by rw [show (256 : Nat) ^ 8 = 18446744073709551616 by decide]; exact hx)]
  rw [h2] at h1
  have h3 : klane (leL 8 x).reverse 0 = bev (leL 8 x) := by
    unfold klane bev
    simp only [Nat.mul_zero, List.drop_zero]
    rw [List.take_of_length_le (by simp [hl8])]
  rw [h3] at h1
  have h4 : bev (leL 8 x) < 18446744073709551616 := by
    have := val_lt (leL 8 x).reverse hdr
    rw [List.length_reverse, hl8] at this
    exact this
  refine bev_inj _ _ (digits_bytes8 _) hd (by rw [hl8]; rfl) ?_
  rw [h1]
  exact bev_bytes8 _ h4
theorem onek26s : OneT 24 := oneT_of (by kernel_rfl) (by kernel_rfl)
theorem Blk.toBB {w : World} {g n : Nat} {t : TypeId} {c : Nat → Value} (h : Blk w g n t c) {l : List Nat} (hn : l.length = n) (hc : ∀ i, i < n → c i = .int .u8 (l.getD i 0 : Nat)) : w.heap[g]? = some (.cells (bcells l).toArray t (0, 0)) := by
  obtain ⟨arr, h1, h2, h3⟩ := h
  have : arr = (bcells l).toArray := by
    apply Array.ext_getElem?
    intro i
    by_cases hi : i < n
    · rw [h3 i hi, hc i hi]; simp [bcells, List.getD_eq_getElem?_getD, show i < l.length by omega]
    · rw [Array.getElem?_eq_none (by omega), Array.getElem?_eq_none (by simp [bcells]; omega)]
  rw [this] at h1
  exact h1
theorem bb_blk {w : World} {g n : Nat} {t : TypeId} {l : List Nat} (h : w.heap[g]? = some (.cells (bcells l).toArray t (0, 0))) (hn : l.length = n) : Blk w g n t (cf (bcells l).toArray) := ⟨_, h, by simp [bcells, hn], fun i hi => get_cf (by simp [bcells, hn]; exact hi)⟩
theorem lay_overK (c c' : Nat → Value) (n i : Nat) (h : i < n) : layv c 0 (rowOf c' 0 n) i = c' i := by
  unfold layv
  rw [if_pos ⟨Nat.zero_le _, by rw [rowOf_size]; omega⟩]
  rw [show (rowOf c' 0 n).getD (i - 0) undef = cf (rowOf c' 0 n) i from rfl, cf_rowOf _ _ _ h, Nat.zero_add]
theorem cf_rowK {r : Array Value} {n : Nat} (hn : r.size = n) : rowOf (cf r) 0 n = r := by
  apply Array.ext_getElem?
  intro i
  rw [rowOf_get]
  split
  · rename_i h; unfold cf; rw [Array.getD_eq_getD_getElem?, Nat.zero_add, Array.getElem?_eq_getElem (by omega)]; rfl
  · rw [Array.getElem?_eq_none (by omega)]
theorem bc_ones {l : List Nat} {n : Nat} (hl : l.length = n) : Ones (rowOf (cf (bcells l).toArray) 0 n) := by
  rw [cf_rowK (by simp [bcells, hl])]
  intro v hv
  simp [bcells] at hv
  obtain ⟨x, _, rfl⟩ := hv
  rfl
theorem rt27k : RowT 32 32 := rowT_of (by kernel_rfl) (by kernel_rfl)
theorem Blk.setRow_ne {w : World} {g k n : Nat} {t : TypeId} {c : Nat → Value} {cs : Array Value} (h : Blk w g n t c) (hne : g ≠ k) : Blk (w.setRow k cs) g n t c := by
  obtain ⟨arr, h1, h2, h3⟩ := h
  exact ⟨arr, (setRow_other w k g cs hne).trans h1, h2, h3⟩
/-- The first four lanes as bytes. -/
def kout (a : List Nat) : List Nat := leL 8 (kget a 0) ++ leL 8 (kget a 1) ++ leL 8 (kget a 2) ++ leL 8 (kget a 3)
theorem kout_len (a : List Nat) : (kout a).length = 32 := by simp [kout, leL_len]
theorem kout_at (a : List Nat) (i : Nat) (hi : i < 4) : ((kout a).drop (8 * i)).take 8 = leL 8 (kget a i) := by
  have l8 := fun x => leL_len 8 x
  unfold kout
  rcases (show i = 0 ∨ i = 1 ∨ i = 2 ∨ i = 3 by omega) with rfl | rfl | rfl | rfl
  · simp [List.append_assoc, List.take_append_of_le_length, l8, List.take_of_length_le]
  · rw [List.append_assoc, List.append_assoc, List.drop_append_of_le_length (by simp [l8]), List.drop_eq_nil_of_le (by simp [l8]), List.nil_append, List.take_append_of_le_length (by simp [l8]), List.take_of_length_le (by simp [l8])]
  · rw [List.append_assoc, List.drop_append_of_le_length (by simp [l8]), List.drop_eq_nil_of_le (by simp [l8]), List.nil_append, List.take_append_of_le_length (by simp [l8]), List.take_of_length_le (by simp [l8])]
  · rw [List.drop_append_of_le_length (by simp [l8]), List.drop_eq_nil_of_le (by simp [l8]), List.nil_append, List.take_of_length_le (by simp [l8])]
theorem kout_step {a lo : List Nat} {i : Nat} (hi : i < 4) (h : lo.take (8 * i) = (kout a).take (8 * i)) (hx : kget a i < 18446744073709551616) : (lo.take (8 * i) ++ bytes8 (turnN (kget a i)) ++ lo.drop (8 * i + 8)).take (8 * (i + 1)) = (kout a).take (8 * (i + 1)) := by
  have hl := kout_len a
  rw [turn_leL hx, ← kout_at a i hi, h]
  have e : (kout a).take (8 * i) ++ ((kout a).drop (8 * i)).take 8 = (kout a).take (8 * (i + 1)) := by
    rw [show 8 * (i + 1) = 8 * i + 8 by omega, List.take_add]
  rw [e, List.take_append_of_le_length (by simp; omega), List.take_take]
  simp
set_option maxRecDepth 100000 in
set_option maxHeartbeats 6400000 in
theorem kSumE0 (HK : KRnd) {O : Nat → Prop} {w : World} {v : Value} {l : List Nat} (hv : NL O w v l) (hl : l.length ≤ 1000000) : Calls Hvah.prog 175 #[v] w fun e w' => e = .returned (.agg (bw (kec l))) ∧ Ext w w' := by
  have hkec : Hid (kall (l.length / 136) (List.replicate 25 0) l = kall (l.length / 136) (List.replicate 25 0) l) := rfl
  obtain ⟨o, cp, rfl, hcp, hcm, hbs⟩ := hv
  obtain ⟨n, hn⟩ : ∃ n, Hid (l.length = n) := ⟨_, rfl⟩
  obtain ⟨KA, hKA⟩ : ∃ A, Hid (kall (l.length / 136) (List.replicate 25 0) l = A) := ⟨_, rfl⟩
  rw [hn.out] at hcp hl ⊢
  go_enter Hvah.func175, Hvah.ntmps175
  go_upto_region 1 with (first | ((with_reducible (refine Veil.out ?_; apply wl_allocF z27k)); rintro R W1 e1 bR gR))
  go_upto_region 2 with (first | ((with_reducible (refine Veil.out ?_; apply wl_allocF z319)); rintro G W2 e2 bG gG))
  try simp only [Act.put]
  have gGw : w.heap.size ≤ G := Nat.le_trans e1.size gG
  have hRG : ¬ R = G := fun q => by have := bR.lt; omega
  have bR2 := bR.ext e2
  have hE2 : Ext w W2 := e1.trans e2
  clear bR e1 e2
  go_loopw [0] (fun sv wr => ∃ (rem A : List Nat) (o : Option Addr) (m cap : Nat) (cG : Nat → Value), sv = .slice o (m : Nat) cap ∧ Hid (rem.length = m) ∧ m ≤ n ∧ m ≤ cap ∧ cap ≤ 140737488355328 ∧ BS O w o rem ∧ Blk wr G 25 327 cG ∧ LAt cG A ∧ K64 A ∧ A.length = 25 ∧ Hid (kall (rem.length / 136) A rem = KA) ∧ Blk wr R 32 32 (fun _ => .int .u8 0) ∧ Ext w wr) (fun sv _ => slLen sv)
  case atStart => exact ⟨l, List.replicate 25 0, o, n, cp, _, rfl, hn, Nat.le_refl _, hcp, hcm, hbs, bG, fun i hi => by
      show Value.int .u64 0 = _
      unfold kget
      rw [List.getD_eq_getElem?_getD, List.getElem?_replicate, if_pos hi]; rfl, K64_zero, by simp, hKA, bR2, hE2⟩
  case round =>
    clear bG bR2 hE2
    obtain ⟨rem, A, o, m, cap, cG, rfl, hm, hmn, hmc, hcb, hb, bG, hLA, hkA, hlA, hkk, bR, hE⟩ := hrel
    have hm2 := hm.out
    rcases Nat.lt_or_ge m 136 with hlt | hge
    · have hii : ¬ (136 : Int) ≤ m := by omega
      clear hm2
      go_upto_region 6 with (first | ((with_reducible (refine Veil.out ?_; apply wl_allocF z323)); rintro Lb WL eL bL gL))
      have bG0 := bG.ext eL
      have bR0 := bR.ext eL
      have hE0 : Ext w WL := hE.trans eL
      rcases Nat.eq_zero_or_pos m with hm0 | hm0
      · subst hm0
        obtain rfl : rem = [] := List.length_eq_zero_iff.1 hm.out
        have fL : ∀ j, j < 136 → (fun _ => Value.int .u8 0 : Nat → Value) j = .int .u8 ((if j < 0 then ([] : List Nat).getD j 0 else 0 : Nat) : Int) := fun j _ => by rw [if_neg (Nat.not_lt_zero _)]; rfl
        go_upto_region 7 with (first | ((with_reducible (refine Veil.out ?_; apply wl_copyR0)); (case ht => exact under32k); (case hs => exact ⟨1, sz5k⟩); (case hd => rfl); (case hsr => rfl); (case hk => rfl)))
        have bLx := bL
        have bGx := bG0
        have bRx := bR0
        have hEx := hE0
        obtain ⟨cL, hcL⟩ : ∃ cL : Nat → Value, (fun _ => Value.int .u8 0) = cL := ⟨_, rfl⟩
        rw [hcL] at bLx fL
        clear hcL
        have hLG : G ≠ Lb := fun q => by have := bG.lt; omega
        have gLw : w.heap.size ≤ Lb := Nat.le_trans hE.size gL
        have hx8 : ∃ x8 : Nat, x8 < 256 ∧ updv cL 0 (.int .u8 1) 135 = .int .u8 (x8 : Nat) ∧ Hid (x8 = (if 135 < 0 then ([] : List Nat).getD 135 0 else if 135 = 0 then 1 else 0)) := by
          by_cases e : 0 = 135
          · exact ⟨1, by decide, by rw [e, updv_same]; rfl, (by rw [if_neg (by omega), if_pos e.symm] : (1 : Nat) = _)⟩
          · exact ⟨0, by decide, by rw [updv_ne _ _ (fun q => e q.symm), fL 135 (by decide), if_neg (by omega)], (by rw [if_neg (by omega), if_neg (fun q => e q.symm)] : (0 : Nat) = _)⟩
        obtain ⟨x8, hx8l, hx8c, hx8e⟩ := hx8
        have hor : bits .or .u8 (x8 : Int) 128 = ((x8 ||| 128 : Nat) : Int) := u8_or_nat x8 128 hx8l (by decide)
        have i136 : ((0 : Nat) : Int) < 136 := by omega
        have hkl : ∀ i, i < 136 → updv (updv cL 0 (.int .u8 1)) 135 (.int .u8 ((x8 ||| 128 : Nat) : Int)) i = .int .u8 ((klast ([] : List Nat)).getD i 0 : Nat) := fun i hi => by
          rw [klast_get ([] : List Nat) 0 i hm.out (by omega) hi]
          by_cases e5 : i = 135
          · subst e5; rw [updv_same, if_pos rfl, ← hx8e.out]
          · rw [updv_ne _ _ e5, if_neg e5, Nat.or_zero]
            by_cases em : i = 0
            · subst em; rw [updv_same, if_neg (Nat.lt_irrefl _), if_pos rfl]; rfl
            · rw [updv_ne _ _ em, fL i hi]
              by_cases hl2 : i < 0
              · rw [if_pos hl2, if_pos hl2]
              · rw [if_neg hl2, if_neg hl2, if_neg em]
        have hkk0 : kabsorb A (klast ([] : List Nat)) = KA := by
          have h1 := hkk.out
          rw [show ([] : List Nat).length / 136 = 0 from rfl] at h1
          exact h1
        generalize hupd : updv cL 0 (.int .u8 1) = cL1 at *
        go_upto_region 8 with (first | ((with_reducible (refine Veil.out ?_; apply wl_storeC onek5 (v := .int .u8 1))); (case hx => rfl); (case hy => rfl); (case h1 => rfl); (case hB => exact bLx.ext (by (repeat (first | with_reducible exact Ext.refl _ | with_reducible assumption | refine Ext.trans ?_ (by with_reducible assumption) | refine Ext.alloc ?_ _ _ | refine Ext.drew ?_ | refine Ext.drewN ?_ _)))); (case hi => omega); rintro W7 b7 m7))
        have b7' : Blk W7 Lb 136 331 cL1 := by rw [← hupd]; exact b7
        clear hupd b7
        go_upto_region 9 with (first | ((with_reducible (refine Veil.out ?_; apply wl_load1 onek5)); (case hx => rfl); (case hB => exact b7'.ext (by (repeat (first | with_reducible exact Ext.refl _ | with_reducible assumption | refine Ext.trans ?_ (by with_reducible assumption) | refine Ext.alloc ?_ _ _ | refine Ext.drew ?_ | refine Ext.drewN ?_ _)))); (case ho => decide); rw [hx8c]) | ((with_reducible (refine Veil.out ?_; apply wl_storeC onek5 (v := .int .u8 ((x8 ||| 128 : Nat) : Int)))); (case hx => rfl); (case hy => rfl); (case h1 => rfl); (case hB => exact b7'.ext (by (repeat (first | with_reducible exact Ext.refl _ | with_reducible assumption | refine Ext.trans ?_ (by with_reducible assumption) | refine Ext.alloc ?_ _ _ | refine Ext.drew ?_ | refine Ext.drewN ?_ _)))); (case hi => decide); rintro W8 b8 m8))
        have hEx7 : Ext w W7 := Ext.trans_mod hEx m7 (fun x hx => by have hx2 : x = Lb := hx; rw [hx2]; exact gLw)
        have hE8 : Ext w W8 := Ext.trans_mod hEx7 m8 (fun x hx => by have hx2 : x = Lb := hx; rw [hx2]; exact gLw)
        have bG8 := (bGx.mod m7 (fun q => hLG q)).mod m8 (fun q => hLG q)
        have hRL : ¬ R = Lb := fun q => by have := bR.lt; omega
        have bR8 := (bRx.mod m7 hRL).mod m8 hRL
        have hdl : Digits (klast ([] : List Nat)) := klast_dig (fun d hd => hb.lt d hd)
        have hll : (klast ([] : List Nat)).length = 136 := by unfold klast; simp
        have HAb := kAbsorb HK (w := W8) (g := G) (b := Lb) (off := 0) (c := cG) (a := A) (bl := klast ([] : List Nat)) bG8 hLA hkA hlA hdl hll hLG b8.lt (fun i hi => by
          rw [Nat.zero_add, b8.cell (by omega), hkl i (by omega)]
          simp [List.getD_eq_getElem?_getD, hi])
        have hkf := kabsorb_flat (b := klast ([] : List Nat)) hlA hkA (s := fun i => (kget A (i / 64)).testBit (i % 64)) (fun i _ => rfl) hdl
        rw [hkk0] at HAb hkf
        have hK6 := hkf.2.1
        clear hkf hkl hkk0 hkk bGx bRx b7' hLA hkA hlA hdl hll
        try simp only [Act.put]
        go_upto_region 10 with (go_at_call 251; refine HAb.mono ?_; rintro e W9 ⟨rfl, c9, b9, h9, m9⟩)
        have bR9 := bR8.mod m9 hRG
        have hE9 : Ext w W9 := Ext.trans_mod hE8 m9 (fun x hx => by have hx2 : x = G := hx; rw [hx2]; exact gGw)
        clear bR8 hE8 bG8 HAb b8
        go_upto_region 12 with (first | ((with_reducible (refine Veil.out ?_; apply wl_allocF z27k)); rintro Q W10 e10 bQ gQ))
        try simp only [Act.put]
        have gQw : w.heap.size ≤ Q := Nat.le_trans hE9.size gQ
        have hGQ : G ≠ Q := fun q => by have := b9.lt; omega
        have hRQ : R ≠ Q := fun q => by have := bR9.lt; omega
        have hQ0 : W10.heap[Q]? = some (.cells (bcells (List.replicate 32 0)).toArray 32 (0, 0)) := bQ.toBB (by simp) (fun i hi => by rw [List.getD_eq_getElem?_getD, List.getElem?_replicate, if_pos hi]; rfl)
        have bG10 := b9.ext e10
        have bR10 := bR9.ext e10
        have hE10 := hE9.trans e10
        clear bQ b9 bR9 hE9 e10
        go_loopw [6] (fun iv wr => ∃ (i : Nat) (lo : List Nat), iv = .int .i64 (i : Nat) ∧ i ≤ 4 ∧ lo.length = 32 ∧ Hid (lo.take (8 * i) = (kout KA).take (8 * i)) ∧ wr.heap[Q]? = some (.cells (bcells lo).toArray 32 (0, 0)) ∧ Blk wr G 25 327 c9 ∧ Blk wr R 32 32 (fun _ => .int .u8 0) ∧ Ext w wr) (fun iv _ => 4 - (intOf iv).toNat)
        case atStart => exact ⟨0, List.replicate 32 0, rfl, by decide, by simp, (rfl : _ = _), hQ0, bG10, bR10, hE10⟩
        case round =>
          clear hQ0 bG10 bR10 hE10
          rename_i wq _
          obtain ⟨i, lo, rfl, hi4, hlo, hto, hQr, bGr, bRr, hEr⟩ := hrel
          rcases Nat.lt_or_ge i 4 with hlt4 | hge4
          · have hii4 : (i : Int) < 4 := by omega
            have i25 : (i : Int) < 25 := by omega
            have j8 : IntKind.i64.wrap (8 * (i : Int)) = ((8 * i : Nat) : Int) := by rw [IntKind.wrap_i64]; omega
            have hx := hK6 i
            have hst := kout_step hlt4 hto.out hx
            have hstL := turnN_lt _ hx
            have KG : ∀ W, Ext wr W → W.cell? ⟨G, i, none⟩ = some (.int .u64 ((kget KA i : Nat) : Int)) := fun W hW => by rw [(bGr.ext hW).cell (by omega), h9 i (by omega)]
            have HTn := fun W => kTurned (kget KA i) hx W
            have hQl : Q < wr.heap.size := (Array.getElem?_eq_some_iff.1 hQr).1
            have HPB := fun W (hW : Ext wr W) => mPutBE64 Q 32 (8 * i) (turnN (kget KA i)) lo 32 W hlo (by omega) (by decide) hstL ((hW.block Q hQl).trans hQr)
            obtain ⟨L2, hL2⟩ : ∃ z, Hid (lo.take (8 * i) ++ bytes8 (turnN (kget KA i)) ++ lo.drop (8 * i + 8) = z) := ⟨_, rfl⟩
            have hL2l : L2.length = 32 := by rw [← hL2.out]; simp [bytes8, hlo]; omega
            rw [hL2.out] at HPB hst
            have hstH : Hid (_ = _) := hst
            clear hst hstL
            obtain ⟨i8, hi8⟩ : ∃ z, Hid (8 * i = z) := ⟨_, rfl⟩
            rw [hi8.out] at HPB j8
            obtain ⟨xi, hxi⟩ : ∃ z, Hid (kget KA i = z) := ⟨_, rfl⟩
            rw [hxi.out] at HPB KG HTn
            obtain ⟨tx, htx⟩ : ∃ z, Hid (turnN xi = z) := ⟨_, rfl⟩
            rw [htx.out] at HPB HTn
            go_upto_region 14 with (fail)
            refine w_ext ?_
            rintro W0 hW0
            refine wp_region_held_drew (S := fun w' => (0 ≤ (w' : World).heap.size)) (by kernel_rfl) (Nat.zero_le _) (fun hHeld => ?_)
            have HH : Hid ((0 ≤ (_ : World).heap.size)) := hHeld
            clear hHeld
            refine wpAnyH_take (i := 0) (v := ?_) rfl (by kernel_rfl) (by kernel_rfl) (by kernel_rfl) (fun _ _ _ h => h) (Or.inl ⟨by rfl, ?_⟩) HH.out ?_
            rotate_left
            · intro w hSw; go_simp; try with_reducible rfl
            change wpAnyH _ _ _ _ _ _ _ (Act.put _ (some 31) _) _
            simp only [Act.put, List.setIfInBounds_toArray, List.set_cons_zero, List.set_cons_succ]
            refine wpAnyH_take (i := 1) (v := ?_) rfl (by kernel_rfl) (by kernel_rfl) (by kernel_rfl) (fun _ _ _ h => h) (Or.inl ⟨by rfl, ?_⟩) HH.out ?_
            rotate_left
            · intro w hSw; go_simp; try with_reducible rfl
            change wpAnyH _ _ _ _ _ _ _ (Act.put _ (some 32) _) _
            simp only [Act.put, List.setIfInBounds_toArray, List.set_cons_zero, List.set_cons_succ]
            refine wpAnyH_take (i := 2) (v := ?_) rfl (by kernel_rfl) (by kernel_rfl) (by kernel_rfl) (fun _ _ _ h => h) (Or.inl ⟨by rfl, ?_⟩) HH.out ?_
            rotate_left
            · intro w hSw; go_simp; try with_reducible rfl
            change wpAnyH _ _ _ _ _ _ _ (Act.put _ (some 33) _) _
            simp only [Act.put, List.setIfInBounds_toArray, List.set_cons_zero, List.set_cons_succ]
            refine wpAnyH_take (i := 3) (v := ?_) rfl (by kernel_rfl) (by kernel_rfl) (by kernel_rfl) (fun _ _ _ h => h) (Or.inl ⟨by rfl, ?_⟩) HH.out ?_
            rotate_left
            · intro w hSw; go_simp; try with_reducible rfl
            change wpAnyH _ _ _ _ _ _ _ (Act.put _ (some 34) _) _
            simp only [Act.put, List.setIfInBounds_toArray, List.set_cons_zero, List.set_cons_succ]
            refine wpAnyH_take (i := 4) (v := ?_) rfl (by kernel_rfl) (by kernel_rfl) (by kernel_rfl) (fun _ _ _ h => h) (Or.inl ⟨by rfl, ?_⟩) HH.out ?_
            rotate_left
            · intro w hSw; go_simp; try with_reducible rfl
            change wpAnyH _ _ _ _ _ _ _ (Act.put _ (some 35) _) _
            simp only [Act.put, List.setIfInBounds_toArray, List.set_cons_zero, List.set_cons_succ]
            refine wpAnyH_ready (rs := [5]) (by kernel_rfl) (by simp) ?_
            refine AllReadyH.cons rfl (fun K hK => ?_) AllReadyH.nil
            refine step_any rfl (op_loadK rfl onek26s rfl (KG _ (by (repeat (first | with_reducible exact Ext.refl _ | with_reducible assumption | refine Ext.trans ?_ (by with_reducible assumption) | refine Ext.alloc ?_ _ _ | refine Ext.drew ?_ | refine Ext.drewN ?_ _)))) ?_)
            refine hK.out _ _ HH.out (fun hHeld => ?_)
            clear hK K HH
            have HH : Hid ((0 ≤ (_ : World).heap.size)) := hHeld
            clear hHeld
            change wpAnyH _ _ _ _ _ _ _ (Act.put _ (some 36) _) _
            simp only [Act.put, List.setIfInBounds_toArray, List.set_cons_zero, List.set_cons_succ]
            refine wpAnyH_ready (rs := [6]) (by kernel_rfl) (by simp) ?_
            refine AllReadyH.cons rfl (fun K hK => ?_) AllReadyH.nil
            go_simp
            go_at_call 252; refine (HTn _).mono ?_; rintro e w4 ⟨rfl, hww⟩; replace hww := hww.symm; subst hww
            refine hK.out _ _ ?_ (fun hHeld => ?_)
            · exact Nat.zero_le _
            clear hK K HH
            have HH : Hid ((0 ≤ (_ : World).heap.size)) := hHeld
            clear hHeld
            refine wpAnyH_ready (rs := [7]) (by kernel_rfl) (by simp) ?_
            refine AllReadyH.cons rfl (fun K hK => ?_) AllReadyH.nil
            go_simp
            go_at_call 167; refine (HPB _ (by (repeat (first | with_reducible exact Ext.refl _ | with_reducible assumption | refine Ext.trans ?_ (by with_reducible assumption) | refine Ext.alloc ?_ _ _ | refine Ext.drew ?_ | refine Ext.drewN ?_ _)))).mono ?_; rintro e w5 ⟨rfl, hw5⟩; have hw5 : Hid (_ = _) := hw5
            refine hK.out _ _ ?_ (fun hHeld => ?_)
            · exact Nat.zero_le _
            clear hK K HH
            have HH : Hid ((0 ≤ (_ : World).heap.size)) := hHeld
            clear hHeld
            refine wpAnyH_done (by kernel_rfl) ?_ _
            go_wp2
            go_roundw
            case rel =>
              have hW0' : Ext wr W0 := by (repeat (first | with_reducible exact Ext.refl _ | with_reducible assumption | refine Ext.trans ?_ (by with_reducible assumption) | refine Ext.alloc ?_ _ _ | refine Ext.drew ?_ | refine Ext.drewN ?_ _))
              have hw6 := hw5.out
              subst hw6
              refine ⟨i + 1, L2, int_eq (by omega), by omega, hL2l, hstH.out, ?_, (bGr.ext hW0'.drew).setRow_ne hGQ, (bRr.ext hW0'.drew).setRow_ne hRQ, (hEr.trans hW0'.drew).setRow gQw _⟩
              rw [setRow_heap _ _ _ _ _ _ ((hW0'.drew.block Q hQl).trans hQr)]
            case measure => simp [intOf]; omega
          · have hii4 : ¬ (i : Int) < 4 := by omega
            obtain rfl : i = 4 := by omega
            go_wp2_with (first | ((with_reducible (refine Veil.out ?_; apply wl_loadRow rt27k)); (case hx => rfl); (case hB => exact bb_blk hQr hlo); (case hi => decide)) | ((with_reducible (refine Veil.out ?_; apply wl_storeRow rt27k)); (case hx => rfl); (case hy => rfl); (case hr => exact rowOf_size _ _ _); (case h1 => exact bc_ones hlo); (case hB => exact bRr); (case hi => decide); rintro W15 b15 m15))
            have hfin : lo = kout KA := by
              have h1 := hto.out
              rw [List.take_of_length_le (by omega), List.take_of_length_le (by rw [kout_len]; decide)] at h1
              exact h1
            have b15' := b15.same (c' := cf (bcells lo).toArray) (fun j hj => (lay_overK _ _ 32 j hj).symm)
            refine post_row rt27k (rowOf (cf (bcells lo).toArray) 0 32) (rowOf_size _ _ _) rfl rfl (b15'.rowIn (by decide)) rfl ?_
            rw [cf_rowK (by simp [bcells, hlo]), hfin]
            refine ⟨?_, Ext.trans_mod hEr m15 (fun x hx => by have hx2 : x = R := hx; rw [hx2]; exact gR)⟩
            show Ending.returned (.agg (bcells (kout KA)).toArray) = .returned (.agg (bcells (beL 32 (kec l))).toArray)
            rw [kec_bytes, ← hKA.out]
            rfl
      · obtain ⟨b, off, rfl, q2, q3, q4⟩ := hb.spot (fun q => by have hm2 := hm.out; rw [q] at hm2; simp at hm2; omega)
        have hrl : (bcells rem).toArray.size = m * 1 := by simp [bcells_length]; exact hm.out
        have KRr : ∀ W, Ext wr W → RowIn W b off (bcells rem).toArray := fun W hW i v hv => by
          have hi := (Array.getElem?_eq_some_iff.1 hv).1
          have hi2 : i < rem.length := by simpa [bcells_length] using hi
          rw [(hE.trans hW).cell q3, q4 i hi2]
          simpa [bcells, hi2] using hv
        go_upto_region 7 with (first | ((with_reducible (refine Veil.out ?_; apply wl_copyS under32k sz5k (k := m))); (case hd => rfl); (case hsr => rfl); (case hB => exact bL.ext (by (repeat (first | with_reducible exact Ext.refl _ | with_reducible assumption | refine Ext.trans ?_ (by with_reducible assumption) | refine Ext.alloc ?_ _ _ | refine Ext.drew ?_ | refine Ext.drewN ?_ _)))); (case hr => exact KRr _ (by (repeat (first | with_reducible exact Ext.refl _ | with_reducible assumption | refine Ext.trans ?_ (by with_reducible assumption) | refine Ext.alloc ?_ _ _ | refine Ext.drew ?_ | refine Ext.drewN ?_ _)))); (case hk => exact Nat.min_eq_left (by omega)); (case hn => exact hrl); (case h1 => omega); (case hon => exact fun v hv => bcells_one rem v (by simpa using hv)); rintro WC bC mC))
        have bLx := bC
        have bGx := bG0.mod mC (fun q => by have hq : G = Lb := q; have := bG.lt; omega)
        have bRx := bR0.mod mC (fun q => by have hq : R = Lb := q; have := bR.lt; omega)
        have hEx : Ext w WC := Ext.trans_mod hE0 mC (fun x hx => by have hx2 : x = Lb := hx; rw [hx2]; exact Nat.le_trans hE.size gL)
        have fL : ∀ j, j < 136 → layv (fun _ => Value.int .u8 0) 0 (bcells rem).toArray j = .int .u8 ((if j < m then rem.getD j 0 else 0 : Nat) : Int) := fun j hj => by
          by_cases h : j < m
          · rw [if_pos h]
            have := layv_in (fun _ => Value.int .u8 0) 0 (bcells rem).toArray (j := j) (by rw [hrl]; omega)
            rw [Nat.zero_add] at this
            rw [this]
            have hjl : j < rem.length := by rw [hm.out]; exact h
            refine cf_get ?_
            simp [bcells, hjl, List.getD_eq_getElem?_getD]
          · rw [if_neg h, layv_out _ _ _ (by rw [hrl]; omega)]; rfl
        generalize layv (fun _ => Value.int .u8 0) 0 (bcells rem).toArray = cL at *
        have hLG : G ≠ Lb := fun q => by have := bG.lt; omega
        have gLw : w.heap.size ≤ Lb := Nat.le_trans hE.size gL
        have hx8 : ∃ x8 : Nat, x8 < 256 ∧ updv cL m (.int .u8 1) 135 = .int .u8 (x8 : Nat) ∧ Hid (x8 = (if 135 < m then rem.getD 135 0 else if 135 = m then 1 else 0)) := by
          by_cases e : m = 135
          · exact ⟨1, by decide, by rw [e, updv_same]; rfl, (by rw [if_neg (by omega), if_pos e.symm] : (1 : Nat) = _)⟩
          · exact ⟨0, by decide, by rw [updv_ne _ _ (fun q => e q.symm), fL 135 (by decide), if_neg (by omega)], (by rw [if_neg (by omega), if_neg (fun q => e q.symm)] : (0 : Nat) = _)⟩
        obtain ⟨x8, hx8l, hx8c, hx8e⟩ := hx8
        have hor : bits .or .u8 (x8 : Int) 128 = ((x8 ||| 128 : Nat) : Int) := u8_or_nat x8 128 hx8l (by decide)
        have i136 : (m : Int) < 136 := by omega
        have hkl : ∀ i, i < 136 → updv (updv cL m (.int .u8 1)) 135 (.int .u8 ((x8 ||| 128 : Nat) : Int)) i = .int .u8 ((klast rem).getD i 0 : Nat) := fun i hi => by
          rw [klast_get rem m i hm.out (by omega) hi]
          by_cases e5 : i = 135
          · subst e5; rw [updv_same, if_pos rfl, ← hx8e.out]
          · rw [updv_ne _ _ e5, if_neg e5, Nat.or_zero]
            by_cases em : i = m
            · subst em; rw [updv_same, if_neg (Nat.lt_irrefl _), if_pos rfl]; rfl
            · rw [updv_ne _ _ em, fL i hi]
              by_cases hl2 : i < m
              · rw [if_pos hl2, if_pos hl2]
              · rw [if_neg hl2, if_neg hl2, if_neg em]
        have hkk0 : kabsorb A (klast rem) = KA := by
          have h1 := hkk.out
          rw [show rem.length / 136 = 0 by rw [hm.out]; omega] at h1
          exact h1
        generalize hupd : updv cL m (.int .u8 1) = cL1 at *
        go_upto_region 8 with (first | ((with_reducible (refine Veil.out ?_; apply wl_storeC onek5 (v := .int .u8 1))); (case hx => rfl); (case hy => rfl); (case h1 => rfl); (case hB => exact bLx.ext (by (repeat (first | with_reducible exact Ext.refl _ | with_reducible assumption | refine Ext.trans ?_ (by with_reducible assumption) | refine Ext.alloc ?_ _ _ | refine Ext.drew ?_ | refine Ext.drewN ?_ _)))); (case hi => omega); rintro W7 b7 m7))
        have b7' : Blk W7 Lb 136 331 cL1 := by rw [← hupd]; exact b7
        clear hupd b7
        go_upto_region 9 with (first | ((with_reducible (refine Veil.out ?_; apply wl_load1 onek5)); (case hx => rfl); (case hB => exact b7'.ext (by (repeat (first | with_reducible exact Ext.refl _ | with_reducible assumption | refine Ext.trans ?_ (by with_reducible assumption) | refine Ext.alloc ?_ _ _ | refine Ext.drew ?_ | refine Ext.drewN ?_ _)))); (case ho => decide); rw [hx8c]) | ((with_reducible (refine Veil.out ?_; apply wl_storeC onek5 (v := .int .u8 ((x8 ||| 128 : Nat) : Int)))); (case hx => rfl); (case hy => rfl); (case h1 => rfl); (case hB => exact b7'.ext (by (repeat (first | with_reducible exact Ext.refl _ | with_reducible assumption | refine Ext.trans ?_ (by with_reducible assumption) | refine Ext.alloc ?_ _ _ | refine Ext.drew ?_ | refine Ext.drewN ?_ _)))); (case hi => decide); rintro W8 b8 m8))
        have hEx7 : Ext w W7 := Ext.trans_mod hEx m7 (fun x hx => by have hx2 : x = Lb := hx; rw [hx2]; exact gLw)
        have hE8 : Ext w W8 := Ext.trans_mod hEx7 m8 (fun x hx => by have hx2 : x = Lb := hx; rw [hx2]; exact gLw)
        have bG8 := (bGx.mod m7 (fun q => hLG q)).mod m8 (fun q => hLG q)
        have hRL : ¬ R = Lb := fun q => by have := bR.lt; omega
        have bR8 := (bRx.mod m7 hRL).mod m8 hRL
        have hdl : Digits (klast rem) := klast_dig (fun d hd => hb.lt d hd)
        have hll : (klast rem).length = 136 := by unfold klast; simp
        have HAb := kAbsorb HK (w := W8) (g := G) (b := Lb) (off := 0) (c := cG) (a := A) (bl := klast rem) bG8 hLA hkA hlA hdl hll hLG b8.lt (fun i hi => by
          rw [Nat.zero_add, b8.cell (by omega), hkl i (by omega)]
          simp [List.getD_eq_getElem?_getD, hi])
        have hkf := kabsorb_flat (b := klast rem) hlA hkA (s := fun i => (kget A (i / 64)).testBit (i % 64)) (fun i _ => rfl) hdl
        rw [hkk0] at HAb hkf
        have hK6 := hkf.2.1
        clear hkf hkl hkk0 hkk bGx bRx b7' hLA hkA hlA hdl hll
        try simp only [Act.put]
        go_upto_region 10 with (go_at_call 251; refine HAb.mono ?_; rintro e W9 ⟨rfl, c9, b9, h9, m9⟩)
        have bR9 := bR8.mod m9 hRG
        have hE9 : Ext w W9 := Ext.trans_mod hE8 m9 (fun x hx => by have hx2 : x = G := hx; rw [hx2]; exact gGw)
        clear bR8 hE8 bG8 HAb b8
        go_upto_region 12 with (first | ((with_reducible (refine Veil.out ?_; apply wl_allocF z27k)); rintro Q W10 e10 bQ gQ))
        try simp only [Act.put]
        have gQw : w.heap.size ≤ Q := Nat.le_trans hE9.size gQ
        have hGQ : G ≠ Q := fun q => by have := b9.lt; omega
        have hRQ : R ≠ Q := fun q => by have := bR9.lt; omega
        have hQ0 : W10.heap[Q]? = some (.cells (bcells (List.replicate 32 0)).toArray 32 (0, 0)) := bQ.toBB (by simp) (fun i hi => by rw [List.getD_eq_getElem?_getD, List.getElem?_replicate, if_pos hi]; rfl)
        have bG10 := b9.ext e10
        have bR10 := bR9.ext e10
        have hE10 := hE9.trans e10
        clear bQ b9 bR9 hE9 e10
        go_loopw [6] (fun iv wr => ∃ (i : Nat) (lo : List Nat), iv = .int .i64 (i : Nat) ∧ i ≤ 4 ∧ lo.length = 32 ∧ Hid (lo.take (8 * i) = (kout KA).take (8 * i)) ∧ wr.heap[Q]? = some (.cells (bcells lo).toArray 32 (0, 0)) ∧ Blk wr G 25 327 c9 ∧ Blk wr R 32 32 (fun _ => .int .u8 0) ∧ Ext w wr) (fun iv _ => 4 - (intOf iv).toNat)
        case atStart => exact ⟨0, List.replicate 32 0, rfl, by decide, by simp, (rfl : _ = _), hQ0, bG10, bR10, hE10⟩
        case round =>
          clear hQ0 bG10 bR10 hE10
          rename_i wq _
          obtain ⟨i, lo, rfl, hi4, hlo, hto, hQr, bGr, bRr, hEr⟩ := hrel
          rcases Nat.lt_or_ge i 4 with hlt4 | hge4
          · have hii4 : (i : Int) < 4 := by omega
            have i25 : (i : Int) < 25 := by omega
            have j8 : IntKind.i64.wrap (8 * (i : Int)) = ((8 * i : Nat) : Int) := by rw [IntKind.wrap_i64]; omega
            have hx := hK6 i
            have hst := kout_step hlt4 hto.out hx
            have hstL := turnN_lt _ hx
            have KG : ∀ W, Ext wr W → W.cell? ⟨G, i, none⟩ = some (.int .u64 ((kget KA i : Nat) : Int)) := fun W hW => by rw [(bGr.ext hW).cell (by omega), h9 i (by omega)]
            have HTn := fun W => kTurned (kget KA i) hx W
            have hQl : Q < wr.heap.size := (Array.getElem?_eq_some_iff.1 hQr).1
            have HPB := fun W (hW : Ext wr W) => mPutBE64 Q 32 (8 * i) (turnN (kget KA i)) lo 32 W hlo (by omega) (by decide) hstL ((hW.block Q hQl).trans hQr)
            obtain ⟨L2, hL2⟩ : ∃ z, Hid (lo.take (8 * i) ++ bytes8 (turnN (kget KA i)) ++ lo.drop (8 * i + 8) = z) := ⟨_, rfl⟩
            have hL2l : L2.length = 32 := by rw [← hL2.out]; simp [bytes8, hlo]; omega
            rw [hL2.out] at HPB hst
            have hstH : Hid (_ = _) := hst
            clear hst hstL
            obtain ⟨i8, hi8⟩ : ∃ z, Hid (8 * i = z) := ⟨_, rfl⟩
            rw [hi8.out] at HPB j8
            obtain ⟨xi, hxi⟩ : ∃ z, Hid (kget KA i = z) := ⟨_, rfl⟩
            rw [hxi.out] at HPB KG HTn
            obtain ⟨tx, htx⟩ : ∃ z, Hid (turnN xi = z) := ⟨_, rfl⟩
            rw [htx.out] at HPB HTn
            go_upto_region 14 with (fail)
            refine w_ext ?_
            rintro W0 hW0
            refine wp_region_held_drew (S := fun w' => (0 ≤ (w' : World).heap.size)) (by kernel_rfl) (Nat.zero_le _) (fun hHeld => ?_)
            have HH : Hid ((0 ≤ (_ : World).heap.size)) := hHeld
            clear hHeld
            refine wpAnyH_take (i := 0) (v := ?_) rfl (by kernel_rfl) (by kernel_rfl) (by kernel_rfl) (fun _ _ _ h => h) (Or.inl ⟨by rfl, ?_⟩) HH.out ?_
            rotate_left
            · intro w hSw; go_simp; try with_reducible rfl
            change wpAnyH _ _ _ _ _ _ _ (Act.put _ (some 31) _) _
            simp only [Act.put, List.setIfInBounds_toArray, List.set_cons_zero, List.set_cons_succ]
            refine wpAnyH_take (i := 1) (v := ?_) rfl (by kernel_rfl) (by kernel_rfl) (by kernel_rfl) (fun _ _ _ h => h) (Or.inl ⟨by rfl, ?_⟩) HH.out ?_
            rotate_left
            · intro w hSw; go_simp; try with_reducible rfl
            change wpAnyH _ _ _ _ _ _ _ (Act.put _ (some 32) _) _
            simp only [Act.put, List.setIfInBounds_toArray, List.set_cons_zero, List.set_cons_succ]
            refine wpAnyH_take (i := 2) (v := ?_) rfl (by kernel_rfl) (by kernel_rfl) (by kernel_rfl) (fun _ _ _ h => h) (Or.inl ⟨by rfl, ?_⟩) HH.out ?_
            rotate_left
            · intro w hSw; go_simp; try with_reducible rfl
            change wpAnyH _ _ _ _ _ _ _ (Act.put _ (some 33) _) _
            simp only [Act.put, List.setIfInBounds_toArray, List.set_cons_zero, List.set_cons_succ]
            refine wpAnyH_take (i := 3) (v := ?_) rfl (by kernel_rfl) (by kernel_rfl) (by kernel_rfl) (fun _ _ _ h => h) (Or.inl ⟨by rfl, ?_⟩) HH.out ?_
            rotate_left
            · intro w hSw; go_simp; try with_reducible rfl
            change wpAnyH _ _ _ _ _ _ _ (Act.put _ (some 34) _) _
            simp only [Act.put, List.setIfInBounds_toArray, List.set_cons_zero, List.set_cons_succ]
            refine wpAnyH_take (i := 4) (v := ?_) rfl (by kernel_rfl) (by kernel_rfl) (by kernel_rfl) (fun _ _ _ h => h) (Or.inl ⟨by rfl, ?_⟩) HH.out ?_
            rotate_left
            · intro w hSw; go_simp; try with_reducible rfl
            change wpAnyH _ _ _ _ _ _ _ (Act.put _ (some 35) _) _
            simp only [Act.put, List.setIfInBounds_toArray, List.set_cons_zero, List.set_cons_succ]
            refine wpAnyH_ready (rs := [5]) (by kernel_rfl) (by simp) ?_
            refine AllReadyH.cons rfl (fun K hK => ?_) AllReadyH.nil
            refine step_any rfl (op_loadK rfl onek26s rfl (KG _ (by (repeat (first | with_reducible exact Ext.refl _ | with_reducible assumption | refine Ext.trans ?_ (by with_reducible assumption) | refine Ext.alloc ?_ _ _ | refine Ext.drew ?_ | refine Ext.drewN ?_ _)))) ?_)
            refine hK.out _ _ HH.out (fun hHeld => ?_)
            clear hK K HH
            have HH : Hid ((0 ≤ (_ : World).heap.size)) := hHeld
            clear hHeld
            change wpAnyH _ _ _ _ _ _ _ (Act.put _ (some 36) _) _
            simp only [Act.put, List.setIfInBounds_toArray, List.set_cons_zero, List.set_cons_succ]
            refine wpAnyH_ready (rs := [6]) (by kernel_rfl) (by simp) ?_
            refine AllReadyH.cons rfl (fun K hK => ?_) AllReadyH.nil
            go_simp
            go_at_call 252; refine (HTn _).mono ?_; rintro e w4 ⟨rfl, hww⟩; replace hww := hww.symm; subst hww
            refine hK.out _ _ ?_ (fun hHeld => ?_)
            · exact Nat.zero_le _
            clear hK K HH
            have HH : Hid ((0 ≤ (_ : World).heap.size)) := hHeld
            clear hHeld
            refine wpAnyH_ready (rs := [7]) (by kernel_rfl) (by simp) ?_
            refine AllReadyH.cons rfl (fun K hK => ?_) AllReadyH.nil
            go_simp
            go_at_call 167; refine (HPB _ (by (repeat (first | with_reducible exact Ext.refl _ | with_reducible assumption | refine Ext.trans ?_ (by with_reducible assumption) | refine Ext.alloc ?_ _ _ | refine Ext.drew ?_ | refine Ext.drewN ?_ _)))).mono ?_; rintro e w5 ⟨rfl, hw5⟩; have hw5 : Hid (_ = _) := hw5
            refine hK.out _ _ ?_ (fun hHeld => ?_)
            · exact Nat.zero_le _
            clear hK K HH
            have HH : Hid ((0 ≤ (_ : World).heap.size)) := hHeld
            clear hHeld
            refine wpAnyH_done (by kernel_rfl) ?_ _
            go_wp2
            go_roundw
            case rel =>
              have hW0' : Ext wr W0 := by (repeat (first | with_reducible exact Ext.refl _ | with_reducible assumption | refine Ext.trans ?_ (by with_reducible assumption) | refine Ext.alloc ?_ _ _ | refine Ext.drew ?_ | refine Ext.drewN ?_ _))
              have hw6 := hw5.out
              subst hw6
              refine ⟨i + 1, L2, int_eq (by omega), by omega, hL2l, hstH.out, ?_, (bGr.ext hW0'.drew).setRow_ne hGQ, (bRr.ext hW0'.drew).setRow_ne hRQ, (hEr.trans hW0'.drew).setRow gQw _⟩
              rw [setRow_heap _ _ _ _ _ _ ((hW0'.drew.block Q hQl).trans hQr)]
            case measure => simp [intOf]; omega
          · have hii4 : ¬ (i : Int) < 4 := by omega
            obtain rfl : i = 4 := by omega
            go_wp2_with (first | ((with_reducible (refine Veil.out ?_; apply wl_loadRow rt27k)); (case hx => rfl); (case hB => exact bb_blk hQr hlo); (case hi => decide)) | ((with_reducible (refine Veil.out ?_; apply wl_storeRow rt27k)); (case hx => rfl); (case hy => rfl); (case hr => exact rowOf_size _ _ _); (case h1 => exact bc_ones hlo); (case hB => exact bRr); (case hi => decide); rintro W15 b15 m15))
            have hfin : lo = kout KA := by
              have h1 := hto.out
              rw [List.take_of_length_le (by omega), List.take_of_length_le (by rw [kout_len]; decide)] at h1
              exact h1
            have b15' := b15.same (c' := cf (bcells lo).toArray) (fun j hj => (lay_overK _ _ 32 j hj).symm)
            refine post_row rt27k (rowOf (cf (bcells lo).toArray) 0 32) (rowOf_size _ _ _) rfl rfl (b15'.rowIn (by decide)) rfl ?_
            rw [cf_rowK (by simp [bcells, hlo]), hfin]
            refine ⟨?_, Ext.trans_mod hEr m15 (fun x hx => by have hx2 : x = R := hx; rw [hx2]; exact gR)⟩
            show Ending.returned (.agg (bcells (kout KA)).toArray) = .returned (.agg (bcells (beL 32 (kec l))).toArray)
            rw [kec_bytes, ← hKA.out]
            rfl
    · have hii : (136 : Int) ≤ m := by omega
      obtain ⟨b, off, rfl, q2, q3, q4⟩ := hb.spot (fun q => by rw [q] at hm2; simp at hm2; omega)
      have hl136 : (rem.take 136).length = 136 := by simp; omega
      have hGb : G ≠ b := fun q => by omega
      have HAb := fun W (hW : W = wr) => kAbsorb HK (w := W) (g := G) (b := b) (off := off) (c := cG) (a := A) (bl := rem.take 136) (by rw [hW]; exact bG) hLA hkA hlA (fun d hd => hb.lt d (List.mem_of_mem_take hd)) hl136 hGb (by rw [hW]; exact Nat.lt_of_lt_of_le q3 hE.size) (fun i hi => by
        rw [hW, hE.cell q3, q4 i (by rw [hl136] at hi; omega)]
        simp)
      have i1 : (136 : Int) ≤ cap := by omega
      have HPA := fun W => run_arrayAt W 331 5 136 136 cap (some ⟨b, off, none⟩) under323 (Nat.le_refl _)
      clear hm2
      go_upto_region 4 with (go_at_call 251; refine (HAb _ rfl).mono ?_; rintro e w3 ⟨rfl, c3, b3, h3, m3⟩)
      go_wp2
      go_roundw
      case rel =>
        have hm2 := hm.out
        have hkf := kabsorb_flat (b := rem.take 136) hlA hkA (s := fun i => (kget A (i / 64)).testBit (i % 64)) (fun i _ => rfl) (fun d hd => hb.lt d (List.mem_of_mem_take hd))
        refine ⟨rem.drop 136, kabsorb A (rem.take 136), _, m - 136, cap - 136, c3, rfl, ?_, by omega, by omega, by omega, BS.drop136 hb (by omega) (by omega), b3, h3, hkf.2.1, hkf.1, ?_, bR.mod m3 hRG, Ext.trans_mod hE m3 (fun x hx => by have hx2 : x = G := hx; rw [hx2]; exact gGw)⟩
        · show (rem.drop 136).length = m - 136
          rw [List.length_drop, hm2]
        · show kall ((rem.drop 136).length / 136) (kabsorb A (rem.take 136)) (rem.drop 136) = KA
          have h1 := hkk.out
          rw [show rem.length / 136 = (rem.drop 136).length / 136 + 1 by rw [List.length_drop]; omega] at h1
          exact h1
      case measure => simp [slLen]; omega
end Go.Proofs.YgvahwGreat
