import Derived.Test.YgvahwGreatKk
import Derived.Test.YgvahwGreatTd
namespace Go.Proofs.YgvahwGreat
/-! The hash on bits is the hash on lanes. -/
/-- Bit j of the message. -/
def mbit (l : List Nat) (j : Nat) : Bool := (l.getD (j / 8) 0).testBit (j % 8)
/-- The number of bits with the padding. -/
def mlen (l : List Nat) : Nat := 1088 * (l.length / 136 + 1)
/-- Bit j of the message with its padding. -/
def pbit (l : List Nat) (j : Nat) : Bool := if j < 8 * l.length then mbit l j else decide (j = 8 * l.length ∨ j + 1 = mlen l)
/-- The bit state, flat, as lanes. -/
def unfs (s : Nat → Bool) (x y z : Nat) : Bool := s (64 * (5 * y + x) + z)
theorem fs_unfs (s : Nat → Bool) (i : Nat) : fs (unfs s) i = s i := by
  unfold fs unfs
  congr 1
  omega
/-- The state behind n bits. -/
def kst (b : Nat → Bool) : Nat → Nat → Bool
  | 0 => fun _ => false
  | n + 1 => let s := fun i => if i = n % 1088 then (kst b n i ^^ b n) else kst b n i; if n % 1088 = 1087 then fs (bRounds (unfs s) 24) else s
/-- The first m bits of byte j. -/
def obyte (s : Nat → Bool) (j : Nat) : Nat → Nat
  | 0 => 0
  | m + 1 => obyte s j m ||| if s (8 * j + m) then 2 ^ m else 0
theorem obyte_lt (s : Nat → Bool) (j : Nat) : ∀ m, obyte s j m < 2 ^ m
  | 0 => by unfold obyte; decide
  | m + 1 => by
    unfold obyte
    have h := obyte_lt s j m
    refine Nat.or_lt_two_pow (Nat.lt_trans h (Nat.pow_lt_pow_right (by decide) (by omega))) ?_
    split
    · exact Nat.pow_lt_pow_right (by decide) (by omega)
    · exact Nat.pow_pos (by decide)
theorem obyte_bit (s : Nat → Bool) (j k : Nat) : ∀ m, (obyte s j m).testBit k = (decide (k < m) && s (8 * j + k))
  | 0 => by simp [obyte]
  | m + 1 => by
    unfold obyte
    rw [Nat.testBit_or, obyte_bit s j k m]
    by_cases hk : k = m
    · subst hk
      by_cases hs : s (8 * j + k) = true
      · simp [hs, Nat.testBit_two_pow_self]
      · simp [hs]
    · have h2 : (if s (8 * j + m) = true then 2 ^ m else 0).testBit k = false := by
        split
        · exact Nat.testBit_two_pow_of_ne (fun q => hk q.symm)
        · simp
      rw [h2, Bool.or_false]
      congr 1
      simp only [decide_eq_decide]
      omega
theorem val_bit : ∀ (l : List Nat), Digits l → ∀ z, (val l).testBit z = (l.getD (z / 8) 0).testBit (z % 8)
  | [], _, z => by simp [val]
  | d :: l, hd, z => by
    have h1 : d < 2 ^ 8 := hd d (by simp)
    unfold val
    rw [Nat.add_comm, show (256 : Nat) = 2 ^ 8 by decide, Nat.testBit_two_pow_mul_add _ h1]
    by_cases hz : z < 8
    · rw [if_pos hz, show z / 8 = 0 by omega, show z % 8 = z by omega]; rfl
    · rw [if_neg hz, val_bit l (fun x hx => hd x (by simp [hx])) (z - 8), show z / 8 = (z - 8) / 8 + 1 by omega, show (z - 8) % 8 = z % 8 by omega]
      simp
theorem klane_bit (b : List Nat) (hb : Digits b) (i z : Nat) (hz : z < 64) : (klane b i).testBit z = (b.getD (8 * i + z / 8) 0).testBit (z % 8) := by
  unfold klane
  rw [val_bit _ (fun d hd => hb d (List.mem_of_mem_drop (List.mem_of_mem_take hd)))]
  congr 1
  simp only [List.getD_eq_getElem?_getD, List.getElem?_take, List.getElem?_drop]
  rw [if_pos (by omega)]
theorem klane_lt (b : List Nat) (hb : Digits b) (i : Nat) : klane b i < 18446744073709551616 := by
  unfold klane
  have := val_lt ((b.drop (8 * i)).take 8) (fun d hd => hb d (List.mem_of_mem_drop (List.mem_of_mem_take hd)))
  refine Nat.lt_of_lt_of_le this ?_
  have h8 : ((b.drop (8 * i)).take 8).length ≤ 8 := by rw [List.length_take]; omega
  exact Nat.le_trans (Nat.pow_le_pow_right (by decide) h8) (by decide)
/-- The flat bits of the lanes. -/
def LBf (a : List Nat) (s : Nat → Bool) : Prop := ∀ i, i < 1600 → s i = (kget a (i / 64)).testBit (i % 64)
theorem LBf.lb {a : List Nat} {s : Nat → Bool} (h : LBf a s) : LB a (unfs s) := fun x y z hx hy hz => by
  unfold unfs
  rw [h _ (by omega), show (64 * (5 * y + x) + z) / 64 = 5 * y + x by omega, show (64 * (5 * y + x) + z) % 64 = z by omega]
theorem LB.flat {a : List Nat} {A : Nat → Nat → Nat → Bool} (h : LB a A) : LBf a (fs A) := fun i hi => by
  unfold fs
  rw [← h (i / 64 % 5) (i / 320) (i % 64) (by omega) (by omega) (by omega), show 5 * (i / 320) + i / 64 % 5 = i / 64 by omega]
theorem kget_set (a : List Nat) (i j x : Nat) (hi : i < a.length) : kget (a.set i x) j = if j = i then x else kget a j := by
  unfold kget
  simp only [List.getD_eq_getElem?_getD, List.getElem?_set]
  by_cases h : j = i
  · subst h; simp [hi]
  · rw [if_neg (fun q => h q.symm), if_neg h]
theorem kround_len (a : List Nat) : (kround a).length = 25 := rfl
theorem kstep_len (a : List Nat) (r : Nat) : (kstep a r).length = 25 := by unfold kstep; simp [kround_len]
theorem kstep_lt {a : List Nat} (h : K64 a) (r : Nat) : K64 (kstep a r) := fun i => by
  unfold kstep
  rw [kget_set _ _ _ _ (by rw [kround_len]; decide)]
  split
  · exact xor_lt64 (kround_lt h _) (kRC_lt r)
  · exact kround_lt h _
theorem kstep_bit {a : List Nat} {A : Nat → Nat → Nat → Bool} (hl : K64 a) (h : LB a A) (r : Nat) : LB (kstep a r) (bStep A r) := fun x y z hx hy hz => by
  have hb := kround_bit hl h
  unfold kstep bStep bIota
  rw [kget_set _ _ _ _ (by rw [kround_len]; decide)]
  by_cases h0 : x = 0 ∧ y = 0
  · obtain ⟨rfl, rfl⟩ := h0
    rw [if_pos rfl, if_pos ⟨rfl, rfl⟩, Nat.testBit_xor, ← hb 0 0 z hx hy hz]
  · rw [if_neg (by omega), if_neg h0]
    exact hb x y z hx hy hz
theorem kF_bits {a : List Nat} {A : Nat → Nat → Nat → Bool} (hl : K64 a) (h : LB a A) : ∀ n, K64 ((List.range n).foldl kstep a) ∧ LB ((List.range n).foldl kstep a) (bRounds A n)
  | 0 => ⟨hl, h⟩
  | n + 1 => by
    rw [List.range_succ, List.foldl_append]
    obtain ⟨h1, h2⟩ := kF_bits hl h n
    exact ⟨kstep_lt h1 n, kstep_bit h1 h2 n⟩
theorem kF_len (a : List Nat) : (kF a).length = 25 := by
  unfold kF
  rw [show (24 : Nat) = 23 + 1 from rfl, List.range_succ, List.foldl_append]
  exact kstep_len _ _
theorem kF_flat {a : List Nat} {s : Nat → Bool} (hl : K64 a) (h : LBf a s) : K64 (kF a) ∧ LBf (kF a) (fs (bRounds (unfs s) 24)) := by
  obtain ⟨h1, h2⟩ := kF_bits hl h.lb 24
  exact ⟨h1, h2.flat⟩
/-- A block's bits go in. -/
def binto (s : Nat → Bool) (b : List Nat) (i : Nat) : Bool := if i < 1088 then s i ^^ (b.getD (i / 8) 0).testBit (i % 8) else s i
theorem kinto_fold (b : List Nat) : ∀ (n : Nat) (a : List Nat), n ≤ a.length → ((List.range n).foldl (fun a i => a.set i (kget a i ^^^ klane b i)) a).length = a.length ∧ ∀ j, kget ((List.range n).foldl (fun a i => a.set i (kget a i ^^^ klane b i)) a) j = if j < n then kget a j ^^^ klane b j else kget a j
  | 0, a, _ => ⟨rfl, fun j => rfl⟩
  | n + 1, a, hn => by
    obtain ⟨h1, h2⟩ := kinto_fold b n a (by omega)
    rw [List.range_succ, List.foldl_append]
    simp only [List.foldl_cons, List.foldl_nil]
    refine ⟨by rw [List.length_set, h1], fun j => ?_⟩
    rw [kget_set _ _ _ _ (by rw [h1]; omega), h2 n, if_neg (Nat.lt_irrefl n)]
    by_cases hj : j = n
    · subst hj; rw [if_pos rfl, if_pos (by omega)]
    · rw [if_neg hj, h2 j]
      by_cases hq : j < n
      · rw [if_pos hq, if_pos (by omega)]
      · rw [if_neg hq, if_neg (by omega)]
theorem kabsorb_flat {a b : List Nat} {s : Nat → Bool} (hla : a.length = 25) (hl : K64 a) (h : LBf a s) (hb : Digits b) : (kabsorb a b).length = 25 ∧ K64 (kabsorb a b) ∧ LBf (kabsorb a b) (fs (bRounds (unfs (binto s b)) 24)) := by
  obtain ⟨h1, h2⟩ := kinto_fold b 17 a (by omega)
  unfold kabsorb
  refine ⟨kF_len _, kF_flat (fun i => ?_) (fun i hi => ?_)⟩
  · rw [h2]
    split
    · exact xor_lt64 (hl _) (klane_lt b hb _)
    · exact hl _
  · rw [h2]
    unfold binto
    by_cases hq : i < 1088
    · rw [if_pos hq, if_pos (by omega), Nat.testBit_xor, klane_bit b hb _ _ (by omega), h i hi, show 8 * (i / 64) + i % 64 / 8 = i / 8 by omega, show i % 64 % 8 = i % 8 by omega]
    · rw [if_neg hq, if_neg (by omega)]; exact h i hi
/-- All blocks, on bits. -/
def ball : Nat → (Nat → Bool) → List Nat → Nat → Bool
  | 0, s, l => fs (bRounds (unfs (binto s (klast l))) 24)
  | n + 1, s, l => ball n (fs (bRounds (unfs (binto s (l.take 136))) 24)) (l.drop 136)
theorem klast_dig {l : List Nat} (h : Digits l) : Digits (klast l) := fun d hd => by
  unfold klast at hd
  have hb : ∀ x ∈ (l ++ 1 :: List.replicate 136 0).take 136, x < 256 := fun x hx => by
    have := List.mem_of_mem_take hx
    rcases List.mem_append.1 this with q | q
    · exact h x q
    · rcases List.mem_cons.1 q with rfl | q
      · decide
      · rw [List.eq_of_mem_replicate q]; decide
  rcases List.mem_or_eq_of_mem_set hd with q | q
  · exact hb d q
  · rw [q]
    refine Nat.or_lt_two_pow (n := 8) ?_ (by decide)
    rw [List.getD_eq_getElem?_getD]
    cases hc : ((l ++ 1 :: List.replicate 136 0).take 136)[135]? with
    | none => simp
    | some x => exact hb x (List.mem_of_getElem? hc)
theorem kall_flat : ∀ (q : Nat) (a l : List Nat) (s : Nat → Bool), a.length = 25 → K64 a → LBf a s → Digits l → K64 (kall q a l) ∧ LBf (kall q a l) (ball q s l)
  | 0, a, l, s, h1, h2, h3, h4 => (kabsorb_flat h1 h2 h3 (klast_dig h4)).2
  | q + 1, a, l, s, h1, h2, h3, h4 => by
    obtain ⟨g1, g2, g3⟩ := kabsorb_flat h1 h2 h3 (b := l.take 136) (fun d hd => h4 d (List.mem_of_mem_take hd))
    exact kall_flat q _ _ _ g1 g2 g3 (fun d hd => h4 d (List.mem_of_mem_drop hd))
/-- Inside a block the bits go in one by one. -/
theorem kst_part (b : Nat → Bool) (t : Nat) : ∀ m, m ≤ 1087 → ∀ i, kst b (1088 * t + m) i = if i < m then (kst b (1088 * t) i ^^ b (1088 * t + i)) else kst b (1088 * t) i
  | 0, _, i => by rw [if_neg (Nat.not_lt_zero _)]; rfl
  | m + 1, hm, i => by
    have ih := kst_part b t m (by omega)
    show kst b (1088 * t + m + 1) i = _
    rw [kst]
    rw [show (1088 * t + m) % 1088 = m by omega, if_neg (by omega)]
    by_cases h : i = m
    · subst h
      simp only [if_true]
      rw [ih i, if_neg (Nat.lt_irrefl i), if_pos (by omega)]
    · rw [if_neg h, ih i]
      by_cases hq : i < m
      · rw [if_pos hq, if_pos (by omega)]
      · rw [if_neg hq, if_neg (by omega)]
theorem kst_block (b : Nat → Bool) (t : Nat) (bl : List Nat) (hb : ∀ i, i < 1088 → b (1088 * t + i) = (bl.getD (i / 8) 0).testBit (i % 8)) : kst b (1088 * (t + 1)) = fs (bRounds (unfs (binto (kst b (1088 * t)) bl)) 24) := by
  have hp := kst_part b t 1087 (by decide)
  rw [show 1088 * (t + 1) = (1088 * t + 1087) + 1 by omega, kst]
  rw [show (1088 * t + 1087) % 1088 = 1087 by omega, if_pos rfl]
  congr 3
  funext i
  unfold binto
  by_cases h : i = 1087
  · subst h
    simp only [if_true]
    rw [hp 1087, if_neg (by decide), if_pos (by decide), hb 1087 (by decide)]
  · rw [if_neg h, hp i]
    by_cases hq : i < 1088
    · rw [if_pos (by omega), if_pos hq, hb i hq]
    · rw [if_neg (by omega), if_neg hq]
/-- Block t of the message of q whole blocks and the last. -/
def blk (q : Nat) (l : List Nat) (t : Nat) : List Nat := if t < q then (l.drop (136 * t)).take 136 else klast (l.drop (136 * q))
theorem ball_iter : ∀ (q : Nat) (s : Nat → Bool) (l : List Nat) (f : Nat → Nat → Bool), f 0 = s → (∀ t, t ≤ q → f (t + 1) = fs (bRounds (unfs (binto (f t) (blk q l t))) 24)) → f (q + 1) = ball q s l
  | 0, s, l, f, h0, h => by
    rw [h 0 (Nat.le_refl _), h0]
    unfold blk ball
    rw [if_neg (Nat.lt_irrefl _)]; rfl
  | q + 1, s, l, f, h0, h => by
    unfold ball
    refine ball_iter q _ (l.drop 136) (fun t => f (t + 1)) ?_ (fun t ht => ?_)
    · show f (0 + 1) = _
      rw [h 0 (by omega), h0]
      unfold blk
      rw [if_pos (by omega)]; rfl
    · show f (t + 1 + 1) = _
      rw [h (t + 1) (by omega)]
      congr 4
      unfold blk
      by_cases hq : t < q
      · rw [if_pos (by omega), if_pos hq, List.drop_drop, show 136 + 136 * t = 136 * (t + 1) by omega]
      · rw [if_neg (by omega), if_neg hq, List.drop_drop, show 136 + 136 * q = 136 * (q + 1) by omega]
theorem klast_get (r : List Nat) (m p : Nat) (hr : r.length = m) (hm : m ≤ 135) (hp : p < 136) : (klast r).getD p 0 = (if p < m then r.getD p 0 else if p = m then 1 else 0) ||| (if p = 135 then 128 else 0) := by
  have hb : ∀ p, p < 136 → ((r ++ 1 :: List.replicate 136 0).take 136).getD p 0 = if p < m then r.getD p 0 else if p = m then 1 else 0 := fun p hp => by
    simp only [List.getD_eq_getElem?_getD, List.getElem?_take]
    rw [if_pos hp]
    by_cases h1 : p < m
    · rw [List.getElem?_append_left (by omega), if_pos h1]
    · rw [List.getElem?_append_right (by omega), if_neg h1, hr]
      by_cases h2 : p = m
      · subst h2; simp
      · rw [if_neg h2]
        obtain ⟨k, hk⟩ : ∃ k, p - m = k + 1 := ⟨p - m - 1, by omega⟩
        rw [hk, List.getElem?_cons_succ, List.getElem?_replicate, if_pos (by omega)]; rfl
  have hlen : ((r ++ 1 :: List.replicate 136 0).take 136).length = 136 := by simp
  unfold klast
  simp only []
  rw [List.getD_eq_getElem?_getD, List.getElem?_set]
  by_cases h : 135 = p
  · subst h
    rw [if_pos rfl, if_pos (by rw [hlen]; decide), if_pos rfl, Option.getD_some, hb 135 (by decide)]
  · rw [if_neg h, ← List.getD_eq_getElem?_getD, hb p hp, show (if p = 135 then 128 else 0) = 0 from if_neg (fun q => h q.symm), Nat.or_zero]
theorem bit1 : ∀ k, k < 8 → (1 : Nat).testBit k = decide (k = 0) := by decide
theorem bit128 : ∀ k, k < 8 → (128 : Nat).testBit k = decide (k = 7) := by decide
theorem pbit_blk (l : List Nat) (t i : Nat) (ht : t ≤ l.length / 136) (hi : i < 1088) : pbit l (1088 * t + i) = ((blk (l.length / 136) l t).getD (i / 8) 0).testBit (i % 8) := by
  unfold blk pbit mbit mlen
  by_cases hq : t < l.length / 136
  · rw [if_pos (by omega), if_pos hq]
    congr 1
    · simp only [List.getD_eq_getElem?_getD, List.getElem?_take, List.getElem?_drop]
      rw [if_pos (by omega), show (1088 * t + i) / 8 = 136 * t + i / 8 by omega]
    · omega
  · have he : t = l.length / 136 := by omega
    subst he
    rw [if_neg (Nat.lt_irrefl _), klast_get _ (l.length % 136) (i / 8) (by simp; omega) (by omega) (by omega), Nat.testBit_or]
    have h8 : i % 8 < 8 := by omega
    have e135 : (if i / 8 = 135 then 128 else 0).testBit (i % 8) = decide (i = 1087) := by
      by_cases h : i / 8 = 135
      · rw [if_pos h, bit128 _ h8]; simp only [decide_eq_decide]; omega
      · rw [if_neg h]; simp; omega
    rw [e135]
    by_cases h1 : i / 8 < l.length % 136
    · rw [if_pos (by omega), if_pos h1, show (1088 * (l.length / 136) + i) % 8 = i % 8 by omega]
      rw [show decide (i = 1087) = false by simp; omega, Bool.or_false]
      congr 1
      simp only [List.getD_eq_getElem?_getD, List.getElem?_drop]
      rw [show (1088 * (l.length / 136) + i) / 8 = 136 * (l.length / 136) + i / 8 by omega]
    · rw [if_neg (by omega), if_neg h1]
      have e1 : (if i / 8 = l.length % 136 then 1 else 0).testBit (i % 8) = decide (i = 8 * (l.length % 136)) := by
        by_cases h : i / 8 = l.length % 136
        · rw [if_pos h, bit1 _ h8]; simp only [decide_eq_decide]; omega
        · rw [if_neg h]; simp; omega
      rw [e1, ← Bool.decide_or]
      simp only [decide_eq_decide]
      omega
theorem kst_ball (l : List Nat) : kst (pbit l) (mlen l) = ball (l.length / 136) (fun _ => false) l := by
  have := ball_iter (l.length / 136) (fun _ => false) l (fun t => kst (pbit l) (1088 * t)) rfl (fun t ht => kst_block (pbit l) t _ (fun i hi => pbit_blk l t i ht hi))
  exact this
theorem leL_get : ∀ (n x r : Nat), r < n → (leL n x).getD r 0 = x / 2 ^ (8 * r) % 256
  | n + 1, x, 0, _ => by simp [leL]
  | n + 1, x, r + 1, h => by
    unfold leL
    rw [List.getD_cons_succ, leL_get n _ r (by omega), Nat.div_div_eq_div_mul, show (256 : Nat) = 2 ^ 8 by decide, ← Nat.pow_add, show 8 + 8 * r = 8 * (r + 1) by omega]
theorem obyte_lane {a : List Nat} {s : Nat → Bool} (h : LBf a s) (j : Nat) (hj : j < 32) : obyte s j 8 = kget a (j / 8) / 2 ^ (8 * (j % 8)) % 256 := by
  apply Nat.eq_of_testBit_eq
  intro k
  rw [obyte_bit, show (256 : Nat) = 2 ^ 8 by decide, Nat.testBit_mod_two_pow, Nat.testBit_div_two_pow]
  by_cases hk : k < 8
  · rw [h _ (by omega), show (8 * j + k) / 64 = j / 8 by omega, show (8 * j + k) % 64 = k + 8 * (j % 8) by omega]
  · simp [hk]
theorem K64_zero : K64 (List.replicate 25 0) := K64_list (fun x hx => by rw [List.eq_of_mem_replicate hx]; decide)
theorem LBf_zero : LBf (List.replicate 25 0) (fun _ => false) := fun i hi => by
  unfold kget
  rw [List.getD_eq_getElem?_getD, List.getElem?_replicate]
  split <;> simp
theorem sum_kecL (l : List Nat) (hd : Digits l) : ((List.range 32).map fun j => obyte (kst (pbit l) (mlen l)) j 8) = kecL l := by
  obtain ⟨_, h2⟩ := kall_flat (l.length / 136) (List.replicate 25 0) l (fun _ => false) (by simp) K64_zero LBf_zero hd
  rw [← kst_ball] at h2
  unfold kecL
  simp only []
  generalize kall (l.length / 136) (List.replicate 25 0) l = a at *
  generalize kst (pbit l) (mlen l) = s at *
  apply List.ext_getElem?
  intro i
  by_cases hi : i < 32
  · rw [List.getElem?_map, List.getElem?_range hi, Option.map_some, obyte_lane h2 i hi]
    have hg : ∀ x r, r < 8 → (leL 8 x)[r]? = some (x / 2 ^ (8 * r) % 256) := fun x r hr => by
      have h1 := leL_get 8 x r hr
      rw [List.getD_eq_getElem?_getD] at h1
      cases hc : (leL 8 x)[r]? with
      | none => rw [List.getElem?_eq_none_iff, leL_len] at hc; omega
      | some y => rw [hc] at h1; exact congrArg some h1
    have hL := leL_len 8
    rcases (show i / 8 = 0 ∨ i / 8 = 1 ∨ i / 8 = 2 ∨ i / 8 = 3 by omega) with h | h | h | h
    · rw [List.getElem?_append_left (by simp [hL]; omega), List.getElem?_append_left (by simp [hL]; omega), List.getElem?_append_left (by rw [hL]; omega), hg _ _ (by omega), h, show i % 8 = i by omega]
    · rw [List.getElem?_append_left (by simp [hL]; omega), List.getElem?_append_left (by simp [hL]; omega), List.getElem?_append_right (by rw [hL]; omega), hL, hg _ _ (by omega), h, show i % 8 = i - 8 by omega]
    · rw [List.getElem?_append_left (by simp [hL]; omega), List.getElem?_append_right (by simp [hL]; omega), hg _ _ (by simp [hL]; omega), h]
      simp only [List.length_append, hL]
      rw [show i % 8 = i - (8 + 8) by omega]
    · rw [List.getElem?_append_right (by simp [hL]; omega), hg _ _ (by simp [hL]; omega), h]
      simp only [List.length_append, hL]
      rw [show i % 8 = i - (8 + 8 + 8) by omega]
  · rw [List.getElem?_eq_none (by simp; omega), List.getElem?_eq_none (by simp [leL_len]; omega)]
theorem kec_bytes (l : List Nat) : beL 32 (kec l) = kecL l :=
  bev_inj _ _ (digits_beL _ _) (kecL_dig l) (by rw [kecL_len, len32 (kec_lt l)]) (by rw [bev_beL]; rfl)
end Go.Proofs.YgvahwGreat
