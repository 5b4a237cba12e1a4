import Derived.Test.YgvahwGreatTop
import Derived.Test.YgvahwGreatMachA
namespace Go.Proofs.YgvahwGreat
set_option linter.unusedSimpArgs false
set_option linter.unusedVariables false

/-! What holds of the plain machine at every step. -/
/-- The gas of all frames. -/
def gsum (l : List AFrame) : Nat := (l.map (·.gas)).sum
/-- What a frame's memory has cost. -/
def mcost (f : AFrame) : Nat := memCostA (f.mem.length / 32)
def msum (l : List AFrame) : Nat := (l.map mcost).sum
theorem gsum_cons (f : AFrame) (l : List AFrame) : gsum (f :: l) = f.gas + gsum l := by simp [gsum]
theorem msum_cons (f : AFrame) (l : List AFrame) : msum (f :: l) = mcost f + msum l := by simp [msum]
theorem gsum_nil : gsum [] = 0 := rfl
theorem msum_nil : msum [] = 0 := rfl
/-- Any accounts together own at most T. -/
def SumLe (b : Nat → Nat) (T : Nat) : Prop := ∀ l : List Nat, l.Nodup → (l.map b).sum ≤ T
/-- What holds of a world; S = what was spent. -/
structure WInv (T S : Nat) (og : Nat → Nat → Nat) (w : AW) : Prop where
  code : ∀ a, (w.code a).length ≤ 256
  nonce : ∀ a, w.nonce a < 18446744073709551616
  sum : SumLe w.bal T
  ref : w.refund ≤ 199 * S
  clr : ∀ l : List (Nat × Nat), l.Nodup → (∀ p ∈ l, og p.1 p.2 ≠ 0 ∧ w.slot p.1 p.2 = 0) → 4800 * l.length ≤ w.refund
  few : ∀ x ∈ w.logs, x.topics.length ≤ 4
theorem WInv.mono {T S S' : Nat} {og : Nat → Nat → Nat} {w : AW} (h : WInv T S og w) (hs : S ≤ S') : WInv T S' og w :=
  ⟨h.code, h.nonce, h.sum, Nat.le_trans h.ref (Nat.mul_le_mul_left _ hs), h.clr, h.few⟩
theorem WInv.same {T S : Nat} {og : Nat → Nat → Nat} {w v : AW} (h : WInv T S og w) (h1 : v.code = w.code) (h2 : v.nonce = w.nonce) (h3 : v.bal = w.bal) (h4 : v.refund = w.refund) (h5 : v.slot = w.slot) (h6 : v.logs = w.logs) : WInv T S og v :=
  ⟨by rw [h1]; exact h.code, by rw [h2]; exact h.nonce, by rw [h3]; exact h.sum, by rw [h4]; exact h.ref, by rw [h4, h5]; exact h.clr, by rw [h6]; exact h.few⟩
section
variable {T S : Nat} {og : Nat → Nat → Nat} {w : AW}
theorem WInv.warm (h : WInv T S og w) (a : Nat) : WInv T S og (w.warm a) := h.same rfl rfl rfl rfl rfl rfl
theorem WInv.warmSlot (h : WInv T S og w) (a k : Nat) : WInv T S og (w.warmSlot a k) := h.same rfl rfl rfl rfl rfl rfl
theorem WInv.tstore (h : WInv T S og w) (a k v : Nat) : WInv T S og (w.tstore a k v) := h.same rfl rfl rfl rfl rfl rfl
theorem WInv.markMade (h : WInv T S og w) (a : Nat) : WInv T S og (w.markMade a) := h.same rfl rfl rfl rfl rfl rfl
theorem WInv.markGone (h : WInv T S og w) (a : Nat) : WInv T S og (w.markGone a) := h.same rfl rfl rfl rfl rfl rfl
theorem WInv.setNonce (h : WInv T S og w) (a n : Nat) (hn : n < 18446744073709551616) : WInv T S og (w.setNonce a n) :=
  ⟨h.code, fun b => by show up w.nonce a n b < _; unfold up; split; exact hn; exact h.nonce b, h.sum, h.ref, h.clr, h.few⟩
theorem WInv.setCode (h : WInv T S og w) (a : Nat) (c : List Nat) (hc : c.length ≤ 256) : WInv T S og (w.setCode a c) :=
  ⟨fun b => by show (up w.code a c b).length ≤ _; unfold up; split; exact hc; exact h.code b, h.nonce, h.sum, h.ref, h.clr, h.few⟩
theorem WInv.putLog (h : WInv T S og w) (l : ALog) (hl : l.topics.length ≤ 4) : WInv T S og (w.putLog l) :=
  ⟨h.code, h.nonce, h.sum, h.ref, h.clr, fun x hx => by
    rcases List.mem_append.1 hx with h1 | h1
    · exact h.few x h1
    · simp at h1; subst h1; exact hl⟩
end
/-! Sums. -/
theorem sum_up_mem (b : Nat → Nat) (a v : Nat) : ∀ l : List Nat, l.Nodup → a ∈ l → (l.map (up b a v)).sum + b a = (l.map b).sum + v
  | [], _, h => by simp at h
  | x :: l, hn, h => by
    have hn' := List.nodup_cons.1 hn
    simp only [List.map_cons, List.sum_cons]
    by_cases e : x = a
    · subst e
      have : l.map (up b x v) = l.map b := List.map_congr_left fun y hy => by unfold up; rw [if_neg]; rintro rfl; exact hn'.1 hy
      rw [this]; unfold up; rw [if_pos rfl]; omega
    · have h2 : a ∈ l := by rcases List.mem_cons.1 h with q | q; exact absurd q.symm e; exact q
      have := sum_up_mem b a v l hn'.2 h2
      unfold up at this ⊢; rw [if_neg e]; omega
theorem sum_up_not (b : Nat → Nat) (a v : Nat) (l : List Nat) (h : a ∉ l) : (l.map (up b a v)).sum = (l.map b).sum := by
  have : l.map (up b a v) = l.map b := List.map_congr_left fun y hy => by unfold up; rw [if_neg]; rintro rfl; exact h hy
  rw [this]
theorem sum_sub (b : Nat → Nat) (a : Nat) (l : List Nat) (h : a ∉ l) : (l.map b).sum ≤ ((a :: l).map b).sum := by simp
/-- One balance is one summand. -/
theorem SumLe.one {b : Nat → Nat} {T : Nat} (h : SumLe b T) (a : Nat) : b a ≤ T := by simpa using h [a] (by simp)
theorem SumLe.two {b : Nat → Nat} {T : Nat} (h : SumLe b T) {a c : Nat} (hne : a ≠ c) : b a + b c ≤ T := by simpa using h [a, c] (by simp [hne])
/-- A balance falls by d, so does the sum. -/
theorem SumLe.down {b : Nat → Nat} {T d : Nat} (h : SumLe b T) (a : Nat) (hd : d ≤ b a) : SumLe (up b a (b a - d)) (T - d) := by
  intro l hn
  by_cases ha : a ∈ l
  · have := sum_up_mem b a (b a - d) l hn ha
    have := h l hn
    omega
  · rw [sum_up_not _ _ _ _ ha]
    have := h (a :: l) (List.nodup_cons.2 ⟨ha, hn⟩)
    simp at this
    omega
/-- A balance rises by d, so does the sum. -/
theorem SumLe.up {b : Nat → Nat} {T d : Nat} (h : SumLe b T) (a : Nat) : SumLe (up b a (b a + d)) (T + d) := by
  intro l hn
  by_cases ha : a ∈ l
  · have := sum_up_mem b a (b a + d) l hn ha
    have := h l hn
    omega
  · rw [sum_up_not _ _ _ _ ha]
    have := h l hn
    omega
theorem SumLe.le {b : Nat → Nat} {T T' : Nat} (h : SumLe b T) (ht : T ≤ T') : SumLe b T' := fun l hl => Nat.le_trans (h l hl) ht
section
variable {T S : Nat} {og : Nat → Nat → Nat} {w : AW}
theorem WInv.move (h : WInv T S og w) (a c v : Nat) : WInv T S og (w.move a c v) := by
  unfold AW.move
  split
  · exact h
  · rename_i hv
    have hle : v ≤ w.bal a := by omega
    have hT : v ≤ T := Nat.le_trans hle (h.sum.one a)
    have h1 := h.sum.down a hle
    have h2 := SumLe.up (d := v) h1 c
    refine ⟨h.code, h.nonce, ?_, h.ref, h.clr, h.few⟩
    have e : T - v + v = T := by omega
    rw [e] at h2
    exact h2
/-- What is moved fits. -/
theorem WInv.moveFit (h : WInv T S og w) (hT : T < P256) {a c v : Nat} (hle : v ≤ w.bal a) : (w.setBal a (w.bal a - v)).bal c + v < P256 := by
  have hT' : v ≤ T := Nat.le_trans hle (h.sum.one a)
  have h1 := (h.sum.down a hle).one c
  show up w.bal a (w.bal a - v) c + v < P256
  omega
/-- The rule of SSTORE. -/
theorem WInv.sstore (h : WInv T S og w) (a k n d : Nat) (hd : 100 ≤ d) : sstoreMinus (og a k) (w.slot a k) n ≤ w.refund ∧
    WInv T (S + d) og (((w.setRefund (w.refund - sstoreMinus (og a k) (w.slot a k) n + sstorePlus (og a k) (w.slot a k) n)).warmSlot a k).store a k n) := by
  have hone : og a k ≠ 0 → w.slot a k = 0 → 4800 ≤ w.refund := fun h1 h2 => by
    have := h.clr [(a, k)] (by simp) (fun p hp => by simp at hp; subst hp; exact ⟨h1, h2⟩)
    simpa using this
  have hm : sstoreMinus (og a k) (w.slot a k) n ≤ w.refund := by
    unfold sstoreMinus
    split; omega
    split; omega
    split
    · rename_i q; exact hone q.1 q.2
    · omega
  refine ⟨hm, h.code, h.nonce, h.sum, ?_, ?_, h.few⟩
  · show w.refund - sstoreMinus (og a k) (w.slot a k) n + sstorePlus (og a k) (w.slot a k) n ≤ 199 * (S + d)
    have hp : sstorePlus (og a k) (w.slot a k) n ≤ 19900 := by
      unfold sstorePlus
      split; omega
      split
      · split <;> omega
      · split
        · rename_i q
          split
          · rename_i q2; omega
          · omega
        · split
          · split <;> omega
          · omega
    have := h.ref
    omega
  · intro l hn hl
    show 4800 * l.length ≤ w.refund - sstoreMinus (og a k) (w.slot a k) n + sstorePlus (og a k) (w.slot a k) n
    have hs : ∀ p ∈ l, p ≠ (a, k) → og p.1 p.2 ≠ 0 ∧ w.slot p.1 p.2 = 0 := fun p hp hne => by
      obtain ⟨q1, q2⟩ := hl p hp
      refine ⟨q1, ?_⟩
      have : up2 w.slot a k n p.1 p.2 = 0 := q2
      unfold up2 at this
      rw [if_neg (fun e => hne (Prod.ext e.1 e.2))] at this
      exact this
    by_cases hin : (a, k) ∈ l
    · obtain ⟨q1, q2⟩ := hl _ hin
      have hn0 : n = 0 := by
        have : up2 w.slot a k n a k = 0 := q2
        unfold up2 at this; rw [if_pos ⟨rfl, rfl⟩] at this; exact this
      simp only at q1
      subst hn0
      have her := h.clr (l.erase (a, k)) (hn.erase _) (fun p hp => hs p (List.mem_of_mem_erase hp) (fun e => by subst e; exact (hn.not_mem_erase) hp))
      have hlen : (l.erase (a, k)).length = l.length - 1 := List.length_erase_of_mem hin
      have hpos : 0 < l.length := List.length_pos_of_mem hin
      by_cases hv : w.slot a k = 0
      · have hall := h.clr l hn (fun p hp => by
          by_cases e : p = (a, k)
          · subst e; exact ⟨q1, hv⟩
          · exact hs p hp e)
        simp only [sstoreMinus, sstorePlus, hv]; simp; omega
      · have hpl : sstoreMinus (og a k) (w.slot a k) 0 = 0 ∧ 4800 ≤ sstorePlus (og a k) (w.slot a k) 0 := by
          have hv0 : ¬ (0 : Nat) = w.slot a k := fun e => hv e.symm
          have hq0 : ¬ (0 : Nat) = og a k := fun e => q1 e.symm
          refine ⟨?_, ?_⟩
          · unfold sstoreMinus
            rw [if_neg hv0, if_neg (fun (q : og a k ≠ 0 ∧ w.slot a k = 0) => hv q.2)]
            split <;> rfl
          · unfold sstorePlus
            rw [if_neg hv0]
            by_cases e : w.slot a k = og a k
            · rw [if_pos e, if_pos ⟨q1, rfl⟩]; omega
            · rw [if_neg e, if_pos ⟨q1, hv, rfl⟩]; omega
        omega
    · have hall := h.clr l hn (fun p hp => hs p hp (fun e => hin (e ▸ hp)))
      by_cases hc : og a k ≠ 0 ∧ w.slot a k = 0
      · have := h.clr ((a, k) :: l) (List.nodup_cons.2 ⟨hin, hn⟩) (fun p hp => by
          rcases List.mem_cons.1 hp with e | e
          · subst e; exact hc
          · exact hs p e (fun e2 => hin (e2 ▸ e)))
        simp at this
        have : sstoreMinus (og a k) (w.slot a k) n ≤ 4800 := by
          unfold sstoreMinus
          repeat' split
          all_goals omega
        omega
      · have : sstoreMinus (og a k) (w.slot a k) n = 0 := by
          unfold sstoreMinus; split; rfl; split; rfl; first | rfl | rw [if_neg hc]
        omega
end
end Go.Proofs.YgvahwGreat
