import Derived.Test.YgvahwGreatMachE
namespace Go.Proofs.YgvahwGreat
open Go.RowKit
abbrev zA : Array Value := #[.int .u64 0, .int .u64 0, .int .u64 0, .int .u64 0]
theorem boxesN (w : World) (r : Array Value) (t : TypeId) (W : World) (n : Nat) (hn : n = w.heap.size) (h : Ext (w.alloc (.cells r t)) W) : RowIn W n 0 r := by
  subst hn; exact boxes1 w r t W h
theorem boxes_there (w : World) (r : Array Value) (t : TypeId) (W : World) (n : Nat) (hn : n = w.heap.size) (h : Ext (w.alloc (.cells r t)) W) : W.there n 0 r.size := by
  subst hn
  intro j hj
  have hg : W.heap[w.heap.size]? = some (.cells r t (0, 0)) := (h.block _ (by simp)).trans (heap_new _ _)
  constructor
  · simp [World.cell?, hg]; omega
  · simp [World.frozen?, hg]
theorem ext_setRow {w W : World} {B : Nat} {r : List Value} (h : Ext w W) (hB : w.heap.size ≤ B) : Ext w (W.setCells B 0 r) :=
  h.trans_mod (setCells_mod (S := (· = B)) (Or.inl rfl) r 0 W (Mod.refl _ _)) (fun i hi => by rw [hi]; exact hB)
theorem row_set {W : World} {B : Nat} {r : Array Value} (h : W.there B 0 r.size) : RowIn (W.setCells B 0 r.toList) B 0 r := fun i v hv => by
  have := World.rangeAt_setCells_same W B 0 r.toList (by simpa using h) i v (by simpa using hv)
  exact this
theorem wvA_one (x : Nat) : ∀ v ∈ (wvA x).toList, v.oneCell' = true := by
  intro v hv
  simp at hv
  rcases hv with rfl | rfl | rfl | rfl <;> rfl
/-! The arithmetic by the opcodes. -/
section
variable (a b c : Nat)
theorem al1 : alu 1 a b c = (a + b) % P256 := by simp [alu]
theorem al2 : alu 2 a b c = a * b % P256 := by simp [alu]
theorem al3 : alu 3 a b c = (a + P256 - b) % P256 := by simp [alu]
theorem al10 : alu 10 a b c = a ^ b % P256 := by simp [alu]
theorem al11 : alu 11 a b c = sextW a b := by simp [alu]
theorem al22 : alu 22 a b c = a &&& b := by simp [alu]
theorem al23 : alu 23 a b c = a ||| b := by simp [alu]
theorem al24 : alu 24 a b c = a ^^^ b := by simp [alu]
theorem al25 : alu 25 a b c = P256 - 1 - a := by simp [alu]
theorem al26 : alu 26 a b c = (if a < 32 then b / 256 ^ (31 - a) % 256 else 0) := by simp [alu]
theorem al27 : alu 27 a b c = b * 2 ^ min a 256 % P256 := by simp [alu]
theorem al28 : alu 28 a b c = b / 2 ^ min a 256 := by simp [alu]
end
theorem P2 : P256 = 2 ^ 256 := by decide
theorem pos256 : 0 < P256 := by decide
theorem uA1 (a b c : Nat) (W : World) (ha : a < P256) (hb : b < P256) : Calls Hvah.prog 123 #[wv a, wv b] W fun e w' => e = .returned (wv (alu 1 a b c)) ∧ Ext W w' := by rw [al1]; exact uAdd a b W ha hb
theorem uA2 (a b c : Nat) (W : World) (ha : a < P256) (hb : b < P256) : Calls Hvah.prog 104 #[wv a, wv b] W fun e w' => e = .returned (wv (alu 2 a b c)) ∧ Ext W w' := by rw [al2]; exact uMul a b W ha hb
theorem uA3 (a b c : Nat) (W : World) (ha : a < P256) (hb : b < P256) : Calls Hvah.prog 107 #[wv a, wv b] W fun e w' => e = .returned (wv (alu 3 a b c)) ∧ Ext W w' := by rw [al3]; exact uSub a b W ha hb
theorem uA10 (a b c : Nat) (W : World) (ha : a < P256) (hb : b < P256) : Calls Hvah.prog 286 #[wv a, wv b] W fun e w' => e = .returned (wv (alu 10 a b c)) ∧ Ext W w' := by rw [al10]; exact uExp a b W ha hb
theorem uA11 (a b c : Nat) (W : World) (ha : a < P256) (hb : b < P256) : Calls Hvah.prog 287 #[wv a, wv b] W fun e w' => e = .returned (wv (alu 11 a b c)) ∧ Ext W w' := by rw [al11]; exact uSignExtend a b W ha hb
theorem uA22 (a b c : Nat) (W : World) (ha : a < P256) (_hb : b < P256) : Calls Hvah.prog 293 #[wv a, wv b] W fun e w' => e = .returned (wv (alu 22 a b c)) ∧ Ext W w' := by rw [al22]; exact uAnd a b W ha
theorem uA23 (a b c : Nat) (W : World) (ha : a < P256) (hb : b < P256) : Calls Hvah.prog 294 #[wv a, wv b] W fun e w' => e = .returned (wv (alu 23 a b c)) ∧ Ext W w' := by rw [al23]; exact uOr a b W ha hb
theorem uA24 (a b c : Nat) (W : World) (ha : a < P256) (hb : b < P256) : Calls Hvah.prog 295 #[wv a, wv b] W fun e w' => e = .returned (wv (alu 24 a b c)) ∧ Ext W w' := by rw [al24]; exact uXor a b W ha hb
theorem uA25 (a b c : Nat) (W : World) (ha : a < P256) (_hb : b < P256) : Calls Hvah.prog 296 #[wv a] W fun e w' => e = .returned (wv (alu 25 a b c)) ∧ Ext W w' := by rw [al25]; exact uNot a W ha
theorem uA26 (a b c : Nat) (W : World) (ha : a < P256) (_hb : b < P256) : Calls Hvah.prog 297 #[wv a, wv b] W fun e w' => e = .returned (wv (alu 26 a b c)) ∧ Ext W w' := by rw [al26]; exact uByte a b W ha
theorem uA27 (a b c : Nat) (W : World) (ha : a < P256) (_hb : b < P256) : Calls Hvah.prog 298 #[wv a, wv b] W fun e w' => e = .returned (wv (alu 27 a b c)) ∧ Ext W w' := by
  have e : alu 27 a b c = if a < 256 then b * 2 ^ a % P256 else 0 := by
    rw [al27]
    split
    · rw [Nat.min_eq_left (by omega)]
    · rw [Nat.min_eq_right (by omega), P2]; exact Nat.mul_mod_left _ _
  rw [e]; exact uShl a b W ha
theorem uA28 (a b c : Nat) (W : World) (ha : a < P256) (hb : b < P256) : Calls Hvah.prog 299 #[wv a, wv b] W fun e w' => e = .returned (wv (alu 28 a b c)) ∧ Ext W w' := by
  have e : alu 28 a b c = if a < 256 then b / 2 ^ a else 0 := by
    rw [al28]
    split
    · rw [Nat.min_eq_left (by omega)]
    · rw [Nat.min_eq_right (by omega)]
      exact Nat.div_eq_of_lt (by rw [P2] at hb; exact hb)
  rw [e]; exact uShr a b W ha hb
theorem alt1 (a b c : Nat) (_ha : a < P256) (_hb : b < P256) : alu 1 a b c < P256 := by rw [al1]; exact Nat.mod_lt _ pos256
theorem alt2 (a b c : Nat) (_ha : a < P256) (_hb : b < P256) : alu 2 a b c < P256 := by rw [al2]; exact Nat.mod_lt _ pos256
theorem alt3 (a b c : Nat) (_ha : a < P256) (_hb : b < P256) : alu 3 a b c < P256 := by rw [al3]; exact Nat.mod_lt _ pos256
theorem alt10 (a b c : Nat) (_ha : a < P256) (_hb : b < P256) : alu 10 a b c < P256 := by rw [al10]; exact Nat.mod_lt _ pos256
theorem alt11 (a b c : Nat) (_ha : a < P256) (hb : b < P256) : alu 11 a b c < P256 := by rw [al11]; exact sext_lt a b hb
theorem alt22 (a b c : Nat) (ha : a < P256) (_hb : b < P256) : alu 22 a b c < P256 := by
  rw [al22]
  exact Nat.lt_of_le_of_lt Nat.and_le_left ha
theorem alt23 (a b c : Nat) (ha : a < P256) (hb : b < P256) : alu 23 a b c < P256 := by
  rw [al23]
  rw [P2] at *
  exact Nat.or_lt_two_pow ha hb
theorem alt24 (a b c : Nat) (ha : a < P256) (hb : b < P256) : alu 24 a b c < P256 := by
  rw [al24]
  rw [P2] at *
  exact Nat.xor_lt_two_pow ha hb
theorem alt25 (a b c : Nat) (_ha : a < P256) (_hb : b < P256) : alu 25 a b c < P256 := by
  rw [al25]
  have := pos256
  omega
theorem alt26 (a b c : Nat) (_ha : a < P256) (_hb : b < P256) : alu 26 a b c < P256 := by
  rw [al26]
  split
  · exact Nat.lt_of_lt_of_le (Nat.mod_lt _ (by decide)) (by decide)
  · exact pos256
theorem alt27 (a b c : Nat) (_ha : a < P256) (_hb : b < P256) : alu 27 a b c < P256 := by rw [al27]; exact Nat.mod_lt _ pos256
theorem alt28 (a b c : Nat) (_ha : a < P256) (hb : b < P256) : alu 28 a b c < P256 := by
  rw [al28]
  exact Nat.lt_of_le_of_lt (Nat.div_le_self _ _) hb
end Go.Proofs.YgvahwGreat
