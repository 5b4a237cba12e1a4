import Derived.Test.YgvahwGreatMachA
import Derived.Test.YgvahwGreatTop
import Derived.Test.YgvahwGreatRx
import Derived.Test.YgvahwGreatRowsN
namespace Go.Proofs.YgvahwGreat
open Go.RowKit
/-! The inputs: worlds, surroundings and transactions as they lie in memory. -/
/-- A row of elements, each of sz cells, in a slice that may begin anywhere. -/
def EL {α : Type} (sz : Nat) (R : (Nat → Value) → Nat → α → Prop) (O : Nat → Prop) (w : World) (v : Value) (l : List α) : Prop :=
  (l = [] ∧ ∃ p, v = .slice p 0 0) ∨ ∃ b off cap c, v = .slice (some ⟨b, off, none⟩) l.length cap ∧ l.length ≤ cap ∧ cap ≤ 9223372036854775807 ∧ ¬ O b ∧ b < w.heap.size ∧ (∀ i, i < l.length * sz → w.cell? ⟨b, off + i, none⟩ = some (c i)) ∧ ∀ (i : Nat) (h : i < l.length), R c (i * sz) l[i]
theorem EL.mono {α : Type} {sz : Nat} {R R' : (Nat → Value) → Nat → α → Prop} {O : Nat → Prop} {w w' : World} {v : Value} {l : List α} (h : EL sz R O w v l) (e : Ext w w') (hR : ∀ c o x, R c o x → R' c o x) : EL sz R' O w' v l := by
  rcases h with h | ⟨b, off, cap, c, h1, h2, h3, h4, h5, h6, h7⟩
  · exact Or.inl h
  · exact Or.inr ⟨b, off, cap, c, h1, h2, h3, h4, Nat.lt_of_lt_of_le h5 e.size, fun i hi => (e.cell (p := ⟨b, off + i, none⟩) h5).trans (h6 i hi), fun i hi => hR _ _ _ (h7 i hi)⟩
/-- An element's row. -/
theorem el_row {α : Type} {l : List α} {sz b off : Nat} {w : World} {c : Nat → Value} (h : ∀ i, i < l.length * sz → w.cell? ⟨b, off + i, none⟩ = some (c i)) {i : Nat} (hi : i < l.length) : RowIn w b (off + i * sz) (rowOf c (i * sz) sz) := fun j v hv => by
  have hj := (Array.getElem?_eq_some_iff.1 hv).1
  rw [rowOf_size] at hj
  rw [rowOf_get, if_pos hj] at hv
  have h1 : i * sz + j < l.length * sz := by
    have : (i + 1) * sz ≤ l.length * sz := Nat.mul_le_mul_right _ hi
    rw [Nat.succ_mul] at this; omega
  rw [show off + i * sz + j = off + (i * sz + j) by omega, h _ h1]
  exact hv
/-- A list of words of the input; where it is empty its place says nothing. -/
def KL (O : Nat → Prop) (w : World) (v : Value) (l : List Nat) : Prop :=
  (l = [] ∧ ∃ p, v = .slice p 0 0) ∨ ∃ b off cap, v = .slice (some ⟨b, off, none⟩) l.length cap ∧ l.length ≤ cap ∧ cap ≤ 9223372036854775807 ∧ ¬ O b ∧ b < w.heap.size ∧ ∀ (i : Nat) (h : i < l.length), l[i] < P256 ∧ RowIn w b (off + i * 32) (bw l[i])
theorem KL.ext {O : Nat → Prop} {w w' : World} {v : Value} {l : List Nat} (h : KL O w v l) (e : Ext w w') : KL O w' v l := by
  rcases h with h | ⟨b, off, cap, h1, h2, h3, h4, h5, h6⟩
  · exact Or.inl h
  · exact Or.inr ⟨b, off, cap, h1, h2, h3, h4, Nat.lt_of_lt_of_le h5 e.size, fun i hi => ⟨(h6 i hi).1, (h6 i hi).2.ext h5 e⟩⟩
theorem KL.keep {O S : Nat → Prop} {w w' : World} {v : Value} {l : List Nat} (h : KL O w v l) (m : Mod S w w') (hs : ∀ b, ¬ O b → ¬ S b) : KL O w' v l := by
  rcases h with h | ⟨b, off, cap, h1, h2, h3, h4, h5, h6⟩
  · exact Or.inl h
  · exact Or.inr ⟨b, off, cap, h1, h2, h3, h4, Nat.lt_of_lt_of_le h5 m.size, fun i hi => ⟨(h6 i hi).1, fun j x hx => (m.cell (p := ⟨b, off + i * 32 + j, none⟩) h5 (hs b h4)).trans ((h6 i hi).2 j x hx)⟩⟩
theorem KL.reo {O O' : Nat → Prop} {w : World} {v : Value} {l : List Nat} (h : KL O w v l) (hO : ∀ b, b < w.heap.size → O' b → O b) : KL O' w v l := by
  rcases h with h | ⟨b, off, cap, h1, h2, h3, h4, h5, h6⟩
  · exact Or.inl h
  · exact Or.inr ⟨b, off, cap, h1, h2, h3, fun q => h4 (hO b h5 q), h5, h6⟩
theorem KL.slice {O : Nat → Prop} {w : World} {v : Value} {l : List Nat} (h : KL O w v l) : ∃ o cap, v = .slice o l.length cap ∧ l.length ≤ cap ∧ cap ≤ 9223372036854775807 := by
  rcases h with ⟨rfl, p, rfl⟩ | ⟨b, off, cap, h1, h2, h3, _⟩
  · exact ⟨p, 0, rfl, Nat.le_refl _, by decide⟩
  · exact ⟨_, cap, h1, h2, h3⟩
theorem KL.one' {O : Nat → Prop} {w : World} {v : Value} {l : List Nat} (h : KL O w v l) : v.oneCell' = true := by
  obtain ⟨_, _, rfl, _⟩ := h.slice; rfl
/-- An address of the list with its keys. -/
structure AcC (O : Nat → Prop) (w : World) (c : Nat → Value) (o : Nat) (x : Nat × List Nat) : Prop where
  addr : AAt c o x.1
  aLt : x.1 < 2 ^ 160
  keys : KL O w (c (o + 20)) x.2
/-- A transaction, from cell 0 on. -/
structure TxC (O : Nat → Prop) (w : World) (c : Nat → Value) (t : ATx) : Prop where
  from_ : AAt c 0 t.from_
  fLt : t.from_ < 2 ^ 160
  to_ : AAt c 20 t.to_
  tLt : t.to_ < 2 ^ 160
  create : c 40 = .bool t.create
  nonce : c 41 = .int .u64 (t.nonce : Nat)
  nLt : t.nonce < 18446744073709551616
  gas : c 42 = .int .u64 (t.gas : Nat)
  gLt : t.gas < 18446744073709551616
  price : BAt c 43 t.price
  pLt : t.price < P256
  value : BAt c 75 t.value
  vLt : t.value < P256
  data : NLx O w (c 107) t.data
  dynamic : c 108 = .bool t.dynamic
  maxFee : BAt c 109 t.maxFee
  mLt : t.maxFee < P256
  tip : BAt c 141 t.tip
  iLt : t.tip < P256
  access : EL 21 (AcC O w) O w (c 173) t.access
/-- A slot of the input. -/
structure ISlC (c : Nat → Value) (o : Nat) (x : Nat × Nat) : Prop where
  key : BAt c o x.1
  kLt : x.1 < P256
  val : BAt c (o + 32) x.2
  vLt : x.2 < P256
/-- An account of the input. -/
structure IAcct where
  addr : Nat
  nonce : Nat
  bal : Nat
  code : List Nat
  slots : List (Nat × Nat)
structure IAcC (O : Nat → Prop) (w : World) (c : Nat → Value) (o : Nat) (x : IAcct) : Prop where
  addr : AAt c o x.addr
  aLt : x.addr < 2 ^ 160
  nonce : c (o + 20) = .int .u64 (x.nonce : Nat)
  nLt : x.nonce < 18446744073709551616
  bal : BAt c (o + 21) x.bal
  bLt : x.bal < P256
  code : NLx O w (c (o + 53)) x.code
  slots : EL 64 ISlC O w (c (o + 54)) x.slots
/-- The surroundings of the input. -/
structure EnvI (O : Nat → Prop) (w : World) (c : Nat → Value) (e : AEnv) : Prop where
  coinbase : AAt c 0 e.coinbase
  cLt : e.coinbase < 2 ^ 160
  number : c 20 = .int .u64 (e.number : Nat)
  nLt : e.number < 18446744073709551616
  time : c 21 = .int .u64 (e.time : Nat)
  tLt : e.time < 18446744073709551616
  gasLimit : c 22 = .int .u64 (e.gasLimit : Nat)
  gLt : e.gasLimit < 18446744073709551616
  randao : BAt c 23 e.randao
  rLt : e.randao < P256
  chainID : BAt c 55 e.chainID
  iLt : e.chainID < P256
  baseFee : BAt c 87 e.baseFee
  bLt : e.baseFee < P256
  hashes : WL O w (c 119) e.hashes
theorem AcC.ext {O : Nat → Prop} {w w' : World} {c : Nat → Value} {o : Nat} {x : Nat × List Nat} (h : AcC O w c o x) (e : Ext w w') : AcC O w' c o x := ⟨h.addr, h.aLt, h.keys.ext e⟩
theorem IAcC.ext {O : Nat → Prop} {w w' : World} {c : Nat → Value} {o : Nat} {x : IAcct} (h : IAcC O w c o x) (e : Ext w w') : IAcC O w' c o x := ⟨h.addr, h.aLt, h.nonce, h.nLt, h.bal, h.bLt, h.code.ext e, h.slots.mono e (fun _ _ _ q => q)⟩
theorem TxC.ext {O : Nat → Prop} {w w' : World} {c : Nat → Value} {t : ATx} (h : TxC O w c t) (e : Ext w w') : TxC O w' c t :=
  { h with data := h.data.ext e, access := h.access.mono e (fun _ _ _ q => q.ext e) }
theorem EnvI.ext {O : Nat → Prop} {w w' : World} {c : Nat → Value} {t : AEnv} (h : EnvI O w c t) (e : Ext w w') : EnvI O w' c t :=
  { h with hashes := h.hashes.ext e }
end Go.Proofs.YgvahwGreat
