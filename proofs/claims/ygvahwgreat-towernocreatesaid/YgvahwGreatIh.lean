import Derived.Test.YgvahwGreatLc
namespace Go.Proofs.YgvahwGreat
open Go.RowKit
theorem tx_ones {O : Nat → Prop} {w : World} {r : Array Value} {t : ATx} (hr : r.size = 174) (h : TxC O w (cf r) t) : Ones r := ones_of (fun q hq => by
  rw [hr] at hq
  rcases (show q < 20 ∨ (20 ≤ q ∧ q < 40) ∨ q = 40 ∨ q = 41 ∨ q = 42 ∨ (43 ≤ q ∧ q < 75) ∨ (75 ≤ q ∧ q < 107) ∨ q = 107 ∨ q = 108 ∨ (109 ≤ q ∧ q < 141) ∨ (141 ≤ q ∧ q < 173) ∨ q = 173 by omega) with hh | hh | rfl | rfl | rfl | hh | hh | rfl | rfl | hh | hh | rfl
  · have := aat_one h.from_ h.fLt q hh
    rwa [Nat.zero_add] at this
  · have := aat_one h.to_ h.tLt (q - 20) (by omega)
    rwa [show 20 + (q - 20) = q by omega] at this
  · rw [h.create]; rfl
  · rw [h.nonce]; rfl
  · rw [h.gas]; rfl
  · have := bat_one h.price h.pLt (q - 43) (by omega)
    rwa [show 43 + (q - 43) = q by omega] at this
  · have := bat_one h.value h.vLt (q - 75) (by omega)
    rwa [show 75 + (q - 75) = q by omega] at this
  · exact h.data.one'
  · rw [h.dynamic]; rfl
  · have := bat_one h.maxFee h.mLt (q - 109) (by omega)
    rwa [show 109 + (q - 109) = q by omega] at this
  · have := bat_one h.tip h.iLt (q - 141) (by omega)
    rwa [show 141 + (q - 141) = q by omega] at this
  · exact h.access.one')
theorem env_ones {O : Nat → Prop} {w : World} {r : Array Value} {e : AEnv} (hr : r.size = 120) (h : EnvI O w (cf r) e) : Ones r := ones_of (fun q hq => by
  rw [hr] at hq
  rcases (show q < 20 ∨ q = 20 ∨ q = 21 ∨ q = 22 ∨ (23 ≤ q ∧ q < 55) ∨ (55 ≤ q ∧ q < 87) ∨ (87 ≤ q ∧ q < 119) ∨ q = 119 by omega) with hh | rfl | rfl | rfl | hh | hh | hh | rfl
  · have := aat_one h.coinbase h.cLt q hh
    rwa [Nat.zero_add] at this
  · rw [h.number]; rfl
  · rw [h.time]; rfl
  · rw [h.gasLimit]; rfl
  · have := bat_one h.randao h.rLt (q - 23) (by omega)
    rwa [show 23 + (q - 23) = q by omega] at this
  · have := bat_one h.chainID h.iLt (q - 55) (by omega)
    rwa [show 55 + (q - 55) = q by omega] at this
  · have := bat_one h.baseFee h.bLt (q - 87) (by omega)
    rwa [show 87 + (q - 87) = q by omega] at this
  · obtain ⟨_, _, q1, _⟩ := h.hashes.slice; rw [q1]; rfl)
/-- The surroundings of a machine, from those of the input laid at o. -/
theorem EnvI.laid {O : Nat → Prop} {w : World} {r : Array Value} {e : AEnv} {c : Nat → Value} {o : Nat} (h : EnvI O w (cf r) e) (hf : e.hashes.length ≤ 4) (hc : ∀ j, j < 119 → c (o + j) = cf r j) (hh : WL O w (c (o + 119)) e.hashes) : EnvC O w c o e where
  coinbase := fun i v hv => by
    have hj := (Array.getElem?_eq_some_iff.1 hv).1
    rw [av_size h.cLt] at hj
    rw [hc i (by omega)]
    have := h.coinbase i v hv
    rwa [Nat.zero_add] at this
  cLt := h.cLt
  number := by rw [hc 20 (by decide)]; exact h.number
  nLt := h.nLt
  time := by rw [hc 21 (by decide)]; exact h.time
  tLt := h.tLt
  gasLimit := by rw [hc 22 (by decide)]; exact h.gasLimit
  gLt := h.gLt
  randao := fun i v hv => by
    have hj := (Array.getElem?_eq_some_iff.1 hv).1
    rw [bwS h.rLt] at hj
    rw [Nat.add_assoc, hc (23 + i) (by omega)]
    exact h.randao i v hv
  rLt := h.rLt
  chainID := fun i v hv => by
    have hj := (Array.getElem?_eq_some_iff.1 hv).1
    rw [bwS h.iLt] at hj
    rw [Nat.add_assoc, hc (55 + i) (by omega)]
    exact h.chainID i v hv
  iLt := h.iLt
  baseFee := fun i v hv => by
    have hj := (Array.getElem?_eq_some_iff.1 hv).1
    rw [bwS h.bLt] at hj
    rw [Nat.add_assoc, hc (87 + i) (by omega)]
    exact h.baseFee i v hv
  bLt := h.bLt
  hashes := hh
  few := hf
end Go.Proofs.YgvahwGreat
