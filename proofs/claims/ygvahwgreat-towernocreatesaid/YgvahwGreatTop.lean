import Derived.Test.YgvahwGreatAbs
import Derived.Test.YgvahwGreatYW
namespace Go.Proofs.YgvahwGreat

/-- A transaction. -/
structure ATx where
  from_ : Nat
  to_ : Nat
  create : Bool
  nonce : Nat
  gas : Nat
  price : Nat
  value : Nat
  data : List Nat
  dynamic : Bool
  maxFee : Nat
  tip : Nat
  access : List (Nat × List Nat)
def ATx.most (tx : ATx) : Nat := if tx.dynamic then tx.maxFee else tx.price
def ATx.tipF (tx : ATx) : Nat := if tx.dynamic then tx.tip else tx.price
/-- The keys of a list. -/
def keysN (l : List (Nat × List Nat)) : Nat := (l.map fun a => a.2.length).foldr (· + ·) 0
def ATx.listOK (tx : ATx) : Bool := decide (tx.access.length ≤ 16 ∧ keysN tx.access ≤ 64)
/-- What the data costs. -/
def dataCost (l : List Nat) : Nat := (l.map fun b => if b = 0 then 4 else 16).foldr (· + ·) 0
def accessCost (l : List (Nat × List Nat)) : Nat := (l.map fun a => 2400 + 1900 * a.2.length).foldr (· + ·) 0
def ATx.intrinsic (tx : ATx) : Nat := 21000 + dataCost tx.data + accessCost tx.access + (if tx.create then 32000 + 2 * wordsA tx.data.length else 0)
/-- The first verdict that applies. -/
def ASt.verdict (st : ASt) (tx : ATx) : Nat :=
  if st.phase ≠ 0 then 1
  else if 4 ≤ st.applied then 2
  else if 1048576 < tx.gas ∨ 1024 < tx.data.length ∨ tx.listOK = false then 3
  else if tx.nonce ≠ st.now.nonce tx.from_ then 4
  else if st.now.nonce tx.from_ = 18446744073709551615 then 5
  else if st.now.code tx.from_ ≠ [] then 6
  else if tx.create ∧ 512 < tx.data.length then 7
  else if tx.gas < tx.intrinsic then 8
  else if st.env.gasLimit < tx.gas then 9
  else if st.now.bal tx.from_ < tx.gas * tx.most + tx.value then 10
  else if tx.most < tx.tipF then 11
  else if tx.most < st.env.baseFee then 12
  else 0
def ASt.priceOf (st : ASt) (tx : ATx) : Nat := st.env.baseFee + min tx.tipF (tx.most - st.env.baseFee)
/-- A list made warm. -/
def AW.warmList (w : AW) (l : List (Nat × List Nat)) : AW := l.foldl (fun w a => a.2.foldl (fun w k => w.warmSlot a.1 k) (w.warm a.1)) w
/-- The world at the opening. -/
def ASt.opened (st : ASt) (tx : ATx) (target : Nat) : AW :=
  let w1 := (st.now.setNonce tx.from_ (tx.nonce + 1)).setBal tx.from_ (st.now.bal tx.from_ - tx.gas * st.priceOf tx)
  (((((w1.warm tx.from_).warm st.env.coinbase).warm target).warm 4).warm 5).warmList tx.access
/-- A transaction that is applied begins. -/
def ASt.begin_ (st : ASt) (tx : ATx) : ASt :=
  let target := if tx.create then createAddrA tx.from_ tx.nonce else tx.to_
  let w := st.opened tx target
  let st1 := { st with now := w, orig := st.now.slot, frames := [], ret := [], applied := st.applied + 1, limit := tx.gas, txGas := tx.gas - tx.intrinsic, price := st.priceOf tx, origin := tx.from_, made := if tx.create then target else 0 }
  if tx.create then
    if w.nonce target ≠ 0 ∨ w.code target ≠ [] then { st1 with phase := 2, status := 12, left := 0 }
    else { st1 with phase := 1 }.enter { kind := 1, pre := 0, static := false, pc := 0, gas := tx.gas - tx.intrinsic, value := tx.value, outOff := 0, outLen := 0, stack := [], mem := [], code := tx.data, input := [], self := target, caller := tx.from_, saved := w }
  else { st1 with phase := 1 }.enter { kind := 0, pre := preA target, static := false, pc := 0, gas := tx.gas - tx.intrinsic, value := tx.value, outOff := 0, outLen := 0, stack := [], mem := [], code := if preA target = 0 then w.code target else [], input := tx.data, self := target, caller := tx.from_, saved := w }
/-- What a transaction answers. -/
structure ARec where
  verdict : Nat
  status : Nat
  used : Nat
  out : List Nat
  logs : List ALog
  made : Nat
def ASt.used (st : ASt) : Nat := (st.limit - st.left) - min st.now.refund ((st.limit - st.left) / 5)
def ASt.paid (st : ASt) : AW :=
  let w1 := st.now.setBal st.origin (st.now.bal st.origin + (st.limit - st.used) * st.price)
  w1.setBal st.env.coinbase (w1.bal st.env.coinbase + st.used * (st.price - st.env.baseFee))
def ASt.receipt (st : ASt) : ARec := ⟨0, st.status, st.used, st.ret, st.now.logs, if st.status = 0 then st.made else 0⟩
/-- So many steps. -/
def ASt.steps : Nat → ASt → ASt
  | 0, st => st
  | n + 1, st => ASt.steps n st.step
/-- The same but for what a world's end forgets. -/
structure AW.SameE (w v : AW) : Prop where
  nonce : w.nonce = v.nonce
  bal : w.bal = v.bal
  code : w.code = v.code
  slot : w.slot = v.slot
theorem ExpOf.same {w v : AW} {L : List YA} (h : ExpOf w L) (e : w.SameE v) : ExpOf v L :=
  ⟨h.rise, h.srise, h.snz, fun a => by rw [h.none a]; unfold AW.empty; rw [e.nonce, e.bal, e.code], fun x hx => by rw [← e.nonce, ← e.bal, ← e.code, ← e.slot]; exact h.some x hx⟩
end Go.Proofs.YgvahwGreat
