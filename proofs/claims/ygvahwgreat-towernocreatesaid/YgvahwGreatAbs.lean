import Derived.Test.YgvahwGreatU256K
import Derived.Test.YgvahwGreatSaved
import Derived.Test.YgvahwGreatKec
namespace Go.Proofs.YgvahwGreat

/-! The machine on plain numbers and functions, which both programs follow. -/

/-- The constants of the rounds. -/
def kRC : List Nat := [
  0x0000000000000001, 0x0000000000008082, 0x800000000000808a, 0x8000000080008000,
  0x000000000000808b, 0x0000000080000001, 0x8000000080008081, 0x8000000000008009,
  0x000000000000008a, 0x0000000000000088, 0x0000000080008009, 0x000000008000000a,
  0x000000008000808b, 0x800000000000008b, 0x8000000000008089, 0x8000000000008003,
  0x8000000000008002, 0x8000000000000080, 0x000000000000800a, 0x800000008000000a,
  0x8000000080008081, 0x8000000000008080, 0x0000000080000001, 0x8000000080008008]
/-- One round with its constant. -/
def kstep (a : List Nat) (i : Nat) : List Nat := let b := kround a; b.set 0 (kget b 0 ^^^ kRC.getD i 0)
/-- The permutation. -/
def kF (a : List Nat) : List Nat := (List.range 24).foldl kstep a
/-- Lane i of a block, its bytes the least first. -/
def klane (b : List Nat) (i : Nat) : Nat := val ((b.drop (8 * i)).take 8)
/-- One block taken in. -/
def kabsorb (a b : List Nat) : List Nat := kF ((List.range 17).foldl (fun a i => a.set i (kget a i ^^^ klane b i)) a)
/-- The last block. -/
def klast (l : List Nat) : List Nat := let b := (l ++ 1 :: List.replicate 136 0).take 136; b.set 135 (b.getD 135 0 ||| 128)
/-- All blocks taken in; n blocks are whole. -/
def kall : Nat → List Nat → List Nat → List Nat
  | 0, a, l => kabsorb a (klast l)
  | n + 1, a, l => kall n (kabsorb a (l.take 136)) (l.drop 136)
/-- x as n bytes, the least first. -/
def leL : Nat → Nat → List Nat
  | 0, _ => []
  | n + 1, x => x % 256 :: leL n (x / 256)
/-- The hash, as 32 bytes. -/
def kecL (l : List Nat) : List Nat := let a := kall (l.length / 136) (List.replicate 25 0) l; leL 8 (kget a 0) ++ leL 8 (kget a 1) ++ leL 8 (kget a 2) ++ leL 8 (kget a 3)
/-- The hash, as a number. -/
def kec (l : List Nat) : Nat := bev (kecL l)

/-- -x modulo 2^256. -/
def aneg (x : Nat) : Nat := (P256 - x) % P256
/-- The absolute value. -/
def amag (x : Nat) : Nat := if negW x then aneg x else x
/-- x with a sign. -/
def asg (x : Nat) (b : Bool) : Nat := if b then aneg x else x
/-- The remainder, 0 for 0. -/
def dmod (x y : Nat) : Nat := if y = 0 then 0 else x % y
/-- A truth as a number. -/
def b2n (b : Bool) : Nat := if b then 1 else 0
/-- Signed below. -/
def sltW (x y : Nat) : Bool := if negW x != negW y then negW x else decide (x < y)
/-- The signed shift down. -/
def sarA (s x : Nat) : Nat := if negW x then P256 - 1 - (P256 - 1 - x) / 2 ^ min s 256 else x / 2 ^ min s 256
/-- The arithmetic instructions. -/
def alu (o a b c : Nat) : Nat :=
  if o = 1 then (a + b) % P256 else if o = 2 then a * b % P256 else if o = 3 then (a + P256 - b) % P256
  else if o = 4 then a / b else if o = 5 then asg (amag a / amag b) (negW a != negW b) else if o = 6 then dmod a b
  else if o = 7 then asg (dmod (amag a) (amag b)) (negW a) else if o = 8 then dmod (a + b) c else if o = 9 then dmod (a * b) c
  else if o = 10 then a ^ b % P256 else if o = 11 then sextW a b else if o = 16 then b2n (decide (a < b))
  else if o = 17 then b2n (decide (b < a)) else if o = 18 then b2n (sltW a b) else if o = 19 then b2n (sltW b a)
  else if o = 20 then b2n (decide (a = b)) else if o = 21 then b2n (decide (a = 0)) else if o = 22 then a &&& b
  else if o = 23 then a ||| b else if o = 24 then a ^^^ b else if o = 25 then P256 - 1 - a
  else if o = 26 then (if a < 32 then b / 256 ^ (31 - a) % 256 else 0) else if o = 27 then b * 2 ^ min a 256 % P256
  else if o = 28 then b / 2 ^ min a 256 else if o = 29 then sarA a b else 0

/-- A frame; the stack's top first. -/
structure AFrame where
  kind : Nat
  pre : Nat
  static : Bool
  pc : Nat
  gas : Nat
  value : Nat
  outOff : Nat
  outLen : Nat
  stack : List Nat
  mem : List Nat
  code : List Nat
  input : List Nat
  self : Nat
  caller : Nat
  saved : AW
/-- The block. -/
structure AEnv where
  coinbase : Nat
  number : Nat
  time : Nat
  gasLimit : Nat
  randao : Nat
  chainID : Nat
  baseFee : Nat
  hashes : List Nat
/-- The whole state; the top frame first. -/
structure ASt where
  now : AW
  orig : Nat → Nat → Nat
  frames : List AFrame
  ret : List Nat
  phase : Nat
  status : Nat
  applied : Nat
  limit : Nat
  txGas : Nat
  left : Nat
  price : Nat
  origin : Nat
  made : Nat
  env : AEnv

/-- The bytes behind an opcode. -/
def immA (o : Nat) : Nat := if 95 < o ∧ o ≤ 127 then o - 95 else 0
/-- The families. -/
def famA (o : Nat) : Nat :=
  if o = 0 ∨ o = 243 ∨ o = 253 then 31
  else if (1 ≤ o ∧ o ≤ 11) ∨ (16 ≤ o ∧ o ≤ 29) ∨ o = 32 then 1
  else if (48 ≤ o ∧ o ≤ 72) ∨ (80 ≤ o ∧ o ≤ 83) ∨ o = 89 ∨ (94 ≤ o ∧ o ≤ 159) then 2
  else if (86 ≤ o ∧ o ≤ 88) ∨ o = 90 ∨ o = 91 then 4
  else if o = 84 ∨ o = 85 ∨ o = 92 ∨ o = 93 ∨ (160 ≤ o ∧ o ≤ 164) then 8
  else if o = 240 ∨ o = 241 ∨ o = 242 ∨ o = 244 ∨ o = 245 ∨ o = 250 ∨ o = 255 then 16
  else 0
/-- How many words o takes. -/
def takesA (o : Nat) : Nat :=
  if famA o = 0 then 0
  else if 128 ≤ o ∧ o ≤ 143 then o - 128 + 1
  else if 144 ≤ o ∧ o ≤ 159 then o - 144 + 2
  else if 160 ≤ o ∧ o ≤ 164 then o - 160 + 2
  else if o = 0 ∨ o = 91 then 0
  else if o = 255 ∨ o = 80 ∨ o = 86 then 1
  else if o = 8 ∨ o = 9 ∨ o = 240 then 3
  else if o = 21 ∨ o = 25 ∨ o = 49 ∨ o = 53 ∨ o = 59 ∨ o = 63 ∨ o = 64 ∨ o = 81 ∨ o = 84 ∨ o = 92 then 1
  else if o = 82 ∨ o = 83 ∨ o = 85 ∨ o = 93 ∨ o = 87 ∨ o = 243 ∨ o = 253 then 2
  else if o = 55 ∨ o = 57 ∨ o = 62 ∨ o = 94 then 3
  else if o = 60 then 4 else if o = 245 then 4
  else if o = 241 ∨ o = 242 then 7 else if o = 244 ∨ o = 250 then 6
  else if famA o = 1 then 2 else 0
/-- How many words o gives. -/
def givesA (o : Nat) : Nat :=
  if famA o = 0 then 0
  else if 128 ≤ o ∧ o ≤ 143 then o - 128 + 2
  else if 144 ≤ o ∧ o ≤ 159 then o - 144 + 2
  else if 160 ≤ o ∧ o ≤ 164 then 0
  else if o = 0 ∨ o = 91 then 0
  else if o = 255 ∨ o = 80 ∨ o = 86 then 0
  else if o = 8 ∨ o = 9 ∨ o = 240 then 1
  else if o = 21 ∨ o = 25 ∨ o = 49 ∨ o = 53 ∨ o = 59 ∨ o = 63 ∨ o = 64 ∨ o = 81 ∨ o = 84 ∨ o = 92 then 1
  else if o = 82 ∨ o = 83 ∨ o = 85 ∨ o = 93 ∨ o = 87 ∨ o = 243 ∨ o = 253 then 0
  else if o = 55 ∨ o = 57 ∨ o = 62 ∨ o = 94 then 0
  else if o = 60 then 0 else if o = 245 then 1
  else if o = 241 ∨ o = 242 then 1 else if o = 244 ∨ o = 250 then 1
  else if famA o = 1 then 1 else 1

/-- Operand i. -/
def AFrame.arg (f : AFrame) (i : Nat) : Nat := f.stack.getD i 0
/-- The words of so many bytes. -/
def wordsA (n : Nat) : Nat := (n + 31) / 32
def memCostA (w : Nat) : Nat := 3 * w + w * w / 512
def copyCostA (n : Nat) : Nat := 3 * wordsA n
def expCostA (e : Nat) : Nat := 10 + 50 * dl e
def sentA (left asked : Nat) : Nat := min asked (left - left / 64)
/-- The low 20 bytes. -/
def addrA (x : Nat) : Nat := x % 2 ^ 160
/-- The end of a range. -/
def endA (off n : Nat) : Nat := if n = 0 then 0 else off + n
/-- n bytes of src from off, zeros past its end. -/
def cutA (src : List Nat) (off n : Nat) : List Nat := (src.drop off ++ List.replicate n 0).take n
def readA (mem : List Nat) (off n : Nat) : List Nat := if n = 0 then [] else cutA mem off n
def writeA (mem : List Nat) (off : Nat) (b : List Nat) : List Nat := if off < mem.length then mem.take off ++ b.take (mem.length - off) ++ mem.drop (off + b.length) else mem
def copyA (mem : List Nat) (dst : Nat) (src : List Nat) (off n : Nat) : List Nat := if n = 0 then mem else writeA mem dst (cutA src off n)
def growA (mem : List Nat) (to : Nat) : List Nat := if mem.length / 32 < wordsA to then mem ++ List.replicate (32 * wordsA to - mem.length) 0 else mem
/-- The greatest end of the ranges that o touches. -/
def AFrame.reach (f : AFrame) (o : Nat) : Nat :=
  if o = 32 ∨ o = 243 ∨ o = 253 ∨ (160 ≤ o ∧ o ≤ 164) then endA (f.arg 0) (f.arg 1)
  else if o = 55 ∨ o = 57 ∨ o = 62 then endA (f.arg 0) (f.arg 2)
  else if o = 60 then endA (f.arg 1) (f.arg 3)
  else if o = 81 ∨ o = 82 then endA (f.arg 0) 32
  else if o = 83 then endA (f.arg 0) 1
  else if o = 94 then max (endA (f.arg 0) (f.arg 2)) (endA (f.arg 1) (f.arg 2))
  else if o = 240 ∨ o = 245 then endA (f.arg 1) (f.arg 2)
  else if o = 241 ∨ o = 242 then max (endA (f.arg 3) (f.arg 4)) (endA (f.arg 5) (f.arg 6))
  else if o = 244 ∨ o = 250 then max (endA (f.arg 2) (f.arg 3)) (endA (f.arg 4) (f.arg 5))
  else 0
/-- The walk of a code, i its place, n the steps left. -/
def destA (c : List Nat) (at_ : Nat) : Nat → Nat → Bool
  | 0, _ => false
  | n + 1, i => if i < c.length then (if i = at_ then decide (c.getD i 0 = 91) else destA c at_ n (i + 1 + immA (c.getD i 0))) else false
def isDestA (c : List Nat) (at_ : Nat) : Bool := destA c at_ c.length 0
def AFrame.opcode (f : AFrame) : Nat := f.code.getD f.pc 0
def createsA (k : Nat) : Bool := decide (k = 1 ∨ k = 5 ∨ k = 6)
def preA (a : Nat) : Nat := if a = 4 ∨ a = 5 then a else 0

/-- The rule of SSTORE: the cost; o at the start, v now, n new. -/
def sstoreCost (o v n : Nat) (cold : Bool) : Nat := (if n = v ∨ v ≠ o then 100 else if o = 0 then 20000 else 2900) + (if cold then 2100 else 0)
/-- .. what is added to the refund. -/
def sstorePlus (o v n : Nat) : Nat := if n = v then 0 else if v = o then (if o ≠ 0 ∧ n = 0 then 4800 else 0)
  else (if o ≠ 0 ∧ v ≠ 0 ∧ n = 0 then 4800 else 0) + (if n = o then (if o = 0 then 19900 else 2800) else 0)
/-- .. what is taken from it. -/
def sstoreMinus (o v n : Nat) : Nat := if n = v then 0 else if v = o then 0 else if o ≠ 0 ∧ v = 0 then 4800 else 0

def AW.access (w : AW) (a : Nat) : Nat := if w.warmA a then 100 else 2600
/-- The cost of a call or creation without memory. -/
def ASt.enterCost (st : ASt) (f : AFrame) (o : Nat) : Nat :=
  if o = 240 then 32000 + 2 * wordsA (f.arg 2)
  else if o = 245 then 32000 + 8 * wordsA (f.arg 2)
  else st.now.access (addrA (f.arg 1)) + (if (o = 241 ∨ o = 242) ∧ f.arg 2 ≠ 0 then 9000 + (if o = 241 ∧ st.now.empty (addrA (f.arg 1)) then 25000 else 0) else 0)
def ASt.destroyCost (st : ASt) (f : AFrame) : Nat :=
  5000 + (if st.now.warmA (addrA (f.arg 0)) then 0 else 2600) + (if st.now.empty (addrA (f.arg 0)) ∧ st.now.bal f.self ≠ 0 then 25000 else 0)
/-- The cost of o without the growth of memory. -/
def ASt.bareCost (st : ASt) (f : AFrame) (o : Nat) : Nat :=
  if (96 ≤ o ∧ o ≤ 159) ∨ (16 ≤ o ∧ o ≤ 29) ∨ o = 1 ∨ o = 3 ∨ o = 53 ∨ (81 ≤ o ∧ o ≤ 83) then 3
  else if o = 2 ∨ (4 ≤ o ∧ o ≤ 7) ∨ o = 11 ∨ o = 71 then 5
  else if o = 8 ∨ o = 9 ∨ o = 86 then 8
  else if o = 87 then 10 else if o = 91 then 1 else if o = 64 then 20
  else if o = 0 ∨ o = 243 ∨ o = 253 then 0
  else if o = 10 then expCostA (f.arg 1)
  else if o = 32 then 30 + 6 * wordsA (f.arg 1)
  else if o = 55 ∨ o = 57 ∨ o = 62 ∨ o = 94 then 3 + copyCostA (f.arg 2)
  else if o = 49 ∨ o = 59 ∨ o = 63 then st.now.access (addrA (f.arg 0))
  else if o = 60 then st.now.access (addrA (f.arg 0)) + copyCostA (f.arg 3)
  else if 160 ≤ o ∧ o ≤ 164 then 375 + 375 * (o - 160) + 8 * f.arg 1
  else if o = 84 then (if st.now.warmS f.self (f.arg 0) then 100 else 2100)
  else if o = 85 then sstoreCost (st.orig f.self (f.arg 0)) (st.now.slot f.self (f.arg 0)) (f.arg 1) (!st.now.warmS f.self (f.arg 0))
  else if o = 92 ∨ o = 93 then 100
  else if o = 255 then st.destroyCost f
  else if famA o = 16 then st.enterCost f o
  else 2
def ASt.cost (st : ASt) (f : AFrame) (o : Nat) : Nat :=
  st.bareCost f o + (if wordsA (f.reach o) ≤ f.mem.length / 32 then 0 else memCostA (wordsA (f.reach o)) - memCostA (f.mem.length / 32))
/-- Whether o would change the state. -/
def AFrame.writes (f : AFrame) (o : Nat) : Bool := decide (o = 85 ∨ o = 93 ∨ o = 255 ∨ (160 ≤ o ∧ o ≤ 164) ∨ o = 240 ∨ o = 245 ∨ (o = 241 ∧ f.arg 2 ≠ 0))
/-- The first check that fails o, 0 if none does. -/
def ASt.refusal (st : ASt) (f : AFrame) (o : Nat) : Nat :=
  if famA o = 0 then 5
  else if f.stack.length < takesA o then 3
  else if 64 < f.stack.length - takesA o + givesA o then 4
  else if f.static && f.writes o then 7
  else if (o = 240 ∨ o = 245) ∧ 512 < f.arg 2 then 9
  else if o = 62 ∧ st.ret.length < f.arg 1 + f.arg 2 then 8
  else if f.gas < st.cost f o then 2
  else if o = 85 ∧ f.gas ≤ 2300 then 2
  else if (o = 86 ∨ (o = 87 ∧ f.arg 1 ≠ 0)) ∧ isDestA f.code (f.arg 0) = false then 6
  else 0

/-- The address that CREATE makes. -/
def rlpNonce (n : Nat) : List Nat := if n = 0 then [128] else if n < 128 then [n] else (128 + dl n) :: (digs n).reverse
def createAddrA (c n : Nat) : Nat := addrA (kec ((192 + (21 + (rlpNonce n).length)) :: 148 :: (beL 20 c ++ rlpNonce n)))
def create2AddrA (c salt : Nat) (init : List Nat) : Nat := addrA (kec (255 :: (beL 20 c ++ beL 32 salt ++ kecL init)))

/-- The operands popped, the words pushed, on by so much. -/
def AFrame.settle (f : AFrame) (takes : Nat) (push : List Nat) (step : Nat) : AFrame := { f with stack := push ++ f.stack.drop takes, pc := f.pc + step }

/-- A creation's output: what is left of the gas and the status. -/
def depositA (gas : Nat) (out : List Nat) : Nat × Nat :=
  if 256 < out.length then (0, 10) else if out.getD 0 0 = 239 then (0, 11) else if gas < 200 * out.length then (0, 2) else (gas - 200 * out.length, 0)
/-- The top frame ends. -/
def ASt.leave (st : ASt) (f : AFrame) (rest : List AFrame) (status : Nat) (out : List Nat) : ASt :=
  let made := createsA f.kind
  let dep := made && decide (status = 0)
  let d := depositA f.gas out
  let s := if dep then d.2 else status
  let g := if 1 < s then 0 else if dep then d.1 else f.gas
  let w := if s = 0 then (if dep ∧ out ≠ [] then st.now.setCode f.self out else st.now) else f.saved
  let o := if 1 < s then [] else if dep ∧ s = 0 then [] else out
  match rest with
  | [] => { st with now := w, ret := o, frames := [], phase := 2, status := s, left := g }
  | p :: rest =>
    let flag := if s = 0 then (if made then f.self else 1) else 0
    let n := min p.outLen o.length
    let p1 := { p with gas := p.gas + g, mem := if n = 0 then p.mem else writeA p.mem p.outOff (o.take n) }
    { st with now := w, ret := o, frames := p1.settle 0 [flag] 1 :: rest }
/-- A frame is entered. -/
def ASt.enter (st : ASt) (f : AFrame) : ASt :=
  let w1 := if createsA f.kind then (st.now.setNonce f.self 1).markMade f.self else st.now
  let w2 := if f.kind = 3 ∨ f.kind = 7 then w1 else w1.move f.caller f.self f.value
  { st with now := w2, ret := [], frames := { f with saved := st.now } :: st.frames }

/-- How many bits a number has. -/
def nbits (x : Nat) : Nat := if x = 0 then 0 else Nat.log2 x + 1
/-- The frame of a precompiled contract's lengths. -/
def natPart (input : List Nat) (off n : Nat) : Nat := bev (cutA input off n)
def natLens (input : List Nat) : Option (Nat × Nat × Nat) :=
  let b := natPart input 0 32
  let e := natPart input 32 32
  let m := natPart input 64 32
  if 64 < b ∨ 64 < e ∨ 64 < m then none else some (b, e, m)
def natCost (kind : Nat) (input : List Nat) : Option Nat :=
  if kind = 4 then some (15 + 3 * wordsA input.length)
  else if kind = 5 then (natLens input).map fun (b, e, m) =>
    let wide := (max b m + 7) / 8
    let n := nbits (natPart input (96 + b) (min e 32))
    let turns := (n - 1) + 8 * (e - 32)
    max 200 (wide * wide * max turns 1 / 3)
  else none
def natRun (kind : Nat) (input : List Nat) : List Nat :=
  if kind = 4 then input
  else match natLens input with
    | none => []
    | some (b, e, m) => if kind = 5 then beL m (dmod (natPart input 96 b ^ natPart input (96 + b) e) (natPart input (96 + b + e) m)) else []

/-- What BLOCKHASH .. CHAINID and BASEFEE give. -/
def AEnv.value (e : AEnv) (o a : Nat) : Nat :=
  if o = 64 then (if a < e.number then e.hashes.getD (e.number - (a + 1)) 0 else 0)
  else if o = 65 then e.coinbase else if o = 66 then e.time else if o = 67 then e.number
  else if o = 68 then e.randao else if o = 69 then e.gasLimit else if o = 72 then e.baseFee else e.chainID
/-- The world behind a value's reading. -/
def ASt.valueWorld (st : ASt) (f : AFrame) (o : Nat) : AW :=
  if o = 49 ∨ o = 59 ∨ o = 63 then st.now.warm (addrA (f.arg 0)) else if o = 84 then st.now.warmSlot f.self (f.arg 0) else st.now
/-- The one word that o gives. -/
def ASt.value (st : ASt) (f : AFrame) (o : Nat) : Nat :=
  if o = 32 then kec (readA f.mem (f.arg 0) (f.arg 1))
  else if famA o = 1 then alu o (f.arg 0) (f.arg 1) (f.arg 2)
  else if 95 ≤ o ∧ o ≤ 127 then bev (cutA f.code (f.pc + 1) (immA o))
  else if (64 ≤ o ∧ o ≤ 70) ∨ o = 72 then st.env.value o (f.arg 0)
  else if o = 49 then st.now.bal (addrA (f.arg 0))
  else if o = 59 then (st.now.code (addrA (f.arg 0))).length
  else if o = 63 then (if st.now.empty (addrA (f.arg 0)) then 0 else kec (st.now.code (addrA (f.arg 0))))
  else if o = 48 then f.self else if o = 50 then st.origin else if o = 51 then f.caller else if o = 52 then f.value
  else if o = 53 then bev (cutA f.input (f.arg 0) 32) else if o = 54 then f.input.length else if o = 56 then f.code.length
  else if o = 58 then st.price else if o = 61 then st.ret.length else if o = 71 then st.now.bal f.self
  else if o = 81 then bev (cutA f.mem (f.arg 0) 32) else if o = 84 then st.now.slot f.self (f.arg 0)
  else if o = 92 then st.now.temp f.self (f.arg 0) else if o = 88 then f.pc else if o = 89 then f.mem.length
  else if o = 90 then f.gas else 0
/-- The memory behind an instruction that gives nothing. -/
def ASt.effectMem (st : ASt) (f : AFrame) (o : Nat) : List Nat :=
  if o = 55 then copyA f.mem (f.arg 0) f.input (f.arg 1) (f.arg 2)
  else if o = 57 then copyA f.mem (f.arg 0) f.code (f.arg 1) (f.arg 2)
  else if o = 62 then copyA f.mem (f.arg 0) st.ret (f.arg 1) (f.arg 2)
  else if o = 94 then copyA f.mem (f.arg 0) f.mem (f.arg 1) (f.arg 2)
  else if o = 60 then copyA f.mem (f.arg 1) (st.now.code (addrA (f.arg 0))) (f.arg 2) (f.arg 3)
  else if o = 82 then writeA f.mem (f.arg 0) (beL 32 (f.arg 1))
  else if o = 83 then writeA f.mem (f.arg 0) [f.arg 1 % 256]
  else f.mem
/-- The world behind an instruction that gives nothing. -/
def ASt.effectWorld (st : ASt) (f : AFrame) (o : Nat) : AW :=
  if o = 60 then st.now.warm (addrA (f.arg 0))
  else if o = 85 then
    let og := st.orig f.self (f.arg 0)
    let v := st.now.slot f.self (f.arg 0)
    let n := f.arg 1
    ((st.now.setRefund (st.now.refund - sstoreMinus og v n + sstorePlus og v n)).warmSlot f.self (f.arg 0)).store f.self (f.arg 0) n
  else if o = 93 then st.now.tstore f.self (f.arg 0) (f.arg 1)
  else if 160 ≤ o ∧ o ≤ 164 then st.now.putLog ⟨f.self, (f.stack.drop 2).take (o - 160), readA f.mem (f.arg 0) (f.arg 1)⟩
  else st.now
/-- An instruction that neither ends its frame nor enters another. -/
def ASt.plain (st : ASt) (f : AFrame) (rest : List AFrame) (o : Nat) : ASt :=
  if o = 86 ∨ (o = 87 ∧ f.arg 1 ≠ 0) then { st with frames := { f with stack := f.stack.drop (takesA o), pc := f.arg 0 } :: rest }
  else if 128 ≤ o ∧ o ≤ 143 then { st with frames := f.settle 0 [f.arg (o - 128)] 1 :: rest }
  else if 144 ≤ o ∧ o ≤ 159 then { st with frames := { f with stack := f.arg (o - 143) :: (f.stack.drop 1).take (o - 144) ++ f.arg 0 :: f.stack.drop (o - 142), pc := f.pc + 1 } :: rest }
  else if givesA o = 1 then { st with now := st.valueWorld f o, frames := f.settle (takesA o) [st.value f o] (1 + immA o) :: rest }
  else { st with now := st.effectWorld f o, frames := ({ f with mem := st.effectMem f o }).settle (takesA o) [] 1 :: rest }
/-- CALL and its kin. -/
def ASt.enterCall (st : ASt) (f : AFrame) (rest : List AFrame) (o : Nat) : ASt :=
  let takes := takesA o
  let t := addrA (f.arg 1)
  let st1 := { st with now := st.now.warm t }
  let v := if o = 241 ∨ o = 242 then f.arg 2 else 0
  let i := takes - 4
  let sent := sentA f.gas (f.arg 0)
  let cgas := sent + (if v ≠ 0 then 2300 else 0)
  if 6 ≤ rest.length ∨ st.now.bal f.self < v then
    { st1 with ret := [], frames := ({ f with gas := f.gas - sent + cgas }).settle takes [0] 1 :: rest }
  else
    let child : AFrame := { kind := if o = 241 then 2 else if o = 242 then 7 else if o = 244 then 3 else 4, pre := preA t, static := f.static || o == 250, pc := 0, gas := cgas, value := if o = 244 then f.value else v, outOff := 0, outLen := 0, stack := [], mem := [], code := if preA t = 0 then st.now.code t else [], input := readA f.mem (f.arg i) (f.arg (i + 1)), self := if o = 242 ∨ o = 244 then f.self else t, caller := if o = 244 then f.caller else f.self, saved := st1.now }
    let p := { f with gas := f.gas - sent, stack := f.stack.drop takes, outOff := if f.arg (i + 3) = 0 then 0 else f.arg (i + 2), outLen := f.arg (i + 3) }
    { st1 with frames := p :: rest }.enter child
/-- CREATE and CREATE2. -/
def ASt.enterCreate (st : ASt) (f : AFrame) (rest : List AFrame) (o : Nat) : ASt :=
  let takes := takesA o
  let v := f.arg 0
  let n := st.now.nonce f.self
  if 6 ≤ rest.length ∨ st.now.bal f.self < v ∨ 18446744073709551615 ≤ n then { st with ret := [], frames := f.settle takes [0] 1 :: rest }
  else
    let code := readA f.mem (f.arg 1) (f.arg 2)
    let self := if o = 245 then create2AddrA f.self (f.arg 3) code else createAddrA f.self n
    let cgas := sentA f.gas f.gas
    let st1 := { st with now := (st.now.setNonce f.self (n + 1)).warm self, ret := [] }
    let f1 := { f with gas := f.gas - cgas }
    if st1.now.nonce self ≠ 0 ∨ st1.now.code self ≠ [] then { st1 with frames := f1.settle takes [0] 1 :: rest }
    else
      let child : AFrame := { kind := if o = 245 then 6 else 5, pre := 0, static := false, pc := 0, gas := cgas, value := v, outOff := 0, outLen := 0, stack := [], mem := [], code := code, input := [], self := self, caller := f.self, saved := st1.now }
      let p := { f1 with stack := f.stack.drop takes, outOff := 0, outLen := 0 }
      { st1 with frames := p :: rest }.enter child
/-- SELFDESTRUCT. -/
def ASt.destroys (st : ASt) (f : AFrame) (rest : List AFrame) : ASt :=
  let t := addrA (f.arg 0)
  let w1 := st.now.warm t
  let w2 := if t = f.self then w1 else w1.move f.self t (w1.bal f.self)
  let w3 := if w2.made f.self then w2.markGone f.self else w2
  ({ st with now := w3 }).leave f rest 0 []
/-- One step of a top frame. -/
def ASt.stepF (st : ASt) (f : AFrame) (rest : List AFrame) : ASt :=
  if f.pre ≠ 0 then
    match natCost f.pre f.input with
    | none => st.leave f rest 2 []
    | some c => if f.gas < c then st.leave f rest 2 [] else st.leave { f with gas := f.gas - c } rest 0 (natRun f.pre f.input)
  else
    let o := f.opcode
    let s := st.refusal f o
    if s ≠ 0 then st.leave f rest s []
    else
      let f1 := { f with gas := f.gas - st.cost f o, mem := growA f.mem (f.reach o) }
      if o = 0 then st.leave f1 rest 0 []
      else if o = 243 then st.leave f1 rest 0 (readA f1.mem (f.arg 0) (f.arg 1))
      else if o = 253 then st.leave f1 rest 1 (readA f1.mem (f.arg 0) (f.arg 1))
      else if o = 255 then st.destroys f1 rest
      else if o = 240 ∨ o = 245 then st.enterCreate f1 rest o
      else if famA o = 16 then st.enterCall f1 rest o
      else st.plain f1 rest o
/-- One step. -/
def ASt.step (st : ASt) : ASt := match st.frames with | [] => st | f :: rest => st.stepF f rest
end Go.Proofs.YgvahwGreat
