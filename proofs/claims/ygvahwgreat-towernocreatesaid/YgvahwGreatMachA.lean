import Derived.Test.YgvahwGreatKeep
import Derived.Test.YgvahwGreatAbs
namespace Go.Proofs.YgvahwGreat
open Go.RowKit

/-! The machine in the chain's block: the cells below 2435. -/
/-- A word of 32 bytes, from cell o on. -/
def BAt (c : Nat → Value) (o x : Nat) : Prop := ∀ i v, (bw x)[i]? = some v → c (o + i) = v
/-- A byte. -/
def BC (c : Nat → Value) (o x : Nat) : Prop := c o = .int .u8 (x : Nat) ∧ x < 256
/-- The bits of a code's landing places: word j. -/
def destW (code : List Nat) (j : Nat) : Nat := ((List.range 64).map fun i => if 64 * j + i < code.length ∧ isDestA code (64 * j + i) then 2 ^ i else 0).foldr (· + ·) 0
/-- What holds of a frame. -/
structure FOK (f : AFrame) : Prop where
  kind : f.kind ≤ 7
  pre : f.pre = 0 ∨ f.pre = 4 ∨ f.pre = 5
  pc : f.pc ≤ 60000
  sLen : f.stack.length ≤ 64
  sLt : ∀ x ∈ f.stack, x < P256
  gas : f.gas ≤ 1048576
  self : f.self < 2 ^ 160
  caller : f.caller < 2 ^ 160
  value : f.value < P256
  code : f.code.length ≤ 512
  mLen : f.mem.length ≤ 717280
  m32 : f.mem.length % 32 = 0
  oLt : f.outOff < 4294967296
  lLt : f.outLen < 4294967296
  out : f.outLen ≠ 0 → f.outOff + f.outLen ≤ f.mem.length
/-- Frame i, from cell 1803 + 65 i on; its snapshot is s. -/
structure FrC (O : Nat → Prop) (w : World) (c : Nat → Value) (i s : Nat) (f : AFrame) : Prop where
  kind : c (1803 + i * 65) = .int .u8 (f.kind : Nat)
  pre : c (1803 + i * 65 + 2) = .int .u8 (f.pre : Nat)
  static : c (1803 + i * 65 + 3) = .bool f.static
  pc : c (1803 + i * 65 + 4) = .int .u16 (f.pc : Nat)
  sb : c (1803 + i * 65 + 5) = .int .u16 (64 * i : Nat)
  sp : c (1803 + i * 65 + 6) = .int .u16 (f.stack.length : Nat)
  gas : c (1803 + i * 65 + 7) = .int .u64 (f.gas : Nat)
  snap : c (1803 + i * 65 + 8) = .int .i32 (s : Nat)
  self : AAt c (1803 + i * 65 + 9) f.self
  caller : AAt c (1803 + i * 65 + 29) f.caller
  value : WAt c (1803 + i * 65 + 49) f.value
  code : NL O w (c (1803 + i * 65 + 53)) f.code
  input : NL O w (c (1803 + i * 65 + 54)) f.input
  dests : ∀ j, j < 8 → c (1803 + i * 65 + 55 + j) = .int .u64 (destW f.code j : Nat)
  outOff : c (1803 + i * 65 + 63) = .int .u32 (f.outOff : Nat)
  outLen : c (1803 + i * 65 + 64) = .int .u32 (f.outLen : Nat)
  stack : ∀ j (h : j < f.stack.length), WAt c (11 + (64 * i + (f.stack.length - 1 - j)) * 4) f.stack[j]
  ok : FOK f
/-- All frames, the top first, with their snapshots. -/
def FrL (O : Nat → Prop) (w : World) (c : Nat → Value) : List AFrame → List Nat → Prop
  | [], [] => True
  | f :: r, s :: sn => FrC O w c r.length s f ∧ FrL O w c r sn
  | _, _ => False
/-- The bytes of memories, the top first. -/
def lowB : List (List Nat) → List Nat
  | [] => []
  | m :: r => lowB r ++ m
/-- The bases. -/
def BaseL (c : Nat → Value) : List (List Nat) → Prop
  | [] => c 2 = .int .u32 0
  | m :: r => c (2 + (r.length + 1)) = .int .u32 ((lowB (m :: r)).length : Nat) ∧ BaseL c r
/-- The arena of memories. -/
structure MemC (own : Nat → Nat) (w : World) (c : Nat → Value) (ms : List (List Nat)) (stale : List Nat) : Prop where
  top : c 10 = .int .u8 (ms.length : Nat)
  base : BaseL c ms
  buf : GRow 5 1 BC (Ow own 7) w (c 1) (lowB ms ++ stale)
  few : ms.length ≤ 7
  size : ∀ m ∈ ms, m.length ≤ 717280 ∧ m.length % 32 = 0
  stl : (lowB ms ++ stale).length ≤ 5020960
/-- The block's surroundings, from cell o on. -/
structure EnvC (O : Nat → Prop) (w : World) (c : Nat → Value) (o : Nat) (e : AEnv) : Prop where
  coinbase : AAt c o e.coinbase
  cLt : e.coinbase < 2 ^ 160
  number : c (o + 20) = .int .u64 (e.number : Nat)
  nLt : e.number < 18446744073709551616
  time : c (o + 21) = .int .u64 (e.time : Nat)
  tLt : e.time < 18446744073709551616
  gasLimit : c (o + 22) = .int .u64 (e.gasLimit : Nat)
  gLt : e.gasLimit < 18446744073709551616
  randao : BAt c (o + 23) e.randao
  rLt : e.randao < P256
  chainID : BAt c (o + 55) e.chainID
  iLt : e.chainID < P256
  baseFee : BAt c (o + 87) e.baseFee
  bLt : e.baseFee < P256
  hashes : WL O w (c (o + 119)) e.hashes
  few : e.hashes.length ≤ 4
/-- The machine without its vault. -/
structure MC (own : Nat → Nat) (w : World) (g : Nat) (c : Nat → Value) (st : ASt) (sn : List Nat) (stale : List Nat) : Prop where
  ptr : c 0 = .pointer (some ⟨g, 2435, none⟩)
  mem : MemC own w c (st.frames.map (·.mem)) stale
  frs : FrL (Mu own) w c st.frames sn
  top : c 2258 = .int .i8 ((st.frames.length : Int) - 1)
  ret : NL (Mu own) w (c 2259) st.ret
  env : EnvC (Mu own) w c 2260 st.env
  origin : AAt c 2380 st.origin
  oLt : st.origin < 2 ^ 160
  price : WAt c 2400 st.price
  pLt : st.price < P256
  phase : c 2404 = .int .u8 (st.phase : Nat)
  hLt : st.phase ≤ 2
  status : c 2405 = .int .u8 (st.status : Nat)
  sLt : st.status < 256
  applied : c 2406 = .int .u8 (st.applied : Nat)
  aLt : st.applied < 256
  limit : c 2407 = .int .u64 (st.limit : Nat)
  lLt : st.limit < 18446744073709551616
  made : AAt c 2415 st.made
  mLt : st.made < 2 ^ 160
  left : st.frames = [] → st.phase = 2 → c 1810 = .int .u64 (st.left : Nat)
  fLt : st.left < 18446744073709551616
/-- The whole engine. -/
structure MRep (own : Nat → Nat) (w : World) (g : Nat) (c : Nat → Value) (V : EV) (st : ASt) (sn : List Nat) (stale : List Nat) : Prop where
  v : VRep own w g c V
  m : MC own w g c st sn stale
  abs : V.abs = st.now
  jok : V.JOK
  orig : ∀ a k, (V.sl a k).orig = st.orig a k
  snl : ∀ s ∈ sn, s < V.marks.length
  snr : sn.Pairwise fun x y => y < x
  saved : ∀ i (h : i < st.frames.length), V.savedAt (sn.getD i 0) = (st.frames[i]).saved
  built : c 27023 = .bool false
/-- What the machine leaves alone. -/
structure MStep (own : Nat → Nat) (w : World) (own' : Nat → Nat) (w' : World) : Prop where
  keep : ∀ b, b < w.heap.size → own' b = own b
  mod : Mod (fun b => own b ≠ 0 ∧ own b ≠ 9) w w'

theorem FrL.len {O : Nat → Prop} {w : World} {c : Nat → Value} : ∀ {l : List AFrame} {sn : List Nat}, FrL O w c l sn → sn.length = l.length
  | [], [], _ => rfl
  | _ :: _, _ :: _, h => by rw [List.length_cons, List.length_cons, FrL.len h.2]
theorem FrC.same {O O' : Nat → Prop} {w w' : World} {c c' : Nat → Value} {i s : Nat} {f : AFrame} (h : FrC O w c i s f) (hi : i < 7) (hc : ∀ j, 11 ≤ j → j < 2258 → c' j = c j) (hn : ∀ v l, NL O w v l → NL O' w' v l) : FrC O' w' c' i s f where
  kind := by rw [hc _ (by omega) (by omega)]; exact h.kind
  pre := by rw [hc _ (by omega) (by omega)]; exact h.pre
  static := by rw [hc _ (by omega) (by omega)]; exact h.static
  pc := by rw [hc _ (by omega) (by omega)]; exact h.pc
  sb := by rw [hc _ (by omega) (by omega)]; exact h.sb
  sp := by rw [hc _ (by omega) (by omega)]; exact h.sp
  gas := by rw [hc _ (by omega) (by omega)]; exact h.gas
  snap := by rw [hc _ (by omega) (by omega)]; exact h.snap
  self := fun j v hv => by
    have hj := (Array.getElem?_eq_some_iff.1 hv).1
    rw [av_size h.ok.self] at hj
    rw [hc _ (by omega) (by omega)]; exact h.self j v hv
  caller := fun j v hv => by
    have hj := (Array.getElem?_eq_some_iff.1 hv).1
    rw [av_size h.ok.caller] at hj
    rw [hc _ (by omega) (by omega)]; exact h.caller j v hv
  value := ⟨by rw [hc _ (by omega) (by omega)]; exact h.value.c0, by rw [hc _ (by omega) (by omega)]; exact h.value.c1, by rw [hc _ (by omega) (by omega)]; exact h.value.c2, by rw [hc _ (by omega) (by omega)]; exact h.value.c3⟩
  code := by rw [hc _ (by omega) (by omega)]; exact hn _ _ h.code
  input := by rw [hc _ (by omega) (by omega)]; exact hn _ _ h.input
  dests := fun j hj => by rw [hc _ (by omega) (by omega)]; exact h.dests j hj
  outOff := by rw [hc _ (by omega) (by omega)]; exact h.outOff
  outLen := by rw [hc _ (by omega) (by omega)]; exact h.outLen
  stack := fun j hj => by
    have h1 := h.ok.sLen
    have h2 := h.stack j hj
    exact ⟨by rw [hc _ (by omega) (by omega)]; exact h2.c0, by rw [hc _ (by omega) (by omega)]; exact h2.c1, by rw [hc _ (by omega) (by omega)]; exact h2.c2, by rw [hc _ (by omega) (by omega)]; exact h2.c3⟩
  ok := h.ok
theorem FrL.same {O O' : Nat → Prop} {w w' : World} {c c' : Nat → Value} (hc : ∀ j, 11 ≤ j → j < 2258 → c' j = c j) (hn : ∀ v l, NL O w v l → NL O' w' v l) : ∀ {l : List AFrame} {sn : List Nat}, l.length ≤ 7 → FrL O w c l sn → FrL O' w' c' l sn
  | [], [], _, _ => trivial
  | _ :: r, _ :: _, hl, h => by
    rw [List.length_cons] at hl
    exact ⟨h.1.same (by omega) hc hn, FrL.same hc hn (by omega) h.2⟩
theorem BaseL.same {c c' : Nat → Value} : ∀ {ms : List (List Nat)}, ms.length ≤ 7 → (∀ j, 2 ≤ j → j < 10 → c' j = c j) → BaseL c ms → BaseL c' ms
  | [], _, hc, h => (hc 2 (by omega) (by omega)).trans h
  | _ :: r, hl, hc, h => by
    rw [List.length_cons] at hl
    exact ⟨(hc _ (by omega) (by omega)).trans h.1, BaseL.same (by omega) hc h.2⟩
theorem BAt.same {c c' : Nat → Value} {o x : Nat} (h : BAt c o x) (hx : x < P256) (hc : ∀ j, j < 32 → c' (o + j) = c (o + j)) : BAt c' o x := fun i v hv => by
  have hi := (Array.getElem?_eq_some_iff.1 hv).1
  have : (bw x).size = 32 := by simp [bw, bcells_length, len32 hx]
  rw [this] at hi
  rw [hc i hi]; exact h i v hv
theorem AAt.same {c c' : Nat → Value} {o x : Nat} (h : AAt c o x) (hx : x < 2 ^ 160) (hc : ∀ j, j < 20 → c' (o + j) = c (o + j)) : AAt c' o x := fun i v hv => by
  have hi := (Array.getElem?_eq_some_iff.1 hv).1
  rw [av_size hx] at hi
  rw [hc i hi]; exact h i v hv
theorem EnvC.same {O O' : Nat → Prop} {w w' : World} {c c' : Nat → Value} {o : Nat} {e : AEnv} (h : EnvC O w c o e) (hc : ∀ j, o ≤ j → j < o + 120 → c' j = c j) (hn : ∀ v l, WL O w v l → WL O' w' v l) : EnvC O' w' c' o e where
  coinbase := h.coinbase.same h.cLt fun j hj => hc _ (by omega) (by omega)
  cLt := h.cLt
  number := by rw [hc _ (by omega) (by omega)]; exact h.number
  nLt := h.nLt
  time := by rw [hc _ (by omega) (by omega)]; exact h.time
  tLt := h.tLt
  gasLimit := by rw [hc _ (by omega) (by omega)]; exact h.gasLimit
  gLt := h.gLt
  randao := h.randao.same h.rLt fun j hj => hc _ (by omega) (by omega)
  rLt := h.rLt
  chainID := h.chainID.same h.iLt fun j hj => hc _ (by omega) (by omega)
  iLt := h.iLt
  baseFee := h.baseFee.same h.bLt fun j hj => hc _ (by omega) (by omega)
  bLt := h.bLt
  hashes := by rw [hc _ (by omega) (by omega)]; exact hn _ _ h.hashes
  few := h.few
end Go.Proofs.YgvahwGreat
