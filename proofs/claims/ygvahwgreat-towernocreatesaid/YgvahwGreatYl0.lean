import Derived.Test.YgvahwGreatYZf
import Derived.Test.YgvahwGreatTb
import Derived.Test.YgvahwGreatTe
import Derived.Test.YgvahwGreatTi
import Derived.Test.YgvahwGreatKc
import Derived.Test.YgvahwGreatYpL
import Derived.Test.YgvahwGreatRowsN
namespace Go.Proofs.YgvahwGreat
open Go.RowKit
set_option linter.unusedSimpArgs false

theorem onet101l : OneT 114 := oneT_of (by kernel_rfl) (by kernel_rfl)
theorem onet5l : OneT 5 := oneT_of (by kernel_rfl) (by kernel_rfl)
theorem onet96l : OneT 109 := oneT_of (by kernel_rfl) (by kernel_rfl)
theorem onet32l : OneT 23 := oneT_of (by kernel_rfl) (by kernel_rfl)
theorem rt147l : RowT 156 60 := rowT_of (by kernel_rfl) (by kernel_rfl)
theorem rt99l : RowT 112 8 := rowT_of (by kernel_rfl) (by kernel_rfl)
theorem z147z : (zeroOf Hvah.prog 156).map (fun z => z.size) = some 60 := by kernel_rfl
theorem z147l : ∃ z, zeroOf Hvah.prog 156 = some z ∧ z.size = 60 := by
  have h := z147z
  cases e : zeroOf Hvah.prog 156 with
  | none => rw [e] at h; cases h
  | some z => rw [e] at h; exact ⟨z, rfl, by simpa using h⟩
theorem z108z : (zeroOf Hvah.prog 121).map (fun z => z.size) = some 24 := by kernel_rfl
theorem z108l : ∃ z, zeroOf Hvah.prog 121 = some z ∧ z.size = 24 := by
  have h := z108z
  cases e : zeroOf Hvah.prog 121 with
  | none => rw [e] at h; cases h
  | some z => rw [e] at h; exact ⟨z, rfl, by simpa using h⟩
theorem joinW {P Fc : World → Prop} {G : Prop} (h : (∀ W, Fc W → P W) → G) (k : ∀ W, Fc W → P W) : G := h k
theorem joinAc {P Fc : Nat → World → Value → Value → Value → Value → Prop} {G : Prop} (h : (∀ B W u1 u2 u3 u4, Fc B W u1 u2 u3 u4 → P B W u1 u2 u3 u4) → G) (k : ∀ B W u1 u2 u3 u4, Fc B W u1 u2 u3 u4 → P B W u1 u2 u3 u4) : G := h k
theorem post_voidl {fn : Func} {R : Ending → World → Prop} {ac : Act} {w : World} (hf : fn.results = #[]) (hdf : ac.defers = []) (h : R (.returned (.tuple #[])) w) : bodyPost Hvah.prog fn R .ret ac w :=
  bodyPost_ret (v := .tuple #[]) (by simp [results, hf]) hdf h
theorem yieldsRowL {S : World → Prop} {ops : Array Oper} {o : Oper} {a : Act} {x : Operand} {t tt : TypeId} {b i n m : Nat} {c : Nat → Value} (rt : RowT t m) (hw : Region.wanted o (yielded ops a.tmps) = true) (hop : o.op = .load t x) (hx : a.eval x = .pointer (some ⟨b, i, none⟩)) (hB : ∀ w, S w → Blk w b n tt c) (hi : i + m ≤ n) : YieldsIf Hvah.prog ops S o (.agg (rowOf c i m)) a := by
  obtain ⟨d, h1, h2⟩ := rt.desc
  exact yieldsIf_load_mid hw t x hop b i hx (rowOf c i m).toList d (fun w h j v hv => (hB w h).rowIn hi j v (by simpa using hv)) h1 h2 (by rw [rt.size]; simp [rowOf_size])
theorem updv_twice (c : Nat → Value) (i : Nat) (u v : Value) : updv (updv c i u) i v = updv c i v := by
  funext j; unfold updv; split <;> rfl
theorem acR_code {a : Nat} (ha : a < 2 ^ 160) (cz : Nat → Value) (u1 u2 u3 u4 v : Value) : rowOf (updv (layv cz 0 (acR a u1 u2 u3 u4)) 22 v) 0 24 = acR a u1 u2 v u4 := by
  have hs := av_size ha
  apply Array.ext_getElem?
  intro i
  rw [rowOf_get]
  by_cases h : i < 24
  · rw [if_pos h, Nat.zero_add]
    by_cases e : i = 22
    · subst e; rw [updv_same]; simp [acR, Array.getElem?_append, hs]
    · rw [updv_ne _ _ e]
      have := layv_in cz 0 (acR a u1 u2 u3 u4) (j := i) (by rw [acR_size ha]; exact h)
      rw [Nat.zero_add] at this
      rw [this]
      unfold cf acR
      by_cases h20 : i < 20
      · simp [Array.getElem?_append, Array.getD, hs, h20, h]
      · have : i = 20 ∨ i = 21 ∨ i = 23 := by omega
        rcases this with rfl | rfl | rfl <;> simp [Array.getElem?_append, Array.getD, hs]
  · rw [if_neg h]
    symm
    rw [Array.getElem?_eq_none]
    rw [acR_size ha]; omega
theorem writeA_lenl (m : List Nat) (off : Nat) (b : List Nat) : (writeA m off b).length = m.length := by
  unfold writeA
  split
  · simp; omega
  · rfl
/-- What a frame's end comes to. -/
def lvDep (f : AFrame) (s : Nat) : Bool := createsA f.kind && decide (s = 0)
def lvS (f : AFrame) (s : Nat) (out : List Nat) : Nat := if lvDep f s then (depositA f.gas out).2 else s
def lvG (f : AFrame) (s : Nat) (out : List Nat) : Nat := if 1 < lvS f s out then 0 else if lvDep f s then (depositA f.gas out).1 else f.gas
def lvO (f : AFrame) (s : Nat) (out : List Nat) : List Nat := if 1 < lvS f s out then [] else if lvDep f s = true ∧ lvS f s out = 0 then [] else out
def lvW (W : YW) (x : YFrm) (s : Nat) (out : List Nat) : YW := if lvS x.f s out = 0 then (if lvDep x.f s = true ∧ out ≠ [] then W.setCode x.f.self out else W) else x.sv
def lvF (f : AFrame) (s : Nat) (out : List Nat) : Nat := if lvS f s out = 0 then (if createsA f.kind then f.self else 1) else 0
def lvP (f p : AFrame) (s : Nat) (out : List Nat) : AFrame :=
  ({ p with gas := p.gas + lvG f s out, mem := if min p.outLen (lvO f s out).length = 0 then p.mem else writeA p.mem p.outOff ((lvO f s out).take (min p.outLen (lvO f s out).length)) } : AFrame).settle 0 [lvF f s out] 1
theorem dep_le (g : Nat) (out : List Nat) : (depositA g out).1 ≤ g ∧ (depositA g out).2 < 256 := by
  unfold depositA; split
  · exact ⟨Nat.zero_le _, by decide⟩
  split
  · exact ⟨Nat.zero_le _, by decide⟩
  split
  · exact ⟨Nat.zero_le _, by decide⟩
  · exact ⟨Nat.sub_le _ _, by simp⟩
theorem lvG_le (f : AFrame) (s : Nat) (out : List Nat) : lvG f s out ≤ f.gas := by
  unfold lvG; split
  · exact Nat.zero_le _
  split
  · exact (dep_le _ _).1
  · exact Nat.le_refl _
theorem lvW_abs {O TL : Nat → Prop} {w : World} {Y F n : Nat} {c d : Nat → Value} {W : YW} {start : List (Nat × Nat × Nat)} {st : ASt} {tot : Nat} {x : YFrm} {r : List YFrm} (h : YZ O TL w Y F n c d W start st tot (x :: r)) (s : Nat) (out : List Nat) :
    (lvW W x s out).abs = if lvS x.f s out = 0 then (if lvDep x.f s = true ∧ out ≠ [] then st.now.setCode x.f.self out else st.now) else x.f.saved := by
  unfold lvW
  split
  · split
    · rw [YW.setCode_abs, h.now]
    · exact h.now.symm
  · exact h.fl.1.sav.symm
theorem leave_bot (st : ASt) (f : AFrame) (s : Nat) (out : List Nat) : st.leave f [] s out = { st with now := if lvS f s out = 0 then (if lvDep f s = true ∧ out ≠ [] then st.now.setCode f.self out else st.now) else f.saved, ret := lvO f s out, frames := [], phase := 2, status := lvS f s out, left := lvG f s out } := rfl
theorem leave_top (st : ASt) (f p : AFrame) (rest : List AFrame) (s : Nat) (out : List Nat) : st.leave f (p :: rest) s out = { st with now := if lvS f s out = 0 then (if lvDep f s = true ∧ out ≠ [] then st.now.setCode f.self out else st.now) else f.saved, ret := lvO f s out, frames := lvP f p s out :: rest } := rfl
theorem leave_botE (st : ASt) (f : AFrame) (s : Nat) (out : List Nat) {A : AW} {o2 : List Nat} {g2 s1 : Nat} (eA : A = if lvS f s out = 0 then (if lvDep f s = true ∧ out ≠ [] then st.now.setCode f.self out else st.now) else f.saved) (eO : o2 = lvO f s out) (eG : g2 = lvG f s out) (eS : s1 = lvS f s out) : st.leave f [] s out = ({ st with now := A, ret := o2, frames := [], phase := 2, status := s1, left := g2 } : ASt) := by
  rw [leave_bot, eA, eO, eG, eS]
theorem leave_topE (st : ASt) (f p : AFrame) (rest : List AFrame) (s : Nat) (out : List Nat) {A : AW} {o2 : List Nat} {fr : AFrame} (eA : A = if lvS f s out = 0 then (if lvDep f s = true ∧ out ≠ [] then st.now.setCode f.self out else st.now) else f.saved) (eO : o2 = lvO f s out) (eF : fr = lvP f p s out) : st.leave f (p :: rest) s out = ({ st with now := A, ret := o2, frames := fr :: rest } : ASt) := by
  rw [leave_top, eA, eO, eF]
/-- What the end of a frame leaves. -/
def YLv (O TL : Nat → Prop) (w w' : World) (Y F n : Nat) (W : YW) (start : List (Nat × Nat × Nat)) (st : ASt) (tot : Nat) (r : List YFrm) : Prop :=
  ∃ c d L, YZ O TL w' Y F n c d W start st tot L ∧ Mod O w w' ∧ ∀ y ∈ L, ∃ z ∈ r, y.sv = z.sv
/-- Behind the deposit. -/
def LvB (O TL : Nat → Prop) (wx WA : World) (Y F n : Nat) (d : Nat → Value) (W : YW) (start : List (Nat × Nat × Nat)) (st : ASt) (tot : Nat) (x : YFrm) (r : List YFrm) (B : Nat) (dB : Nat → Value) (s : Nat) (out : List Nat) (vs vo vg : Value) : Prop :=
  ∃ (s1 : Nat) (o1 : List Nat) (g1 : Nat) (c1 : Nat → Value) (W1 : YW), vs = .int .u8 (s1 : Nat) ∧ NL O wx vo o1 ∧ NV O wx vg g1 ∧ YZ O TL wx Y F n c1 d W1 start { st with now := W1.abs } tot (x :: r) ∧ Blk wx B 60 156 dB ∧ Mod (· = Y) WA wx ∧
    Hid (s1 < 256 ∧ s1 = lvS x.f s out ∧ (s1 ≤ 1 → o1 = lvO x.f s out) ∧ (s1 ≤ 1 → g1 = lvG x.f s out) ∧ (s1 = 0 → W1 = lvW W x s out))

/-- What is left of a sequence behind n parts. -/
def ltail : Nat → Code → Code
  | n + 1, .seq _ b => ltail n b
  | _, c => c
/-- A sequence's first part. -/
def lhead : Code → Code
  | .seq a _ => a
  | c => c
/-- The body of leave. -/
def lbody (f : Func) : Code := match f.body with
  | some c => c
  | none => .region 0 #[] false
/-- What follows the body. -/
def LQ (R : Ending → World → Prop) : Exit → Act → World → Prop := bodyPost Hvah.prog Hvah.f69 R
/-- What follows the end of a frame. -/
def LvQ (O TL : Nat → Prop) (w : World) (Y F n : Nat) (W : YW) (start : List (Nat × Nat × Nat)) (st : ASt) (tot : Nat) (r : List YFrm) (R : Ending → World → Prop) : Prop :=
  ∀ (w' : World), YLv O TL w w' Y F n W start st tot r → R (.returned (.tuple #[])) w'
end Go.Proofs.YgvahwGreat
