import Derived.Test.YgvahwGreatYF
import Derived.Test.YgvahwGreatRowsL
import Derived.Test.YgvahwGreatYZ
namespace Go.Proofs.YgvahwGreat
open Go.RowKit
set_option linter.unusedSimpArgs false
section
variable {kk : Nat → Value} {O TM TL : Nat → Prop} {w w' : World} {Y F q n : Nat} {tF : TypeId} {c d : Nat → Value} {W : YW} {start : List (Nat × Nat × Nat)} {st : ASt} {f : AFrame}
theorem YFC.boxValue (h : YFC O TM w d q f) (hs : f.self < 2 ^ 160) (hc : f.caller < 2 ^ 160) {v : Value} {x : Nat} (hv : NV O w v x) : YFC O TM w (updv d (q + 5) v) q { f with value := x } where
  kind := by rw [updv_ne _ _ (by omega)]; exact h.kind
  pre := by rw [updv_ne _ _ (by omega)]; exact h.pre
  static := by rw [updv_ne _ _ (by omega)]; exact h.static
  pc := by rw [updv_ne _ _ (by omega)]; exact h.pc
  gas := by rw [updv_ne _ _ (by omega)]; exact h.gas
  value := by rw [updv_same]; exact hv
  outOff := by rw [updv_ne _ _ (by omega)]; exact h.outOff
  outLen := by rw [updv_ne _ _ (by omega)]; exact h.outLen
  stack := by rw [updv_ne _ _ (by omega)]; exact h.stack
  mem := by rw [updv_ne _ _ (by omega)]; exact h.mem
  code := by rw [updv_ne _ _ (by omega)]; exact h.code
  input := by rw [updv_ne _ _ (by omega)]; exact h.input
  mcap := fun o k cap e => h.mcap o k cap (by rwa [updv_ne _ _ (by omega)] at e)
  self := h.self.same hs (fun j hj => updv_ne _ _ (by omega))
  caller := h.caller.same hc (fun j hj => updv_ne _ _ (by omega))
theorem YFC.boxCode (h : YFC O TM w d q f) (hs : f.self < 2 ^ 160) (hc : f.caller < 2 ^ 160) {v : Value} {l : List Nat} (hv : NL O w v l) : YFC O TM w (updv d (q + 10) v) q { f with code := l } where
  kind := by rw [updv_ne _ _ (by omega)]; exact h.kind
  pre := by rw [updv_ne _ _ (by omega)]; exact h.pre
  static := by rw [updv_ne _ _ (by omega)]; exact h.static
  pc := by rw [updv_ne _ _ (by omega)]; exact h.pc
  gas := by rw [updv_ne _ _ (by omega)]; exact h.gas
  value := by rw [updv_ne _ _ (by omega)]; exact h.value
  outOff := by rw [updv_ne _ _ (by omega)]; exact h.outOff
  outLen := by rw [updv_ne _ _ (by omega)]; exact h.outLen
  stack := by rw [updv_ne _ _ (by omega)]; exact h.stack
  mem := by rw [updv_ne _ _ (by omega)]; exact h.mem
  code := by rw [updv_same]; exact hv
  input := by rw [updv_ne _ _ (by omega)]; exact h.input
  mcap := fun o k cap e => h.mcap o k cap (by rwa [updv_ne _ _ (by omega)] at e)
  self := h.self.same hs (fun j hj => updv_ne _ _ (by omega))
  caller := h.caller.same hc (fun j hj => updv_ne _ _ (by omega))
theorem YFC.boxInput (h : YFC O TM w d q f) (hs : f.self < 2 ^ 160) (hc : f.caller < 2 ^ 160) {v : Value} {l : List Nat} (hv : NL O w v l) : YFC O TM w (updv d (q + 11) v) q { f with input := l } where
  kind := by rw [updv_ne _ _ (by omega)]; exact h.kind
  pre := by rw [updv_ne _ _ (by omega)]; exact h.pre
  static := by rw [updv_ne _ _ (by omega)]; exact h.static
  pc := by rw [updv_ne _ _ (by omega)]; exact h.pc
  gas := by rw [updv_ne _ _ (by omega)]; exact h.gas
  value := by rw [updv_ne _ _ (by omega)]; exact h.value
  outOff := by rw [updv_ne _ _ (by omega)]; exact h.outOff
  outLen := by rw [updv_ne _ _ (by omega)]; exact h.outLen
  stack := by rw [updv_ne _ _ (by omega)]; exact h.stack
  mem := by rw [updv_ne _ _ (by omega)]; exact h.mem
  code := by rw [updv_ne _ _ (by omega)]; exact h.code
  input := by rw [updv_same]; exact hv
  mcap := fun o k cap e => h.mcap o k cap (by rwa [updv_ne _ _ (by omega)] at e)
  self := h.self.same hs (fun j hj => updv_ne _ _ (by omega))
  caller := h.caller.same hc (fun j hj => updv_ne _ _ (by omega))
theorem YFC.boxKind (h : YFC O TM w d q f) (hs : f.self < 2 ^ 160) (hc : f.caller < 2 ^ 160) {v : Value} {x : Nat} (hv : v = .int .u8 (x : Nat)) : YFC O TM w (updv d (q) v) q { f with kind := x } where
  kind := by rw [updv_same]; exact hv
  pre := by rw [updv_ne _ _ (by omega)]; exact h.pre
  static := by rw [updv_ne _ _ (by omega)]; exact h.static
  pc := by rw [updv_ne _ _ (by omega)]; exact h.pc
  gas := by rw [updv_ne _ _ (by omega)]; exact h.gas
  value := by rw [updv_ne _ _ (by omega)]; exact h.value
  outOff := by rw [updv_ne _ _ (by omega)]; exact h.outOff
  outLen := by rw [updv_ne _ _ (by omega)]; exact h.outLen
  stack := by rw [updv_ne _ _ (by omega)]; exact h.stack
  mem := by rw [updv_ne _ _ (by omega)]; exact h.mem
  code := by rw [updv_ne _ _ (by omega)]; exact h.code
  input := by rw [updv_ne _ _ (by omega)]; exact h.input
  mcap := fun o k cap e => h.mcap o k cap (by rwa [updv_ne _ _ (by omega)] at e)
  self := h.self.same hs (fun j hj => updv_ne _ _ (by omega))
  caller := h.caller.same hc (fun j hj => updv_ne _ _ (by omega))
theorem YFC.boxPre (h : YFC O TM w d q f) (hs : f.self < 2 ^ 160) (hc : f.caller < 2 ^ 160) {v : Value} {x : Nat} (hv : v = .int .u8 (x : Nat)) : YFC O TM w (updv d (q + 1) v) q { f with pre := x } where
  kind := by rw [updv_ne _ _ (by omega)]; exact h.kind
  pre := by rw [updv_same]; exact hv
  static := by rw [updv_ne _ _ (by omega)]; exact h.static
  pc := by rw [updv_ne _ _ (by omega)]; exact h.pc
  gas := by rw [updv_ne _ _ (by omega)]; exact h.gas
  value := by rw [updv_ne _ _ (by omega)]; exact h.value
  outOff := by rw [updv_ne _ _ (by omega)]; exact h.outOff
  outLen := by rw [updv_ne _ _ (by omega)]; exact h.outLen
  stack := by rw [updv_ne _ _ (by omega)]; exact h.stack
  mem := by rw [updv_ne _ _ (by omega)]; exact h.mem
  code := by rw [updv_ne _ _ (by omega)]; exact h.code
  input := by rw [updv_ne _ _ (by omega)]; exact h.input
  mcap := fun o k cap e => h.mcap o k cap (by rwa [updv_ne _ _ (by omega)] at e)
  self := h.self.same hs (fun j hj => updv_ne _ _ (by omega))
  caller := h.caller.same hc (fun j hj => updv_ne _ _ (by omega))
theorem YFC.boxStatic (h : YFC O TM w d q f) (hs : f.self < 2 ^ 160) (hc : f.caller < 2 ^ 160) {v : Value} {x : Bool} (hv : v = .bool x) : YFC O TM w (updv d (q + 2) v) q { f with static := x } where
  kind := by rw [updv_ne _ _ (by omega)]; exact h.kind
  pre := by rw [updv_ne _ _ (by omega)]; exact h.pre
  static := by rw [updv_same]; exact hv
  pc := by rw [updv_ne _ _ (by omega)]; exact h.pc
  gas := by rw [updv_ne _ _ (by omega)]; exact h.gas
  value := by rw [updv_ne _ _ (by omega)]; exact h.value
  outOff := by rw [updv_ne _ _ (by omega)]; exact h.outOff
  outLen := by rw [updv_ne _ _ (by omega)]; exact h.outLen
  stack := by rw [updv_ne _ _ (by omega)]; exact h.stack
  mem := by rw [updv_ne _ _ (by omega)]; exact h.mem
  code := by rw [updv_ne _ _ (by omega)]; exact h.code
  input := by rw [updv_ne _ _ (by omega)]; exact h.input
  mcap := fun o k cap e => h.mcap o k cap (by rwa [updv_ne _ _ (by omega)] at e)
  self := h.self.same hs (fun j hj => updv_ne _ _ (by omega))
  caller := h.caller.same hc (fun j hj => updv_ne _ _ (by omega))
set_option linter.unusedVariables false in
theorem YFC.boxSelf (h : YFC O TM w d q f) (hs : f.self < 2 ^ 160) (hc : f.caller < 2 ^ 160) {a : Nat} (ha : a < 2 ^ 160) : YFC O TM w (layv d (q + 12) (av a)) q { f with self := a } where
  kind := by rw [layv_out _ _ _ (by rw [av_size ha]; omega)]; exact h.kind
  pre := by rw [layv_out _ _ _ (by rw [av_size ha]; omega)]; exact h.pre
  static := by rw [layv_out _ _ _ (by rw [av_size ha]; omega)]; exact h.static
  pc := by rw [layv_out _ _ _ (by rw [av_size ha]; omega)]; exact h.pc
  gas := by rw [layv_out _ _ _ (by rw [av_size ha]; omega)]; exact h.gas
  value := by rw [layv_out _ _ _ (by rw [av_size ha]; omega)]; exact h.value
  outOff := by rw [layv_out _ _ _ (by rw [av_size ha]; omega)]; exact h.outOff
  outLen := by rw [layv_out _ _ _ (by rw [av_size ha]; omega)]; exact h.outLen
  stack := by rw [layv_out _ _ _ (by rw [av_size ha]; omega)]; exact h.stack
  mem := by rw [layv_out _ _ _ (by rw [av_size ha]; omega)]; exact h.mem
  code := by rw [layv_out _ _ _ (by rw [av_size ha]; omega)]; exact h.code
  input := by rw [layv_out _ _ _ (by rw [av_size ha]; omega)]; exact h.input
  mcap := fun o k cap e => h.mcap o k cap (by rwa [layv_out _ _ _ (by rw [av_size ha]; omega)] at e)
  self := fun i v hv => by
    have hi : i < (av a).size := (Array.getElem?_eq_some_iff.1 hv).1
    rw [layv_in _ _ _ hi]; exact cf_get hv
  caller := h.caller.same hc (fun j hj => layv_out _ _ _ (by rw [av_size ha]; omega))
set_option linter.unusedVariables false in
theorem YFC.boxCaller (h : YFC O TM w d q f) (hs : f.self < 2 ^ 160) (hc : f.caller < 2 ^ 160) {a : Nat} (ha : a < 2 ^ 160) : YFC O TM w (layv d (q + 32) (av a)) q { f with caller := a } where
  kind := by rw [layv_out _ _ _ (by rw [av_size ha]; omega)]; exact h.kind
  pre := by rw [layv_out _ _ _ (by rw [av_size ha]; omega)]; exact h.pre
  static := by rw [layv_out _ _ _ (by rw [av_size ha]; omega)]; exact h.static
  pc := by rw [layv_out _ _ _ (by rw [av_size ha]; omega)]; exact h.pc
  gas := by rw [layv_out _ _ _ (by rw [av_size ha]; omega)]; exact h.gas
  value := by rw [layv_out _ _ _ (by rw [av_size ha]; omega)]; exact h.value
  outOff := by rw [layv_out _ _ _ (by rw [av_size ha]; omega)]; exact h.outOff
  outLen := by rw [layv_out _ _ _ (by rw [av_size ha]; omega)]; exact h.outLen
  stack := by rw [layv_out _ _ _ (by rw [av_size ha]; omega)]; exact h.stack
  mem := by rw [layv_out _ _ _ (by rw [av_size ha]; omega)]; exact h.mem
  code := by rw [layv_out _ _ _ (by rw [av_size ha]; omega)]; exact h.code
  input := by rw [layv_out _ _ _ (by rw [av_size ha]; omega)]; exact h.input
  mcap := fun o k cap e => h.mcap o k cap (by rwa [layv_out _ _ _ (by rw [av_size ha]; omega)] at e)
  caller := fun i v hv => by
    have hi : i < (av a).size := (Array.getElem?_eq_some_iff.1 hv).1
    rw [layv_in _ _ _ hi]; exact cf_get hv
  self := h.self.same hs (fun j hj => layv_out _ _ _ (by rw [av_size ha]; omega))
end
def z147r : Array Value := #[.int .u8 0, .int .u8 0, .bool false, .slice none 0 0, .slice none 0 0, .slice none 0 0, .slice none 0 0, .slice none 0 0, .slice none 0 0, .slice none 0 0, .slice none 0 0, .slice none 0 0, .int .u8 0, .int .u8 0, .int .u8 0, .int .u8 0, .int .u8 0, .int .u8 0, .int .u8 0, .int .u8 0, .int .u8 0, .int .u8 0, .int .u8 0, .int .u8 0, .int .u8 0, .int .u8 0, .int .u8 0, .int .u8 0, .int .u8 0, .int .u8 0, .int .u8 0, .int .u8 0, .int .u8 0, .int .u8 0, .int .u8 0, .int .u8 0, .int .u8 0, .int .u8 0, .int .u8 0, .int .u8 0, .int .u8 0, .int .u8 0, .int .u8 0, .int .u8 0, .int .u8 0, .int .u8 0, .int .u8 0, .int .u8 0, .int .u8 0, .int .u8 0, .int .u8 0, .int .u8 0, .slice none 0 0, .slice none 0 0, .slice none 0 0, .slice none 0 0, .slice none 0 0, .slice none 0 0, .slice none 0 0, .slice none 0 0]
theorem z147p : placesOf Hvah.prog 156 = some [(0, 1), (1, 1), (2, 1), (3, 1), (4, 1), (5, 1), (6, 1), (7, 1), (8, 1), (9, 1), (10, 1), (11, 1), (12, 20), (32, 20), (52, 8)] := by kernel_rfl
theorem z147q : zeroOf Hvah.prog 156 = some z147r := by kernel_rfl
theorem z147n : z147r.size = 60 := by rfl
theorem z147o : Ones z147r := by
  intro v hv
  have : v = .int .u8 0 ∨ v = .bool false ∨ v = .slice none 0 0 ∨ v = .int .u8 0 ∨ v = .slice none 0 0 := by simpa [z147r] using hv
  rcases this with rfl | rfl | rfl | rfl | rfl <;> rfl
theorem av_zero : ∀ i, i < 40 → cf z147r (12 + i) = .int .u8 0
  | 0, _ => rfl
  | 1, _ => rfl
  | 2, _ => rfl
  | 3, _ => rfl
  | 4, _ => rfl
  | 5, _ => rfl
  | 6, _ => rfl
  | 7, _ => rfl
  | 8, _ => rfl
  | 9, _ => rfl
  | 10, _ => rfl
  | 11, _ => rfl
  | 12, _ => rfl
  | 13, _ => rfl
  | 14, _ => rfl
  | 15, _ => rfl
  | 16, _ => rfl
  | 17, _ => rfl
  | 18, _ => rfl
  | 19, _ => rfl
  | 20, _ => rfl
  | 21, _ => rfl
  | 22, _ => rfl
  | 23, _ => rfl
  | 24, _ => rfl
  | 25, _ => rfl
  | 26, _ => rfl
  | 27, _ => rfl
  | 28, _ => rfl
  | 29, _ => rfl
  | 30, _ => rfl
  | 31, _ => rfl
  | 32, _ => rfl
  | 33, _ => rfl
  | 34, _ => rfl
  | 35, _ => rfl
  | 36, _ => rfl
  | 37, _ => rfl
  | 38, _ => rfl
  | 39, _ => rfl
  | _ + 40, h => absurd h (by omega)
theorem av_zero0 : ∀ i, i < 20 → Value.int .u8 0 = cf (av 0) i
  | 0, _ => rfl
  | 1, _ => rfl
  | 2, _ => rfl
  | 3, _ => rfl
  | 4, _ => rfl
  | 5, _ => rfl
  | 6, _ => rfl
  | 7, _ => rfl
  | 8, _ => rfl
  | 9, _ => rfl
  | 10, _ => rfl
  | 11, _ => rfl
  | 12, _ => rfl
  | 13, _ => rfl
  | 14, _ => rfl
  | 15, _ => rfl
  | 16, _ => rfl
  | 17, _ => rfl
  | 18, _ => rfl
  | 19, _ => rfl
  | _ + 20, h => absurd h (by omega)
/-- An empty frame. -/
def fr0 : AFrame := { kind := 0, pre := 0, static := false, pc := 0, gas := 0, value := 0, outOff := 0, outLen := 0, stack := [], mem := [], code := [], input := [], self := 0, caller := 0, saved := ⟨fun _ => 0, fun _ => 0, fun _ => [], fun _ _ => 0, fun _ => false, fun _ _ => false, 0, [], fun _ _ => 0, fun _ => false, fun _ => false⟩ }
theorem aat_zero {o : Nat} (h : ∀ i, i < 20 → cf z147r (o + i) = .int .u8 0) : AAt (cf z147r) o 0 := fun i v hv => by
  have hi : i < 20 := by have := (Array.getElem?_eq_some_iff.1 hv).1; rwa [av_size (by decide)] at this
  rw [h i hi, ← cf_get hv]
  exact av_zero0 i hi
theorem zeroC {O TM : Nat → Prop} {w : World} (sv : AW) : YFC O TM w (cf z147r) 0 { fr0 with saved := sv } where
  kind := rfl
  pre := rfl
  static := rfl
  pc := NV.nil
  gas := NV.nil
  value := NV.nil
  outOff := NV.nil
  outLen := NV.nil
  stack := ⟨none, 0, rfl, Nat.le_refl _, by decide, fun h => absurd rfl h⟩
  mem := Or.inl ⟨rfl, rfl⟩
  code := NL.nil
  input := NL.nil
  self := aat_zero (fun i hi => av_zero i (by omega))
  caller := aat_zero (fun i hi => by have := av_zero (20 + i) (by omega); rwa [← Nat.add_assoc] at this)
  mcap := fun o k cap e => by
    have e2 : Value.slice none 0 0 = .slice o k cap := e
    injection e2 with _ _ e3
    rw [← e3]; decide
/-- The frame that a call builds first. -/
theorem b147 {a s : Nat} (ha : a < 2 ^ 160) (hs : s < 2 ^ 160) {b : Bool} {u : Value} (hu : u.oneCell' = true) : ∃ R : Array Value, (∀ w, (Instr.build 156 ([(0, .int .u8 2), (2, .bool b), (5, u), (12, .agg (av a)), (13, .agg (av s))] : List (Nat × Value)).toArray).run Hvah.prog w = .ok (.agg R) w) ∧ R.size = 60 ∧ Ones R ∧
    ∀ (O TM : Nat → Prop) (w : World) (x : Nat) (sv : AW), NV O w u x → YFC O TM w (cf R) 0 { fr0 with kind := 2, static := b, value := x, self := a, caller := s, saved := sv } := by
  refine ⟨_, fun w => run_build_gen z147p z147q ([(0, .int .u8 2), (2, .bool b), (5, u), (12, .agg (av a)), (13, .agg (av s))] : List (Nat × Value)) ⟨0, 1, rfl, rfl, by decide, 2, 1, rfl, rfl, by decide, 5, 1, rfl, by rw [one_cells hu]; rfl, by decide, 12, 20, rfl, av_size ha, by decide, 32, 20, rfl, av_size hs, by decide, trivial⟩ w, by rw [bld_size]; exact z147n, ?_, ?_⟩
  · refine ones_of (fun i hi => ?_)
    rw [bld_size] at hi
    rw [bld_get _ _ _ hi]
    simp only [partsA, List.map_cons, List.map_nil, List.getD_cons_zero, List.getD_cons_succ, bldc, one_cells hu, one_cells (v := .int .u8 2) rfl, one_cells (v := .bool b) rfl, layv_one, one_agg]
    have hA := av_size ha
    have hS := av_size hs
    by_cases h1 : 32 ≤ i ∧ i < 52
    · obtain ⟨j, rfl⟩ : ∃ j, i = 32 + j := ⟨i - 32, by omega⟩
      rw [layv_in _ _ _ (by omega)]
      exact Ones.get (av_one _) (by omega)
    rw [layv_out _ _ _ (by omega)]
    by_cases h2 : 12 ≤ i ∧ i < 32
    · obtain ⟨j, rfl⟩ : ∃ j, i = 12 + j := ⟨i - 12, by omega⟩
      rw [layv_in _ _ _ (by omega)]
      exact Ones.get (av_one _) (by omega)
    rw [layv_out _ _ _ (by omega)]
    unfold updv
    split
    · exact hu
    split
    · rfl
    split
    · rfl
    · exact Ones.get z147o hi
  · intro O TM w x sv hx
    have e : ∀ i, i < 60 → cf (bld z147r (partsA [(0, 1), (1, 1), (2, 1), (3, 1), (4, 1), (5, 1), (6, 1), (7, 1), (8, 1), (9, 1), (10, 1), (11, 1), (12, 20), (32, 20), (52, 8)] [(0, .int .u8 2), (2, .bool b), (5, u), (12, .agg (av a)), (13, .agg (av s))])) i = layv (layv (updv (updv (updv (cf z147r) 0 (.int .u8 2)) 2 (.bool b)) 5 u) (0 + 12) (av a)) (0 + 32) (av s) i := fun i hi => by
      rw [bld_get _ _ _ (by rw [z147n]; exact hi)]
      simp only [partsA, List.map_cons, List.map_nil, List.getD_cons_zero, List.getD_cons_succ, bldc, one_cells hu, one_cells (v := .int .u8 2) rfl, one_cells (v := .bool b) rfl, layv_one, one_agg]
    have h0 : (0 : Nat) < 2 ^ 160 := by decide
    have k := ((((((zeroC (O := O) (TM := TM) (w := w) sv).boxKind (x := 2) h0 h0 rfl).boxStatic (x := b) h0 h0 rfl).boxValue h0 h0 hx).boxSelf h0 h0 ha).boxCaller ha h0 hs)
    exact k.same ha hs (fun j hj => by rw [Nat.zero_add]; exact e j (by omega))
end Go.Proofs.YgvahwGreat
