import Derived.Test.YgvahwGreatRowsH
namespace Go.Proofs.YgvahwGreat
open Go.RowKit
set_option linter.unusedSimpArgs false
section
variable {kk : Nat → Value} {O TM TL : Nat → Prop} {w w' : World} {Y F q n : Nat} {tF : TypeId} {c d : Nat → Value} {W : YW} {start : List (Nat × Nat × Nat)} {st : ASt} {f : AFrame}
theorem YFC.setPc (h : YFC O TM w d q f) (hs : f.self < 2 ^ 160) (hc : f.caller < 2 ^ 160) {v : Value} {x : Nat} (hv : NV O w v x) : YFC O TM w (updv d (q + 3) v) q { f with pc := x } where
  kind := by rw [updv_ne _ _ (by omega)]; exact h.kind
  pre := by rw [updv_ne _ _ (by omega)]; exact h.pre
  static := by rw [updv_ne _ _ (by omega)]; exact h.static
  pc := by rw [updv_same]; exact hv
  gas := by rw [updv_ne _ _ (by omega)]; exact h.gas
  value := by rw [updv_ne _ _ (by omega)]; exact h.value
  outOff := by rw [updv_ne _ _ (by omega)]; exact h.outOff
  outLen := by rw [updv_ne _ _ (by omega)]; exact h.outLen
  stack := by rw [updv_ne _ _ (by omega)]; exact h.stack
  mem := by rw [updv_ne _ _ (by omega)]; exact h.mem
  code := by rw [updv_ne _ _ (by omega)]; exact h.code
  input := by rw [updv_ne _ _ (by omega)]; exact h.input
  mcap := fun o k cap e => h.mcap o k cap (by rwa [updv_ne _ _ (by omega)] at e)
  self := h.self.same hs (fun j hj => updv_ne _ _ (by omega))
  caller := h.caller.same hc (fun j hj => updv_ne _ _ (by omega))
theorem YFC.setGas (h : YFC O TM w d q f) (hs : f.self < 2 ^ 160) (hc : f.caller < 2 ^ 160) {v : Value} {x : Nat} (hv : NV O w v x) : YFC O TM w (updv d (q + 4) v) q { f with gas := x } where
  kind := by rw [updv_ne _ _ (by omega)]; exact h.kind
  pre := by rw [updv_ne _ _ (by omega)]; exact h.pre
  static := by rw [updv_ne _ _ (by omega)]; exact h.static
  pc := by rw [updv_ne _ _ (by omega)]; exact h.pc
  gas := by rw [updv_same]; exact hv
  value := by rw [updv_ne _ _ (by omega)]; exact h.value
  outOff := by rw [updv_ne _ _ (by omega)]; exact h.outOff
  outLen := by rw [updv_ne _ _ (by omega)]; exact h.outLen
  stack := by rw [updv_ne _ _ (by omega)]; exact h.stack
  mem := by rw [updv_ne _ _ (by omega)]; exact h.mem
  code := by rw [updv_ne _ _ (by omega)]; exact h.code
  input := by rw [updv_ne _ _ (by omega)]; exact h.input
  mcap := fun o k cap e => h.mcap o k cap (by rwa [updv_ne _ _ (by omega)] at e)
  self := h.self.same hs (fun j hj => updv_ne _ _ (by omega))
  caller := h.caller.same hc (fun j hj => updv_ne _ _ (by omega))
theorem YFC.setOutOff (h : YFC O TM w d q f) (hs : f.self < 2 ^ 160) (hc : f.caller < 2 ^ 160) {v : Value} {x : Nat} (hv : NV O w v x) : YFC O TM w (updv d (q + 6) v) q { f with outOff := x } where
  kind := by rw [updv_ne _ _ (by omega)]; exact h.kind
  pre := by rw [updv_ne _ _ (by omega)]; exact h.pre
  static := by rw [updv_ne _ _ (by omega)]; exact h.static
  pc := by rw [updv_ne _ _ (by omega)]; exact h.pc
  gas := by rw [updv_ne _ _ (by omega)]; exact h.gas
  value := by rw [updv_ne _ _ (by omega)]; exact h.value
  outOff := by rw [updv_same]; exact hv
  outLen := by rw [updv_ne _ _ (by omega)]; exact h.outLen
  stack := by rw [updv_ne _ _ (by omega)]; exact h.stack
  mem := by rw [updv_ne _ _ (by omega)]; exact h.mem
  code := by rw [updv_ne _ _ (by omega)]; exact h.code
  input := by rw [updv_ne _ _ (by omega)]; exact h.input
  mcap := fun o k cap e => h.mcap o k cap (by rwa [updv_ne _ _ (by omega)] at e)
  self := h.self.same hs (fun j hj => updv_ne _ _ (by omega))
  caller := h.caller.same hc (fun j hj => updv_ne _ _ (by omega))
theorem YFC.setOutLen (h : YFC O TM w d q f) (hs : f.self < 2 ^ 160) (hc : f.caller < 2 ^ 160) {v : Value} {x : Nat} (hv : NV O w v x) : YFC O TM w (updv d (q + 7) v) q { f with outLen := x } where
  kind := by rw [updv_ne _ _ (by omega)]; exact h.kind
  pre := by rw [updv_ne _ _ (by omega)]; exact h.pre
  static := by rw [updv_ne _ _ (by omega)]; exact h.static
  pc := by rw [updv_ne _ _ (by omega)]; exact h.pc
  gas := by rw [updv_ne _ _ (by omega)]; exact h.gas
  value := by rw [updv_ne _ _ (by omega)]; exact h.value
  outOff := by rw [updv_ne _ _ (by omega)]; exact h.outOff
  outLen := by rw [updv_same]; exact hv
  stack := by rw [updv_ne _ _ (by omega)]; exact h.stack
  mem := by rw [updv_ne _ _ (by omega)]; exact h.mem
  code := by rw [updv_ne _ _ (by omega)]; exact h.code
  input := by rw [updv_ne _ _ (by omega)]; exact h.input
  mcap := fun o k cap e => h.mcap o k cap (by rwa [updv_ne _ _ (by omega)] at e)
  self := h.self.same hs (fun j hj => updv_ne _ _ (by omega))
  caller := h.caller.same hc (fun j hj => updv_ne _ _ (by omega))
theorem YFC.setStack (h : YFC O TM w d q f) (hs : f.self < 2 ^ 160) (hc : f.caller < 2 ^ 160) {v : Value} {l : List Nat} (hv : NumS O w v l.reverse) : YFC O TM w (updv d (q + 8) v) q { f with stack := l } where
  kind := by rw [updv_ne _ _ (by omega)]; exact h.kind
  pre := by rw [updv_ne _ _ (by omega)]; exact h.pre
  static := by rw [updv_ne _ _ (by omega)]; exact h.static
  pc := by rw [updv_ne _ _ (by omega)]; exact h.pc
  gas := by rw [updv_ne _ _ (by omega)]; exact h.gas
  value := by rw [updv_ne _ _ (by omega)]; exact h.value
  outOff := by rw [updv_ne _ _ (by omega)]; exact h.outOff
  outLen := by rw [updv_ne _ _ (by omega)]; exact h.outLen
  stack := by rw [updv_same]; exact hv
  mem := by rw [updv_ne _ _ (by omega)]; exact h.mem
  code := by rw [updv_ne _ _ (by omega)]; exact h.code
  input := by rw [updv_ne _ _ (by omega)]; exact h.input
  mcap := fun o k cap e => h.mcap o k cap (by rwa [updv_ne _ _ (by omega)] at e)
  self := h.self.same hs (fun j hj => updv_ne _ _ (by omega))
  caller := h.caller.same hc (fun j hj => updv_ne _ _ (by omega))
theorem YFC.setMem (h : YFC O TM w d q f) (hs : f.self < 2 ^ 160) (hc : f.caller < 2 ^ 160) {v : Value} {l : List Nat} (hv : GRow 5 1 ByC TM w v l) (hcap : ∀ o k cap, updv d (q + 9) v (q + 9) = .slice o k cap → cap ≤ 140737488355328) : YFC O TM w (updv d (q + 9) v) q { f with mem := l } where
  kind := by rw [updv_ne _ _ (by omega)]; exact h.kind
  pre := by rw [updv_ne _ _ (by omega)]; exact h.pre
  static := by rw [updv_ne _ _ (by omega)]; exact h.static
  pc := by rw [updv_ne _ _ (by omega)]; exact h.pc
  gas := by rw [updv_ne _ _ (by omega)]; exact h.gas
  value := by rw [updv_ne _ _ (by omega)]; exact h.value
  outOff := by rw [updv_ne _ _ (by omega)]; exact h.outOff
  outLen := by rw [updv_ne _ _ (by omega)]; exact h.outLen
  stack := by rw [updv_ne _ _ (by omega)]; exact h.stack
  mem := by rw [updv_same]; exact hv
  code := by rw [updv_ne _ _ (by omega)]; exact h.code
  input := by rw [updv_ne _ _ (by omega)]; exact h.input
  mcap := hcap
  self := h.self.same hs (fun j hj => updv_ne _ _ (by omega))
  caller := h.caller.same hc (fun j hj => updv_ne _ _ (by omega))
theorem YX.hsF (h : YX kk O TM TL w Y F q n tF c d W start st f) : ∀ b, ¬ O b → ¬ b = F := fun _ hb e => hb (e ▸ h.oF)
theorem YX.hsY (h : YX kk O TM TL w Y F q n tF c d W start st f) : ∀ b, ¬ O b → ¬ b = Y := fun _ hb e => hb (e ▸ h.oY)
theorem YX.fcF (h : YX kk O TM TL w Y F q n tF c d W start st f) (m : Mod (· = F) w w') : YFC O TM w' d q f := h.fc.keep m h.hsF (fun b hb => (h.tm b hb).2.2)
theorem YX.fcY (h : YX kk O TM TL w Y F q n tF c d W start st f) (m : Mod (· = Y) w w') : YFC O TM w' d q f := h.fc.keep m h.hsY (fun b hb => (h.tm b hb).2.1)
theorem YX.putPc (h : YX kk O TM TL w Y F q n tF c d W start st f) {v : Value} {x : Nat} (hv : NV O w v x) (m : Mod (· = F) w w') (hB : Blk w' F n tF (updv d (q + 3) v)) (hok : FOK { f with pc := x }) : YX kk O TM TL w' Y F q n tF c (updv d (q + 3) v) W start st { f with pc := x } :=
  h.keepF m hB ((h.fcF m).setPc h.ok.self h.ok.caller (hv.keep m h.hsF)) hok
theorem YX.putGas (h : YX kk O TM TL w Y F q n tF c d W start st f) {v : Value} {x : Nat} (hv : NV O w v x) (m : Mod (· = F) w w') (hB : Blk w' F n tF (updv d (q + 4) v)) (hok : FOK { f with gas := x }) : YX kk O TM TL w' Y F q n tF c (updv d (q + 4) v) W start st { f with gas := x } :=
  h.keepF m hB ((h.fcF m).setGas h.ok.self h.ok.caller (hv.keep m h.hsF)) hok
theorem YX.putOutOff (h : YX kk O TM TL w Y F q n tF c d W start st f) {v : Value} {x : Nat} (hv : NV O w v x) (m : Mod (· = F) w w') (hB : Blk w' F n tF (updv d (q + 6) v)) (hok : FOK { f with outOff := x }) : YX kk O TM TL w' Y F q n tF c (updv d (q + 6) v) W start st { f with outOff := x } :=
  h.keepF m hB ((h.fcF m).setOutOff h.ok.self h.ok.caller (hv.keep m h.hsF)) hok
theorem YX.putOutLen (h : YX kk O TM TL w Y F q n tF c d W start st f) {v : Value} {x : Nat} (hv : NV O w v x) (m : Mod (· = F) w w') (hB : Blk w' F n tF (updv d (q + 7) v)) (hok : FOK { f with outLen := x }) : YX kk O TM TL w' Y F q n tF c (updv d (q + 7) v) W start st { f with outLen := x } :=
  h.keepF m hB ((h.fcF m).setOutLen h.ok.self h.ok.caller (hv.keep m h.hsF)) hok
theorem YX.putStack (h : YX kk O TM TL w Y F q n tF c d W start st f) {v : Value} {l : List Nat} (hv : NumS O w v l.reverse) (m : Mod (· = F) w w') (hB : Blk w' F n tF (updv d (q + 8) v)) (hok : FOK { f with stack := l }) : YX kk O TM TL w' Y F q n tF c (updv d (q + 8) v) W start st { f with stack := l } :=
  h.keepF m hB ((h.fcF m).setStack h.ok.self h.ok.caller (NumS.keep hv m h.hsF)) hok
end
end Go.Proofs.YgvahwGreat
