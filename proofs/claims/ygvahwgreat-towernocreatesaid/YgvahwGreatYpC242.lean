import Derived.Test.YgvahwGreatYp0
import Derived.Test.YgvahwGreatYm242
namespace Go.Proofs.YgvahwGreat
open Go.RowKit
set_option linter.unusedSimpArgs false
set_option linter.unusedVariables false
section
variable {O TL : Nat → Prop} {w : World} {Y F n : Nat} {c d : Nat → Value} {W : YW} {start : List (Nat × Nat × Nat)} {st : ASt} {tot : Nat} {x : YFrm} {r : List YFrm}
theorem zCall242 (HLG : ∀ {O T : Nat → Prop} {w : World} {v : Value} {l : List ALog}, Small O w → LogL T O w v l → l.length ≤ 100000 → Calls Hvah.prog 80 #[v] w fun e w' => ∃ r, e = .returned r ∧ GRow 141 22 (LgC O w') (fun b => ¬ O b) w' r l ∧ Full r ∧ Ext w w') (h : YZ O TL w Y F n c d W start st tot (x :: r)) (hret : st.ret = []) (hT : 7 ≤ x.f.stack.length) (hl : YLim (W.warm (addrA (x.f.arg 1)))) (hrd : x.f.arg 4 ≤ 717280) (hokP : FOK (({ x.f with gas := x.f.gas - sentA x.f.gas (x.f.arg 0) + callG x.f 242 }).settle 7 [0] 1)) (hokG : FOK (callP x.f 242)) (hokC : ¬ (6 ≤ r.length ∨ (W.acct x.f.self).bal < callV x.f 242) → FOK (callC (st.now.warm (addrA (x.f.arg 1))) x.f 242 (W.acct (addrA (x.f.arg 1))).code)) (hsl : ∀ y ∈ (W.warm (addrA (x.f.arg 1))).accts, y.slots.length ≤ 90000)  :
    Calls Hvah.prog 159 #[.pointer (some ⟨Y, 0, none⟩), .pointer (some ⟨F, r.length * 60, none⟩), .int .u8 (242 : Nat)] w fun e w' => e = .returned (.tuple #[]) ∧ YNx O w w' Y (if (6 ≤ r.length ∨ (W.acct x.f.self).bal < callV x.f 242) then (W.warm (addrA (x.f.arg 1))) else (W.warm (addrA (x.f.arg 1)))) start (st.enterCall x.f (r.map (·.f)) 242) tot (fun v => v = (W.warm (addrA (x.f.arg 1))) ∨ ∃ z ∈ x :: r, v = z.sv) := by
  obtain ⟨cap, hc9⟩ := zFr9 h
  have hfew : r.length ≤ 6 := by have := h.few; simp at this; omega
  have hlm : (r.map (·.f)).length = r.length := by simp
  have hbal : st.now.bal x.f.self = (W.acct x.f.self).bal := by rw [h.now]; rfl
  have hcod : st.now.code (addrA (x.f.arg 1)) = (W.acct (addrA (x.f.arg 1))).code := by rw [h.now]; rfl
  have hab : st.now.warm (addrA (x.f.arg 1)) = (W.warm (addrA (x.f.arg 1))).abs := by rw [YW.warm_abs, h.now]
  refine xEnterCall242 h.top r.length hfew hc9 hT hl hrd hokP hokG (R := fun e w' => YNx O w w' Y (if (6 ≤ r.length ∨ (W.acct x.f.self).bal < callV x.f 242) then (W.warm (addrA (x.f.arg 1))) else (W.warm (addrA (x.f.arg 1)))) start (st.enterCall x.f (r.map (·.f)) 242) tot (fun v => v = (W.warm (addrA (x.f.arg 1))) ∨ ∃ z ∈ x :: r, v = z.sv)) ?_ ?_
  · intro B W1 c1 d1 hB hX m hd hc
    obtain ⟨hz, hO, hM⟩ := zBackC h hB hX hab (YW.warm_wf h.wf _) m hd rfl
    rw [if_pos hc, enterCall_poor 242 (by rw [hlm, hbal]; exact hc)]
    rw [ret_nil hret] at hz
    exact ynxBack hz hO hM (fun z hz => Or.inr ⟨z, hz, rfl⟩)
  · intro B W1 c1 d1 fr hB hX m hd hc hsz hones hf
    obtain ⟨hz, hO, hM⟩ := zBackC h hB hX hab (YW.warm_wf h.wf _) m hd rfl
    rw [if_neg hc, enterCall_go 242 (by rw [hlm, hbal]; exact hc), hcod]
    have hfl : (⟨callP x.f 242, x.sv, x.TM⟩ :: r : List YFrm).length < 7 := by
      have : ¬ 6 ≤ r.length := fun q => hc (Or.inl q)
      simp; omega
    refine (zEnter7 HLG hz fr hsz hones _ rfl hf (hokC hc) hsl hfl ).mono ?_
    rintro e w2 ⟨rfl, hE⟩
    exact ⟨rfl, ynxEnt hz hO hM hE (Or.inl rfl) (fun z hz => Or.inr ⟨z, hz, rfl⟩) h.oY h.oF⟩
end
end Go.Proofs.YgvahwGreat
