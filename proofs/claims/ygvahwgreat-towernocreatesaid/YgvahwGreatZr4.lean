import Derived.Test.YgvahwGreatZr1
import Derived.Test.YgvahwGreatZr2
import Derived.Test.YgvahwGreatZr3
import Derived.Test.YgvahwGreatZp
namespace Go.Proofs.YgvahwGreat
open Go.RowKit
set_option linter.unusedVariables false
set_option maxRecDepth 4000
theorem opcodes (o : Nat) (ho : o < 256) (hf : famA o ≠ 0) : o ∈ ([0, 1, 2, 3, 4, 5, 6, 7, 8, 9, 10, 11, 16, 17, 18, 19, 20, 21, 22, 23, 24, 25, 26, 27, 28, 29, 32, 48, 49, 50, 51, 52, 53, 54, 55, 56, 57, 58, 59, 60, 61, 62, 63, 64, 65, 66, 67, 68, 69, 70, 71, 72, 80, 81, 82, 83, 84, 85, 86, 87, 88, 89, 90, 91, 92, 93, 94, 95, 96, 97, 98, 99, 100, 101, 102, 103, 104, 105, 106, 107, 108, 109, 110, 111, 112, 113, 114, 115, 116, 117, 118, 119, 120, 121, 122, 123, 124, 125, 126, 127, 240, 241, 242, 243, 244, 245, 250, 253, 255] : List Nat) ∨ (128 ≤ o ∧ o ≤ 143) ∨ (144 ≤ o ∧ o ≤ 159) ∨ (160 ≤ o ∧ o ≤ 164) :=
  (show ∀ q : Fin 256, famA q.1 ≠ 0 → q.1 ∈ ([0, 1, 2, 3, 4, 5, 6, 7, 8, 9, 10, 11, 16, 17, 18, 19, 20, 21, 22, 23, 24, 25, 26, 27, 28, 29, 32, 48, 49, 50, 51, 52, 53, 54, 55, 56, 57, 58, 59, 60, 61, 62, 63, 64, 65, 66, 67, 68, 69, 70, 71, 72, 80, 81, 82, 83, 84, 85, 86, 87, 88, 89, 90, 91, 92, 93, 94, 95, 96, 97, 98, 99, 100, 101, 102, 103, 104, 105, 106, 107, 108, 109, 110, 111, 112, 113, 114, 115, 116, 117, 118, 119, 120, 121, 122, 123, 124, 125, 126, 127, 240, 241, 242, 243, 244, 245, 250, 253, 255] : List Nat) ∨ (128 ≤ q.1 ∧ q.1 ≤ 143) ∨ (144 ≤ q.1 ∧ q.1 ≤ 159) ∨ (160 ≤ q.1 ∧ q.1 ≤ 164) by decide +kernel) ⟨o, ho⟩ hf
/-- What comes in is not longer than a memory. -/
def InLe (l : List AFrame) : Prop := ∀ f ∈ l, f.input.length ≤ 717280
theorem leave_in (st : ASt) (f : AFrame) (rest : List AFrame) (s : Nat) (out : List Nat) (h : InLe rest) : InLe (st.leave f rest s out).frames := by
  unfold ASt.leave
  cases rest with
  | nil => intro p hp; simp at hp
  | cons p rest =>
    intro y hy
    simp only [List.mem_cons] at hy
    rcases hy with rfl | hy
    · exact h p (by simp)
    · exact h y (by simp [hy])
theorem plain_in (st : ASt) (f : AFrame) (rest : List AFrame) (o : Nat) (h : InLe (f :: rest)) : InLe (st.plain f rest o).frames := by
  have hr : ∀ y ∈ rest, y.input.length ≤ 717280 := fun y hy => h y (by simp [hy])
  have hf := h f (by simp)
  unfold ASt.plain
  split
  · intro y hy
    simp only [List.mem_cons] at hy
    rcases hy with rfl | hy
    · exact hf
    · exact hr y hy
  split
  · intro y hy
    simp only [List.mem_cons] at hy
    rcases hy with rfl | hy
    · exact hf
    · exact hr y hy
  split
  · intro y hy
    simp only [List.mem_cons] at hy
    rcases hy with rfl | hy
    · exact hf
    · exact hr y hy
  split
  · intro y hy
    simp only [List.mem_cons] at hy
    rcases hy with rfl | hy
    · exact hf
    · exact hr y hy
  · intro y hy
    simp only [List.mem_cons] at hy
    rcases hy with rfl | hy
    · exact hf
    · exact hr y hy
theorem call_in (st : ASt) (f : AFrame) (rest : List AFrame) (o : Nat) (h : InLe (f :: rest)) (ha : f.arg (takesA o - 4 + 1) ≤ 717280) : InLe (st.enterCall f rest o).frames := by
  have hr : ∀ y ∈ rest, y.input.length ≤ 717280 := fun y hy => h y (by simp [hy])
  have hf := h f (by simp)
  by_cases hc : 6 ≤ rest.length ∨ st.now.bal f.self < callV f o
  · rw [enterCall_poor o hc]
    intro y hy
    simp only [List.mem_cons] at hy
    rcases hy with rfl | hy
    · exact hf
    · exact hr y hy
  · rw [enterCall_go o hc]
    intro y hy
    rcases List.mem_cons.1 hy with rfl | hy
    · show (readA f.mem (f.arg (takesA o - 4)) (f.arg (takesA o - 4 + 1))).length ≤ _
      rw [readA_lenm]; exact ha
    rcases List.mem_cons.1 hy with rfl | hy
    · exact hf
    · exact hr y hy
theorem create_in (st : ASt) (f : AFrame) (rest : List AFrame) (o : Nat) (h : InLe (f :: rest)) : InLe (st.enterCreate f rest o).frames := by
  have hr : ∀ y ∈ rest, y.input.length ≤ 717280 := fun y hy => h y (by simp [hy])
  have hf := h f (by simp)
  by_cases hc : 6 ≤ rest.length ∨ st.now.bal f.self < f.arg 0 ∨ 18446744073709551615 ≤ st.now.nonce f.self
  · rw [enterCreate_poor o hc]
    intro y hy
    rcases List.mem_cons.1 hy with rfl | hy
    · exact hf
    · exact hr y hy
  · by_cases ht : (makeNow st.now f o).nonce (makeS f o (st.now.nonce f.self)) ≠ 0 ∨ (makeNow st.now f o).code (makeS f o (st.now.nonce f.self)) ≠ []
    · rw [enterCreate_taken o hc ht]
      intro y hy
      rcases List.mem_cons.1 hy with rfl | hy
      · exact hf
      · exact hr y hy
    · rw [enterCreate_go o hc ht]
      intro y hy
      rcases List.mem_cons.1 hy with rfl | hy
      · exact Nat.zero_le _
      rcases List.mem_cons.1 hy with rfl | hy
      · exact hf
      · exact hr y hy
theorem InLe.step {T B : Nat} {st : ASt} (h : InLe st.frames) (hA : AInv T B st) : InLe st.step.frames := by
  cases hfr : st.frames with
  | nil => unfold ASt.step; rw [hfr]; simp only; rw [hfr]; intro y hy; cases hy
  | cons f rest =>
  have e : st.step = st.stepF f rest := by unfold ASt.step; rw [hfr]
  rw [e]
  rw [hfr] at h
  have hr : InLe rest := fun y hy => h y (by simp [hy])
  have hfi := h f (by simp)
  have hg := hA.gas
  rw [hfr, gsum_cons, msum_cons] at hg
  have hB := hA.hB
  have hok := hA.ok f (by rw [hfr]; simp)
  by_cases hpre : f.pre = 0
  · by_cases hrf : st.refusal f f.opcode = 0
    · have hq := refusal_zero hrf
      have hp := hok.paid hq.2.2.2.1 (by omega)
      have hin : InLe (st.paidF f f.opcode :: rest) := fun y hy => by
        rcases List.mem_cons.1 hy with rfl | hy
        · exact hfi
        · exact hr y hy
      rw [stepF_go hpre hrf]
      split
      · exact leave_in _ _ _ _ _ hr
      split
      · exact leave_in _ _ _ _ _ hr
      split
      · exact leave_in _ _ _ _ _ hr
      split
      · unfold ASt.destroys; exact leave_in _ _ _ _ _ hr
      split
      · exact create_in _ _ _ _ hin
      split
      · rename_i q1 q2 q3 q4 q5 q6
        refine call_in _ _ _ _ hin ?_
        have ho : f.opcode = 241 ∨ f.opcode = 242 ∨ f.opcode = 244 ∨ f.opcode = 250 := by
          by_cases h256 : f.opcode < 256
          · rcases (show ∀ q : Fin 256, famA q.1 = 16 → q.1 = 240 ∨ q.1 = 245 ∨ q.1 = 255 ∨ q.1 = 241 ∨ q.1 = 242 ∨ q.1 = 244 ∨ q.1 = 250 by decide +kernel) ⟨_, h256⟩ q6 with q | q | q | q
            · exact absurd (Or.inl q) q5
            · exact absurd (Or.inr q) q5
            · exact absurd q q4
            · exact q
          · exfalso
            unfold famA at q6
            (repeat' split at q6) <;> omega
        have hre := hp.2.1
        show f.arg (takesA f.opcode - 4 + 1) ≤ 717280
        have key : ∀ a b c d : Nat, max (endA a b) (endA c d) ≤ 717280 → b ≤ 717280 := fun a b c d hh => by
          have h1 : endA a b ≤ 717280 := by omega
          unfold endA at h1
          split at h1 <;> omega
        rcases ho with q | q | q | q
        · rw [q] at hre ⊢; unfold AFrame.reach at hre; simp at hre; exact key (f.arg 3) (f.arg 4) (f.arg 5) (f.arg 6) (by omega)
        · rw [q] at hre ⊢; unfold AFrame.reach at hre; simp at hre; exact key (f.arg 3) (f.arg 4) (f.arg 5) (f.arg 6) (by omega)
        · rw [q] at hre ⊢; unfold AFrame.reach at hre; simp at hre; exact key (f.arg 2) (f.arg 3) (f.arg 4) (f.arg 5) (by omega)
        · rw [q] at hre ⊢; unfold AFrame.reach at hre; simp at hre; exact key (f.arg 2) (f.arg 3) (f.arg 4) (f.arg 5) (by omega)
      · exact plain_in _ _ _ _ hin
    · rw [stepF_ref hpre hrf]; exact leave_in _ _ _ _ _ hr
  · unfold ASt.stepF
    rw [if_pos hpre]
    split
    · exact leave_in _ _ _ _ _ hr
    · split
      · exact leave_in _ _ _ _ _ hr
      · exact leave_in _ _ _ _ _ hr
section
variable {K T B : Nat} {O TL : Nat → Prop} {w : World} {Y F n : Nat} {c d : Nat → Value} {W : YW} {start : List (Nat × Nat × Nat)} {st : ASt} {tot : Nat} {x : YFrm} {r : List YFrm}
/-- One step of the specification. -/
theorem zrStep (HLG : ∀ {O T : Nat → Prop} {w : World} {v : Value} {l : List ALog}, Small O w → LogL T O w v l → l.length ≤ 100000 → Calls Hvah.prog 80 #[v] w fun e w' => ∃ r, e = .returned r ∧ GRow 141 22 (LgC O w') (fun b => ¬ O b) w' r l ∧ Full r ∧ Ext w w') (HCA : ∀ {O : Nat → Prop} {w : World} {cr n : Nat} {vs : Value}, cr < 2 ^ 160 → Small O w → NV O w vs n → n < 18446744073709551616 → Calls Hvah.prog 54 #[.agg (av cr), vs] w fun e w' => e = .returned (.agg (av (createAddrA cr n))) ∧ Ext w w') (HC2 : ∀ {O O' : Nat → Prop} {w : World} {cr salt : Nat} {vs v : Value} {init : List Nat}, cr < 2 ^ 160 → NV O w vs salt → salt < P256 → NL O' w v init → init.length ≤ 1000000 → Calls Hvah.prog 234 #[.agg (av cr), vs, v] w fun e w' => e = .returned (.agg (av (create2AddrA cr salt init))) ∧ Ext w w') (HK : KSum) (h : ZrP K T B O TL w Y F n c d W start st tot x r) (hin : x.f.input.length ≤ 717280) : Calls Hvah.prog 30 #[.pointer (some ⟨Y, 0, none⟩)] w fun e w' => e = .returned (.bool true) ∧ YRn K O w w' Y start (st.stepF x.f (r.map (·.f))) tot := by
  by_cases hpre : x.f.pre = 0
  · by_cases hr : st.refusal x.f x.f.opcode = 0
    · rcases opcodes _ h.opLt (refusal_zero hr).1 with hm | q | q | q
      simp only [List.mem_cons, List.not_mem_nil, or_false] at hm
      rcases hm with q | q | q | q | q | q | q | q | q | q | q | q | q | q | q | q | q | q | q | q | q | q | q | q | q | q | q | q | q | q | q | q | q | q | q | q | q | q | q | q | q | q | q | q | q | q | q | q | q | q | q | q | q | q | q | q | q | q | q | q | q | q | q | q | q | q | q | q | q | q | q | q | q | q | q | q | q | q | q | q | q | q | q | q | q | q | q | q | q | q | q | q | q | q | q | q | q | q | q | q | q | q | q | q | q | q | q | q | q
      · exact zrStop h hpre q hr
      · exact zr_1 h hpre q hr
      · exact zr_2 h hpre q hr
      · exact zr_3 h hpre q hr
      · exact zr_4 h hpre q hr
      · exact zr_5 h hpre q hr
      · exact zr_6 h hpre q hr
      · exact zr_7 h hpre q hr
      · exact zr_8 h hpre q hr
      · exact zr_9 h hpre q hr
      · exact zr_10 h hpre q hr
      · exact zr_11 h hpre q hr
      · exact zr_16 h hpre q hr
      · exact zr_17 h hpre q hr
      · exact zr_18 h hpre q hr
      · exact zr_19 h hpre q hr
      · exact zr_20 h hpre q hr
      · exact zr_21 h hpre q hr
      · exact zr_22 h hpre q hr
      · exact zr_23 h hpre q hr
      · exact zr_24 h hpre q hr
      · exact zr_25 h hpre q hr
      · exact zr_26 h hpre q hr
      · exact zr_27 h hpre q hr
      · exact zr_28 h hpre q hr
      · exact zr_29 h hpre q hr
      · exact zr_32 h hpre q hr HK
      · exact zr_48 h hpre q hr
      · exact zr_49 h hpre q hr
      · exact zr_50 h hpre q hr
      · exact zr_51 h hpre q hr
      · exact zr_52 h hpre q hr
      · exact zr_53 h hpre q hr
      · exact zr_54 h hpre q hr
      · exact zr_55 h hpre q hr
      · exact zr_56 h hpre q hr
      · exact zr_57 h hpre q hr
      · exact zr_58 h hpre q hr
      · exact zr_59 h hpre q hr
      · exact zr_60 h hpre q hr
      · exact zr_61 h hpre q hr
      · exact zr_62 h hpre q hr
      · exact zr_63 h hpre q hr HK
      · exact zr_64 h hpre q hr
      · exact zr_65 h hpre q hr
      · exact zr_66 h hpre q hr
      · exact zr_67 h hpre q hr
      · exact zr_68 h hpre q hr
      · exact zr_69 h hpre q hr
      · exact zr_70 h hpre q hr
      · exact zr_71 h hpre q hr
      · exact zr_72 h hpre q hr
      · exact zr_80 h hpre q hr
      · exact zr_81 h hpre q hr
      · exact zr_82 h hpre q hr
      · exact zr_83 h hpre q hr
      · exact zr_84 h hpre q hr
      · exact zr_85 h hpre q hr
      · exact zr_86 h hpre q hr
      · exact zr_87 h hpre q hr
      · exact zr_88 h hpre q hr
      · exact zr_89 h hpre q hr
      · exact zr_90 h hpre q hr
      · exact zr_91 h hpre q hr
      · exact zr_92 h hpre q hr
      · exact zr_93 h hpre q hr
      · exact zr_94 h hpre q hr
      · exact zr_95 h hpre q hr
      · exact zr_96 h hpre q hr
      · exact zr_97 h hpre q hr
      · exact zr_98 h hpre q hr
      · exact zr_99 h hpre q hr
      · exact zr_100 h hpre q hr
      · exact zr_101 h hpre q hr
      · exact zr_102 h hpre q hr
      · exact zr_103 h hpre q hr
      · exact zr_104 h hpre q hr
      · exact zr_105 h hpre q hr
      · exact zr_106 h hpre q hr
      · exact zr_107 h hpre q hr
      · exact zr_108 h hpre q hr
      · exact zr_109 h hpre q hr
      · exact zr_110 h hpre q hr
      · exact zr_111 h hpre q hr
      · exact zr_112 h hpre q hr
      · exact zr_113 h hpre q hr
      · exact zr_114 h hpre q hr
      · exact zr_115 h hpre q hr
      · exact zr_116 h hpre q hr
      · exact zr_117 h hpre q hr
      · exact zr_118 h hpre q hr
      · exact zr_119 h hpre q hr
      · exact zr_120 h hpre q hr
      · exact zr_121 h hpre q hr
      · exact zr_122 h hpre q hr
      · exact zr_123 h hpre q hr
      · exact zr_124 h hpre q hr
      · exact zr_125 h hpre q hr
      · exact zr_126 h hpre q hr
      · exact zr_127 h hpre q hr
      · exact zr_240 HLG HCA h hpre q hr
      · exact zr_241 HLG h hpre q hr
      · exact zr_242 HLG h hpre q hr
      · exact zrRet243 h hpre q hr
      · exact zr_244 HLG h hpre q hr
      · exact zr_245 HLG HCA HC2 h hpre q hr
      · exact zr_250 HLG h hpre q hr
      · exact zrRet253 h hpre q hr
      · exact zrDestroys h hpre q hr
      · exact zrDup _ q.1 q.2 h hpre rfl hr
      · exact zrSwap _ q.1 q.2 h hpre rfl hr
      · exact zrLog (x.f.opcode - 160) (by omega) h hpre (by omega) hr
    · exact zrRefused h hpre hr
  · exact zrNat h hpre hin
end
end Go.Proofs.YgvahwGreat
