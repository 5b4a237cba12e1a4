import Derived.Test.YgvahwGreatOnxF7
import Derived.Test.YgvahwGreatOnxFG
import Derived.Test.YgvahwGreatOnxKG
import Derived.Test.YgvahwGreatOnxFR
import Derived.Test.YgvahwGreatOnxFO0
import Derived.Test.YgvahwGreatOnxFO1
import Derived.Test.YgvahwGreatOnxK0
import Derived.Test.YgvahwGreatOnxK1
import Derived.Test.YgvahwGreatOn240F7
import Derived.Test.YgvahwGreatOn240F9
import Derived.Test.YgvahwGreatOn240FR
import Derived.Test.YgvahwGreatOn240FO0
import Derived.Test.YgvahwGreatOn240FO1
import Derived.Test.YgvahwGreatOn240K0
import Derived.Test.YgvahwGreatOn240K1
import Derived.Test.YgvahwGreatOn245F7
import Derived.Test.YgvahwGreatOn245F9
import Derived.Test.YgvahwGreatOn245FR
import Derived.Test.YgvahwGreatOn245FO0
import Derived.Test.YgvahwGreatOn245FO1
import Derived.Test.YgvahwGreatOn245K0
import Derived.Test.YgvahwGreatOn245K1
import Derived.Test.YgvahwGreatOn62F8
import Derived.Test.YgvahwGreatOn62FR
import Derived.Test.YgvahwGreatOn62FO0
import Derived.Test.YgvahwGreatOn62FO1
import Derived.Test.YgvahwGreatOn62K0
import Derived.Test.YgvahwGreatOn62K1
import Derived.Test.YgvahwGreatOn85F7
import Derived.Test.YgvahwGreatOn85FO0
import Derived.Test.YgvahwGreatOn85FS0
import Derived.Test.YgvahwGreatOn85K0
import Derived.Test.YgvahwGreatOn86FO0
import Derived.Test.YgvahwGreatOn86FJ0
import Derived.Test.YgvahwGreatOn86K0
import Derived.Test.YgvahwGreatOn87FO0
import Derived.Test.YgvahwGreatOn87FJ0
import Derived.Test.YgvahwGreatOn87K0z
import Derived.Test.YgvahwGreatOn87K0
import Derived.Test.YgvahwGreatOp
namespace Go.Proofs.YgvahwGreat
open Go.RowKit
set_option linter.unusedVariables false
set_option linter.unusedSimpArgs false
/-- The checks from the fourth on. -/
def ASt.refusal4 (st : ASt) (f : AFrame) (o : Nat) : Nat :=
  if f.static && f.writes o then 7
  else if (o = 240 ∨ o = 245) ∧ 512 < f.arg 2 then 9
  else if o = 62 ∧ st.ret.length < f.arg 1 + f.arg 2 then 8
  else if f.gas < st.cost f o then 2
  else if o = 85 ∧ f.gas ≤ 2300 then 2
  else if (o = 86 ∨ (o = 87 ∧ f.arg 1 ≠ 0)) ∧ isDestA f.code (f.arg 0) = false then 6
  else 0
section
variable {own : Nat → Nat} {w : World} {g : Nat} {c : Nat → Value} {V : EV} {st : ASt} {sn stale : List Nat} {s : Nat} {f : AFrame} {rest : List AFrame}
theorem flat_free {o : Nat} (hfl : (o < 32 ∧ o ≠ 10) ∨ (95 ≤ o ∧ o ≤ 159) ∨ (88 ≤ o ∧ o ≤ 91)) : dynA st f o = 0 ∧ f.reach o = 0 := by
  constructor
  · unfold dynA; (repeat rw [if_neg (by omega)])
  · unfold AFrame.reach; (repeat rw [if_neg (by omega)])
theorem words0 : wordsA 0 = 0 := by decide
/-- What Pass answers. -/
def PassOut (own : Nat → Nat) (w : World) (g : Nat) (V : EV) (st : ASt) (s : Nat) (sn stale : List Nat) (f : AFrame) (rest : List AFrame) (o : Nat) (e : Ending) (w' : World) : Prop :=
  (st.refusal4 f o ≠ 0 ∧ e = .returned (.bool false) ∧ ∃ own' c', MRep own' w' g c' (V.ends s f (st.refusal4 f o) []) (st.leave f rest (st.refusal4 f o) []) sn (f.mem ++ stale) ∧ MStep own w own' w') ∨ (st.refusal4 f o = 0 ∧ e = .returned (.bool true) ∧ ∃ own' c' stale', MRep own' w' g c' V { st with frames := { f with gas := f.gas - st.cost f o, mem := growA f.mem (f.reach o) } :: rest } (s :: sn) stale' ∧ MStep own w own' w')
theorem mPass (h : MRep own w g c V st (s :: sn) stale) (hst : st.frames = f :: rest) (hph : st.phase = 1) (hr : Room V 2) (hp : ∀ p r, rest = p :: r → p.gas + f.gas ≤ 1048576 ∧ p.stack.length < 64 ∧ p.pc ≤ 50000) (hI : f.gas + memCostA (f.mem.length / 32) ≤ 1048576) (o : Nat) (ho : o < 256) (hk : famA o ≠ 0) :
    Calls Hvah.prog 197 #[.pointer (some ⟨g, 0, none⟩), .int .u8 (o : Nat), .int .u16 (sgasA o : Nat)] w (PassOut own w g V st s sn stale f rest o) := by
  obtain ⟨hfr, hr7⟩ := h.frame hst
  have hml := hfr.ok.mLen
  have HE : ∀ x : Nat, x < 256 → ∀ W, Ext w W → Calls Hvah.prog 194 #[.pointer (some ⟨g, 0, none⟩), .int .u8 (x : Nat)] W fun e w' => e = .returned (.bool false) ∧ ∃ own' c', MRep own' w' g c' (V.ends s f x []) (st.leave f rest x []) sn (f.mem ++ stale) ∧ MStep own w own' w' := fun x hx W hW =>
    mFail x (fun W1 hW1 => (mEnd (h.ext (hW.trans hW1)) hst hph (NL.nil (O := Mu own)) hr x hx hp).mono (fun e w' q => by
      obtain ⟨q1, own', c', q2, q3⟩ := q
      exact ⟨q1, own', c', q2, (MStep.ext (hW.trans hW1)).trans q3⟩))
  have bad : ∀ x : Nat, x ≠ 0 → st.refusal4 f o = x → ∀ (e : Ending) (w' : World), (e = .returned (.bool false) ∧ ∃ own' c', MRep own' w' g c' (V.ends s f x []) (st.leave f rest x []) sn (f.mem ++ stale) ∧ MStep own w own' w') → PassOut own w g V st s sn stale f rest o e w' := fun x hx hs e w' q => by
    refine Or.inl ⟨by rw [hs]; exact hx, q.1, ?_⟩
    rw [hs]; exact q.2
  have hbs := bare_sum (st := st) (f := f) o hk
  have hsg := sgas_le o ho
  by_cases h7 : (f.static && f.writes o) = true
  · have hs : st.refusal4 f o = 7 := by unfold ASt.refusal4; rw [if_pos h7]
    have h71 : f.static = true := by cases q : f.static <;> simp [q] at h7 ⊢
    have h72 : f.writes o = true := by cases q : f.writes o <;> simp [q] at h7 ⊢
    by_cases c240 : o = 240
    · subst c240; exact (mPass240_F7 h hst hph h71 h72 _ (HE 7 (by decide))).mono (bad 7 (by decide) hs)
    by_cases c245 : o = 245
    · subst c245; exact (mPass245_F7 h hst hph h71 h72 _ (HE 7 (by decide))).mono (bad 7 (by decide) hs)
    by_cases c62 : o = 62
    · subst c62; exact absurd h72 (by simp [AFrame.writes])
    by_cases c85 : o = 85
    · subst c85; exact (mPass85_F7 h hst hph h71 h72 _ (HE 7 (by decide))).mono (bad 7 (by decide) hs)
    by_cases c86 : o = 86
    · subst c86; exact absurd h72 (by simp [AFrame.writes])
    by_cases c87 : o = 87
    · subst c87; exact absurd h72 (by simp [AFrame.writes])
    exact (mPassx_F7 h hst hph o ho c240 c245 c62 c85 c86 c87 h71 h72 _ (HE 7 (by decide))).mono (bad 7 (by decide) hs)
  have h7f : (f.static && f.writes o) = false := by simpa using h7
  by_cases h9 : (o = 240 ∨ o = 245) ∧ 512 < f.arg 2
  · have hs : st.refusal4 f o = 9 := by unfold ASt.refusal4; rw [if_neg h7, if_pos h9]
    rcases h9 with ⟨q | q, h9⟩
    · subst q; exact (mPass240_F9 h hst hph h7f h9 _ (HE 9 (by decide))).mono (bad 9 (by decide) hs)
    · subst q; exact (mPass245_F9 h hst hph h7f h9 _ (HE 9 (by decide))).mono (bad 9 (by decide) hs)
  by_cases h8 : o = 62 ∧ st.ret.length < f.arg 1 + f.arg 2
  · have hs : st.refusal4 f o = 8 := by unfold ASt.refusal4; rw [if_neg h7, if_neg h9, if_pos h8]
    obtain ⟨q, h8⟩ := h8
    subst q; exact (mPass62_F8 h hst hph h7f h8 _ (HE 8 (by decide))).mono (bad 8 (by decide) hs)
  by_cases hfl : (o < 32 ∧ o ≠ 10) ∨ (95 ≤ o ∧ o ≤ 159) ∨ (88 ≤ o ∧ o ≤ 91)
  · obtain ⟨fd, fr⟩ := flat_free (st := st) (f := f) hfl
    have hcost : st.cost f o = sgasA o := by
      unfold ASt.cost
      rw [hbs, fd, fr, words0, if_pos (Nat.zero_le _)]; rfl
    have c240 : o ≠ 240 := by omega
    have c245 : o ≠ 245 := by omega
    have c62 : o ≠ 62 := by omega
    have c85 : o ≠ 85 := by omega
    have c86 : o ≠ 86 := by omega
    have c87 : o ≠ 87 := by omega
    by_cases hg : f.gas < sgasA o
    · have hs : st.refusal4 f o = 2 := by unfold ASt.refusal4; rw [if_neg h7, if_neg h9, if_neg h8, hcost, if_pos hg]
      exact (mPassx_FG h hst hph o ho c240 c245 c62 c85 c86 c87 h7f _ hsg (decide_eq_true hfl) hg (HE 2 (by decide))).mono (bad 2 (by decide) hs)
    · have hs : st.refusal4 f o = 0 := by unfold ASt.refusal4; rw [if_neg h7, if_neg h9, if_neg h8, hcost, if_neg hg, if_neg (fun q => c85 q.1), if_neg (fun q => by rcases q.1 with z | z; exact c86 z; exact c87 z.1)]
      refine (mPassx_KG h hst hph o ho c240 c245 c62 c85 c86 c87 h7f _ hsg (decide_eq_true hfl) hg).mono (fun e w' q => Or.inr ⟨hs, q.1, ?_⟩)
      obtain ⟨own', c', stale', q1, q2⟩ := q.2
      refine ⟨own', c', stale', ?_, q2⟩
      rw [hcost, fr, show growA f.mem 0 = f.mem by unfold growA; rw [words0, if_neg (by omega)]]
      exact q1
  have hflf : decide ((o < 32 ∧ o ≠ 10) ∨ (95 ≤ o ∧ o ≤ 159) ∨ (88 ≤ o ∧ o ≤ 91)) = false := decide_eq_false hfl
  by_cases hrc : f.reach o ≤ 717280
  rotate_left
  · have hg := far_cost (st := st) hrc hml hI
    have hs : st.refusal4 f o = 2 := by unfold ASt.refusal4; rw [if_neg h7, if_neg h9, if_neg h8, if_pos hg]
    by_cases c240 : o = 240
    · subst c240; exact (mPass240_FR h hst hph h7f (fun q => h9 ⟨Or.inl rfl, q⟩) _ hsg hrc (HE 2 (by decide))).mono (bad 2 (by decide) hs)
    by_cases c245 : o = 245
    · subst c245; exact (mPass245_FR h hst hph h7f (fun q => h9 ⟨Or.inr rfl, q⟩) _ hsg hrc (HE 2 (by decide))).mono (bad 2 (by decide) hs)
    by_cases c62 : o = 62
    · subst c62; exact (mPass62_FR h hst hph h7f (fun q => h8 ⟨rfl, q⟩) _ hsg hrc (HE 2 (by decide))).mono (bad 2 (by decide) hs)
    have r0 : o = 85 ∨ o = 86 ∨ o = 87 → f.reach o = 0 := fun q => by unfold AFrame.reach; (repeat rw [if_neg (by omega)])
    by_cases c85 : o = 85
    · exact absurd (by rw [r0 (Or.inl c85)]; omega) hrc
    by_cases c86 : o = 86
    · exact absurd (by rw [r0 (Or.inr (Or.inl c86))]; omega) hrc
    by_cases c87 : o = 87
    · exact absurd (by rw [r0 (Or.inr (Or.inr c87))]; omega) hrc
    exact (mPassx_FR h hst hph o ho c240 c245 c62 c85 c86 c87 h7f _ hsg hflf hrc (HE 2 (by decide))).mono (bad 2 (by decide) hs)
  have hlo := lens_ok hrc
  have hdy := dyn_le (st := st) hlo (hfr.ok.argLt 1)
  by_cases hgw : f.mem.length / 32 < wordsA (f.reach o)
  · -- the memory grows
    have hcost : st.cost f o = sgasA o + dynA st f o + (memCostA (wordsA (f.reach o)) - memCostA (f.mem.length / 32)) := by unfold ASt.cost; rw [hbs, if_neg (by omega)]
    have hgrow : growA f.mem (f.reach o) = f.mem ++ List.replicate (32 * wordsA (f.reach o) - f.mem.length) 0 := by unfold growA; rw [if_pos hgw]
    have r0 : o = 85 ∨ o = 86 ∨ o = 87 → False := fun q => by
      have : f.reach o = 0 := by unfold AFrame.reach; (repeat rw [if_neg (by omega)])
      rw [this, words0] at hgw; omega
    have c85 : o ≠ 85 := fun q => r0 (Or.inl q)
    have c86 : o ≠ 86 := fun q => r0 (Or.inr (Or.inl q))
    have c87 : o ≠ 87 := fun q => r0 (Or.inr (Or.inr q))
    by_cases hg : f.gas < st.cost f o
    · have hs : st.refusal4 f o = 2 := by unfold ASt.refusal4; rw [if_neg h7, if_neg h9, if_neg h8, if_pos hg]
      rw [hcost] at hg
      by_cases c240 : o = 240
      · subst c240; exact (mPass240_FO1 h hst hph h7f (fun q => h9 ⟨Or.inl rfl, q⟩) _ hsg hrc hlo hdy hgw hg (HE 2 (by decide))).mono (bad 2 (by decide) hs)
      by_cases c245 : o = 245
      · subst c245; exact (mPass245_FO1 h hst hph h7f (fun q => h9 ⟨Or.inr rfl, q⟩) _ hsg hrc hlo hdy hgw hg (HE 2 (by decide))).mono (bad 2 (by decide) hs)
      by_cases c62 : o = 62
      · subst c62; exact (mPass62_FO1 h hst hph h7f (fun q => h8 ⟨rfl, q⟩) _ hsg hrc hlo hdy hgw hg (HE 2 (by decide))).mono (bad 2 (by decide) hs)
      exact (mPassx_FO1 h hst hph o ho c240 c245 c62 c85 c86 c87 h7f _ hsg hflf hrc hlo hdy hgw hg (HE 2 (by decide))).mono (bad 2 (by decide) hs)
    · have hs : st.refusal4 f o = 0 := by unfold ASt.refusal4; rw [if_neg h7, if_neg h9, if_neg h8, if_neg hg, if_neg (fun q => c85 q.1), if_neg (fun q => by rcases q.1 with z | z; exact c86 z; exact c87 z.1)]
      have good : ∀ (e : Ending) (w' : World), (e = .returned (.bool true) ∧ ∃ own' c' stale', MRep own' w' g c' V { st with frames := { f with gas := f.gas - (sgasA o + dynA st f o + (memCostA (wordsA (f.reach o)) - memCostA (f.mem.length / 32))), mem := f.mem ++ List.replicate (32 * wordsA (f.reach o) - f.mem.length) 0 } :: rest } (s :: sn) stale' ∧ MStep own w own' w') → PassOut own w g V st s sn stale f rest o e w' := fun e w' q => Or.inr ⟨hs, q.1, by rw [hcost, hgrow]; exact q.2⟩
      rw [hcost] at hg
      by_cases c240 : o = 240
      · subst c240; exact (mPass240_K1 h hst hph h7f (fun q => h9 ⟨Or.inl rfl, q⟩) _ hsg hrc hlo hdy hgw hg).mono good
      by_cases c245 : o = 245
      · subst c245; exact (mPass245_K1 h hst hph h7f (fun q => h9 ⟨Or.inr rfl, q⟩) _ hsg hrc hlo hdy hgw hg).mono good
      by_cases c62 : o = 62
      · subst c62; exact (mPass62_K1 h hst hph h7f (fun q => h8 ⟨rfl, q⟩) _ hsg hrc hlo hdy hgw hg).mono good
      exact (mPassx_K1 h hst hph o ho c240 c245 c62 c85 c86 c87 h7f _ hsg hflf hrc hlo hdy hgw hg).mono good
  · have hcost : st.cost f o = sgasA o + dynA st f o := by unfold ASt.cost; rw [hbs, if_pos (by omega)]; rfl
    have hgrow : growA f.mem (f.reach o) = f.mem := by unfold growA; rw [if_neg hgw]
    by_cases hg : f.gas < st.cost f o
    · have hs : st.refusal4 f o = 2 := by unfold ASt.refusal4; rw [if_neg h7, if_neg h9, if_neg h8, if_pos hg]
      rw [hcost] at hg
      by_cases c240 : o = 240
      · subst c240; exact (mPass240_FO0 h hst hph h7f (fun q => h9 ⟨Or.inl rfl, q⟩) _ hsg hrc hlo hdy hgw hg (HE 2 (by decide))).mono (bad 2 (by decide) hs)
      by_cases c245 : o = 245
      · subst c245; exact (mPass245_FO0 h hst hph h7f (fun q => h9 ⟨Or.inr rfl, q⟩) _ hsg hrc hlo hdy hgw hg (HE 2 (by decide))).mono (bad 2 (by decide) hs)
      by_cases c62 : o = 62
      · subst c62; exact (mPass62_FO0 h hst hph h7f (fun q => h8 ⟨rfl, q⟩) _ hsg hrc hlo hdy hgw hg (HE 2 (by decide))).mono (bad 2 (by decide) hs)
      by_cases c85 : o = 85
      · subst c85; exact (mPass85_FO0 h hst hph h7f _ hsg hrc hlo hdy hgw hg (HE 2 (by decide))).mono (bad 2 (by decide) hs)
      by_cases c86 : o = 86
      · subst c86; exact (mPass86_FO0 h hst hph h7f _ hsg hrc hlo hdy hgw hg (HE 2 (by decide))).mono (bad 2 (by decide) hs)
      by_cases c87 : o = 87
      · subst c87; exact (mPass87_FO0 h hst hph h7f _ hsg hrc hlo hdy hgw hg (HE 2 (by decide))).mono (bad 2 (by decide) hs)
      exact (mPassx_FO0 h hst hph o ho c240 c245 c62 c85 c86 c87 h7f _ hsg hflf hrc hlo hdy hgw hg (HE 2 (by decide))).mono (bad 2 (by decide) hs)
    · have good : st.refusal4 f o = 0 → ∀ (e : Ending) (w' : World), (e = .returned (.bool true) ∧ ∃ own' c' stale', MRep own' w' g c' V { st with frames := { f with gas := f.gas - (sgasA o + dynA st f o) } :: rest } (s :: sn) stale' ∧ MStep own w own' w') → PassOut own w g V st s sn stale f rest o e w' := fun hs e w' q => Or.inr ⟨hs, q.1, by rw [hcost, hgrow]; exact q.2⟩
      have hg0 := hg
      rw [hcost] at hg
      by_cases c240 : o = 240
      · subst c240
        have hs : st.refusal4 f 240 = 0 := by unfold ASt.refusal4; rw [if_neg h7, if_neg h9, if_neg h8, if_neg hg0]; simp
        exact (mPass240_K0 h hst hph h7f (fun q => h9 ⟨Or.inl rfl, q⟩) _ hsg hrc hlo hdy hgw hg).mono (good hs)
      by_cases c245 : o = 245
      · subst c245
        have hs : st.refusal4 f 245 = 0 := by unfold ASt.refusal4; rw [if_neg h7, if_neg h9, if_neg h8, if_neg hg0]; simp
        exact (mPass245_K0 h hst hph h7f (fun q => h9 ⟨Or.inr rfl, q⟩) _ hsg hrc hlo hdy hgw hg).mono (good hs)
      by_cases c62 : o = 62
      · subst c62
        have hs : st.refusal4 f 62 = 0 := by unfold ASt.refusal4; rw [if_neg h7, if_neg h9, if_neg h8, if_neg hg0]; simp
        exact (mPass62_K0 h hst hph h7f (fun q => h8 ⟨rfl, q⟩) _ hsg hrc hlo hdy hgw hg).mono (good hs)
      by_cases c85 : o = 85
      · subst c85
        by_cases h23 : f.gas ≤ 2300
        · have hs : st.refusal4 f 85 = 2 := by unfold ASt.refusal4; rw [if_neg h7, if_neg h9, if_neg h8, if_neg hg0, if_pos ⟨rfl, h23⟩]
          exact (mPass85_FS0 h hst hph h7f _ hsg hrc hlo hdy hgw hg h23 (HE 2 (by decide))).mono (bad 2 (by decide) hs)
        · have hs : st.refusal4 f 85 = 0 := by unfold ASt.refusal4; rw [if_neg h7, if_neg h9, if_neg h8, if_neg hg0, if_neg (fun q => h23 q.2)]; simp
          exact (mPass85_K0 h hst hph h7f _ hsg hrc hlo hdy hgw hg h23).mono (good hs)
      by_cases c86 : o = 86
      · subst c86
        cases hgd : isDestA f.code (f.arg 0) with
        | false =>
          have hs : st.refusal4 f 86 = 6 := by unfold ASt.refusal4; rw [if_neg h7, if_neg h9, if_neg h8, if_neg hg0, if_neg (by simp), if_pos ⟨Or.inl rfl, hgd⟩]
          exact (mPass86_FJ0 h hst hph h7f _ hsg hrc hlo hdy hgw hg hgd (HE 6 (by decide))).mono (bad 6 (by decide) hs)
        | true =>
          have hs : st.refusal4 f 86 = 0 := by unfold ASt.refusal4; rw [if_neg h7, if_neg h9, if_neg h8, if_neg hg0, if_neg (by simp), if_neg (by simp [hgd])]
          exact (mPass86_K0 h hst hph h7f _ hsg hrc hlo hdy hgw hg hgd).mono (good hs)
      by_cases c87 : o = 87
      · subst c87
        by_cases hz : f.arg 1 = 0
        · have hs : st.refusal4 f 87 = 0 := by unfold ASt.refusal4; rw [if_neg h7, if_neg h9, if_neg h8, if_neg hg0, if_neg (by simp), if_neg (by simp [hz])]
          exact (mPass87_K0z h hst hph h7f _ hsg hrc hlo hdy hgw hg hz).mono (good hs)
        · cases hgd : isDestA f.code (f.arg 0) with
          | false =>
            have hs : st.refusal4 f 87 = 6 := by unfold ASt.refusal4; rw [if_neg h7, if_neg h9, if_neg h8, if_neg hg0, if_neg (by simp), if_pos ⟨Or.inr ⟨rfl, hz⟩, hgd⟩]
            exact (mPass87_FJ0 h hst hph h7f _ hsg hrc hlo hdy hgw hg hz hgd (HE 6 (by decide))).mono (bad 6 (by decide) hs)
          | true =>
            have hs : st.refusal4 f 87 = 0 := by unfold ASt.refusal4; rw [if_neg h7, if_neg h9, if_neg h8, if_neg hg0, if_neg (by simp), if_neg (by simp [hgd])]
            exact (mPass87_K0 h hst hph h7f _ hsg hrc hlo hdy hgw hg hz hgd).mono (good hs)
      have hs : st.refusal4 f o = 0 := by unfold ASt.refusal4; rw [if_neg h7, if_neg h9, if_neg h8, if_neg hg0, if_neg (fun q => c85 q.1), if_neg (fun q => by rcases q.1 with z | z; exact c86 z; exact c87 z.1)]
      exact (mPassx_K0 h hst hph o ho c240 c245 c62 c85 c86 c87 h7f _ hsg hflf hrc hlo hdy hgw hg).mono (good hs)
end
end Go.Proofs.YgvahwGreat
