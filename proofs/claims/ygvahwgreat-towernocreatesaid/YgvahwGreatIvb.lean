import Derived.Test.YgvahwGreatIv
namespace Go.Proofs.YgvahwGreat
set_option linter.unusedSimpArgs false
set_option linter.unusedVariables false

/-- What holds at every step; B = the gas at the opening. -/
structure AInv (T B : Nat) (st : ASt) : Prop where
  ok : ∀ f ∈ st.frames, FOK f
  top : ∀ f r, st.frames = f :: r → f.pc ≤ 600
  wait : ∀ f r, st.frames = f :: r → ∀ p ∈ r, p.pc < 512 ∧ p.stack.length < 64
  len : st.frames.length ≤ 7
  gas : gsum st.frames + msum st.frames ≤ B
  hB : B ≤ 1048576
  now : WInv T (B - gsum st.frames) st.orig st.now
  saved : ∀ f ∈ st.frames, WInv T (B - gsum st.frames) st.orig f.saved
  warm : ∀ f ∈ st.frames, st.now.warmA f.self = true
  swarm : st.frames.Pairwise fun f p => f.saved.warmA p.self = true
theorem writeA_len (m : List Nat) (off : Nat) (b : List Nat) : (writeA m off b).length = m.length := by
  unfold writeA
  split
  · simp; omega
  · rfl
theorem copyA_len (m : List Nat) (d : Nat) (s : List Nat) (o n : Nat) : (copyA m d s o n).length = m.length := by
  unfold copyA; split; rfl; exact writeA_len _ _ _
theorem effectMem_len (st : ASt) (f : AFrame) (o : Nat) : (st.effectMem f o).length = f.mem.length := by
  unfold ASt.effectMem
  repeat' split
  all_goals first | exact copyA_len _ _ _ _ _ | exact writeA_len _ _ _ | rfl
theorem memCost_mono {a b : Nat} (h : a ≤ b) : memCostA a ≤ memCostA b := by
  unfold memCostA
  have : a * a / 512 ≤ b * b / 512 := Nat.div_le_div_right (Nat.mul_le_mul h h)
  omega
/-- What refusal tells where it is 0. -/
theorem refusal_zero {st : ASt} {f : AFrame} {o : Nat} (h : st.refusal f o = 0) : famA o ≠ 0 ∧ takesA o ≤ f.stack.length ∧ f.stack.length - takesA o + givesA o ≤ 64 ∧ st.cost f o ≤ f.gas ∧ ((o = 86 ∨ (o = 87 ∧ f.arg 1 ≠ 0)) → isDestA f.code (f.arg 0) = true) ∧ ((o = 240 ∨ o = 245) → f.arg 2 ≤ 512) := by
  unfold ASt.refusal at h
  by_cases h1 : famA o = 0
  · rw [if_pos h1] at h; omega
  rw [if_neg h1] at h
  by_cases h2 : f.stack.length < takesA o
  · rw [if_pos h2] at h; omega
  rw [if_neg h2] at h
  by_cases h3 : 64 < f.stack.length - takesA o + givesA o
  · rw [if_pos h3] at h; omega
  rw [if_neg h3] at h
  by_cases h4 : (f.static && f.writes o) = true
  · rw [if_pos h4] at h; omega
  rw [if_neg h4] at h
  by_cases h5 : (o = 240 ∨ o = 245) ∧ 512 < f.arg 2
  · rw [if_pos h5] at h; omega
  rw [if_neg h5] at h
  by_cases h6 : o = 62 ∧ st.ret.length < f.arg 1 + f.arg 2
  · rw [if_pos h6] at h; omega
  rw [if_neg h6] at h
  by_cases h7 : f.gas < st.cost f o
  · rw [if_pos h7] at h; omega
  rw [if_neg h7] at h
  by_cases h8 : o = 85 ∧ f.gas ≤ 2300
  · rw [if_pos h8] at h; omega
  rw [if_neg h8] at h
  by_cases h9 : (o = 86 ∨ (o = 87 ∧ f.arg 1 ≠ 0)) ∧ isDestA f.code (f.arg 0) = false
  · rw [if_pos h9] at h; omega
  refine ⟨h1, by omega, by omega, by omega, fun q => ?_, fun q => ?_⟩
  · cases e : isDestA f.code (f.arg 0) with
    | true => rfl
    | false => exact absurd ⟨q, e⟩ h9
  · rcases Nat.lt_or_ge 512 (f.arg 2) with e | e
    · exact absurd ⟨q, e⟩ h5
    · exact e
theorem dest_lt (c : List Nat) (p : Nat) : ∀ n i, destA c p n i = true → p < c.length
  | 0, _, h => by simp [destA] at h
  | n + 1, i, h => by
    unfold destA at h
    split at h
    · rename_i hi
      split at h
      · rename_i e; omega
      · exact dest_lt c p n _ h
    · simp at h
/-- The frame behind the payment. -/
def ASt.paidF (st : ASt) (f : AFrame) (o : Nat) : AFrame := { f with gas := f.gas - st.cost f o, mem := growA f.mem (f.reach o) }
theorem grow_len (m : List Nat) (t : Nat) : (growA m t).length / 32 = if m.length / 32 < wordsA t then wordsA t else m.length / 32 := by
  unfold growA
  split
  · rename_i h
    simp
    omega
  · rfl
theorem paid_le {st : ASt} {f : AFrame} {o : Nat} (h : st.cost f o ≤ f.gas) : (st.paidF f o).gas + mcost (st.paidF f o) + st.bareCost f o ≤ f.gas + mcost f ∧ (st.paidF f o).gas + st.bareCost f o ≤ f.gas := by
  unfold ASt.paidF mcost
  simp only
  rw [grow_len]
  unfold ASt.cost at h ⊢
  by_cases h1 : wordsA (f.reach o) ≤ f.mem.length / 32
  · rw [if_neg (by omega : ¬ f.mem.length / 32 < wordsA (f.reach o))]
    rw [if_pos h1] at h ⊢
    omega
  · rw [if_pos (by omega : f.mem.length / 32 < wordsA (f.reach o))]
    rw [if_neg h1] at h ⊢
    have := memCost_mono (Nat.le_of_lt (by omega : f.mem.length / 32 < wordsA (f.reach o)))
    omega
/-- Every instruction that goes on costs. -/
theorem access_ge (A : AW) (a : Nat) : 100 ≤ A.access a := by unfold AW.access; split <;> omega
theorem sst_ge (a b c : Nat) (d : Bool) : 100 ≤ sstoreCost a b c d := by
  unfold sstoreCost
  split
  · omega
  · split <;> omega
theorem enter_ge (st : ASt) (f : AFrame) (o : Nat) : 100 ≤ st.enterCost f o := by
  unfold ASt.enterCost
  split
  · omega
  split
  · omega
  · have := access_ge st.now (addrA (f.arg 1)); omega
theorem le_ite {c : Prop} [Decidable c] {a b n : Nat} (h1 : c → n ≤ a) (h2 : ¬ c → n ≤ b) : n ≤ if c then a else b := by
  by_cases h : c
  · rw [if_pos h]; exact h1 h
  · rw [if_neg h]; exact h2 h
theorem bare_pos (st : ASt) (f : AFrame) (o : Nat) (h : o ≠ 0 ∧ o ≠ 243 ∧ o ≠ 253) : 1 ≤ st.bareCost f o := by
  have ha := access_ge st.now (addrA (f.arg 0))
  unfold ASt.bareCost
  refine le_ite (fun q => by omega) (fun _ => ?_)
  refine le_ite (fun q => by omega) (fun _ => ?_)
  refine le_ite (fun q => by omega) (fun _ => ?_)
  refine le_ite (fun q => by omega) (fun _ => ?_)
  refine le_ite (fun q => by omega) (fun _ => ?_)
  refine le_ite (fun q => by omega) (fun _ => ?_)
  refine le_ite (fun q => by omega) (fun _ => ?_)
  refine le_ite (fun q => by (unfold expCostA; omega)) (fun _ => ?_)
  refine le_ite (fun q => by omega) (fun _ => ?_)
  refine le_ite (fun q => by omega) (fun _ => ?_)
  refine le_ite (fun q => by omega) (fun _ => ?_)
  refine le_ite (fun q => by omega) (fun _ => ?_)
  refine le_ite (fun q => by omega) (fun _ => ?_)
  refine le_ite (fun q => by (split <;> omega)) (fun _ => ?_)
  refine le_ite (fun q => by (have := sst_ge (st.orig f.self (f.arg 0)) (st.now.slot f.self (f.arg 0)) (f.arg 1) (!st.now.warmS f.self (f.arg 0)); omega)) (fun _ => ?_)
  refine le_ite (fun q => by omega) (fun _ => ?_)
  refine le_ite (fun q => by (unfold ASt.destroyCost; omega)) (fun _ => ?_)
  refine le_ite (fun q => by (have := enter_ge st f o; omega)) (fun _ => ?_)
  omega
theorem bare_call {st : ASt} {f : AFrame} {o : Nat} (ho : o = 241 ∨ o = 242 ∨ o = 244 ∨ o = 250) : 100 ≤ st.bareCost f o ∧ ((o = 241 ∨ o = 242) → f.arg 2 ≠ 0 → 9100 ≤ st.bareCost f o) := by
  have e : st.bareCost f o = st.enterCost f o := by rcases ho with rfl | rfl | rfl | rfl <;> simp [ASt.bareCost, famA]
  rw [e]
  unfold ASt.enterCost
  rw [if_neg (by omega), if_neg (by omega)]
  have ha : 100 ≤ st.now.access (addrA (f.arg 1)) := by unfold AW.access; split <;> omega
  refine ⟨by omega, fun h1 h2 => ?_⟩
  rw [if_pos ⟨h1, h2⟩]
  omega
theorem bare_create {st : ASt} {f : AFrame} {o : Nat} (ho : o = 240 ∨ o = 245) : 32000 ≤ st.bareCost f o := by
  have e : st.bareCost f o = st.enterCost f o := by rcases ho with rfl | rfl <;> simp [ASt.bareCost, famA]
  rw [e]; unfold ASt.enterCost
  split
  · omega
  · split
    · omega
    · omega
theorem bare_85 {st : ASt} {f : AFrame} : 100 ≤ st.bareCost f 85 := by
  have e : st.bareCost f 85 = sstoreCost (st.orig f.self (f.arg 0)) (st.now.slot f.self (f.arg 0)) (f.arg 1) (!st.now.warmS f.self (f.arg 0)) := by simp [ASt.bareCost]
  rw [e]; unfold sstoreCost
  split
  · omega
  · split <;> omega
section
variable {T B : Nat} {st : ASt} {f : AFrame} {rest : List AFrame}
/-- A frame's end. -/
theorem AInv.ofLeave (s : Nat) (out : List Nat) (hB : B ≤ 1048576) (hlen : rest.length ≤ 6) (hg : f.gas + gsum rest + (mcost f + msum rest) ≤ B) (hw : ∀ p ∈ rest, p.pc < 512 ∧ p.stack.length < 64)
    (hnow : WInv T (B - (f.gas + gsum rest)) st.orig st.now) (hsv : WInv T (B - (f.gas + gsum rest)) st.orig f.saved) (hsr : ∀ p ∈ rest, WInv T (B - (f.gas + gsum rest)) st.orig p.saved)
    (hwm : ∀ p ∈ rest, st.now.warmA p.self = true) (hsw : ∀ p ∈ rest, f.saved.warmA p.self = true) (hpw : rest.Pairwise fun f p => f.saved.warmA p.self = true)
    (hok : ∀ x ∈ (st.leave f rest s out).frames, FOK x) : AInv T B (st.leave f rest s out) ∧ gsum (st.leave f rest s out).frames ≤ f.gas + gsum rest ∧ (st.leave f rest s out).frames.length = rest.length ∧ (st.leave f rest s out).orig = st.orig := by
  have hd : (depositA f.gas out).2 = 0 → (depositA f.gas out).1 ≤ f.gas ∧ out.length ≤ 256 := by
    unfold depositA
    split; simp
    split; simp
    split; simp
    intro _; simp; omega
  obtain ⟨mk, emk⟩ : ∃ mk, createsA f.kind = mk := ⟨_, rfl⟩
  obtain ⟨dep, edep⟩ : ∃ dep, (createsA f.kind && decide (s = 0)) = dep := ⟨_, rfl⟩
  obtain ⟨s', es⟩ : ∃ s', (if dep = true then (depositA f.gas out).2 else s) = s' := ⟨_, rfl⟩
  obtain ⟨g', eg⟩ : ∃ g', (if 1 < s' then 0 else if dep = true then (depositA f.gas out).1 else f.gas) = g' := ⟨_, rfl⟩
  obtain ⟨w', ew⟩ : ∃ w', (if s' = 0 then (if dep = true ∧ out ≠ [] then st.now.setCode f.self out else st.now) else f.saved) = w' := ⟨_, rfl⟩
  obtain ⟨o', eo⟩ : ∃ o', (if 1 < s' then [] else if dep = true ∧ s' = 0 then [] else out) = o' := ⟨_, rfl⟩
  have hg' : g' ≤ f.gas := by
    rw [← eg]
    split; omega
    split
    · rename_i h1 h2
      rw [if_pos h2] at es
      by_cases h3 : (depositA f.gas out).2 = 0
      · exact (hd h3).1
      · have : (depositA f.gas out).1 = 0 := by
          unfold depositA at h3 ⊢
          split; rfl
          split; rfl
          split; rfl
          simp_all
        omega
    · omega
  have hw' : WInv T (B - (f.gas + gsum rest)) st.orig w' := by
    rw [← ew]
    split
    · rename_i h1
      split
      · rename_i h2
        rw [if_pos h2.1] at es
        exact hnow.setCode _ _ (hd (es.trans h1)).2
      · exact hnow
    · exact hsv
  have hww : ∀ p ∈ rest, w'.warmA p.self = true := fun p hp => by
    rw [← ew]
    split
    · split
      · exact hwm p hp
      · exact hwm p hp
    · exact hsw p hp
  cases rest with
  | nil =>
    have e : st.leave f [] s out = { st with now := w', ret := o', frames := [], phase := 2, status := s', left := g' } := by
      unfold ASt.leave; simp only [edep, es, eg, ew, eo]
    rw [e] at hok ⊢
    simp only [gsum_nil] at hw' hg ⊢
    refine ⟨⟨fun x hx => by simp at hx, fun x r hx => by simp at hx, fun x r hx => by simp at hx, by simp, by simp [gsum_nil, msum_nil], hB, ?_, fun x hx => by simp at hx, fun x hx => by simp at hx, by simp⟩, by omega, by simp, by simp⟩
    simp only [gsum_nil]
    exact hw'.mono (by omega)
  | cons p rest =>
    obtain ⟨p1, ep⟩ : ∃ p1, ({ p with gas := p.gas + g', mem := if min p.outLen o'.length = 0 then p.mem else writeA p.mem p.outOff (o'.take (min p.outLen o'.length)) } : AFrame).settle 0 [if s' = 0 then (if createsA f.kind = true then f.self else 1) else 0] 1 = p1 := ⟨_, rfl⟩
    have e : st.leave f (p :: rest) s out = { st with now := w', ret := o', frames := p1 :: rest } := by
      unfold ASt.leave; simp only [edep, es, eg, ew, eo, ep]
    rw [e] at hok ⊢
    have p1g : p1.gas = p.gas + g' := by rw [← ep]; rfl
    have p1s : p1.saved = p.saved := by rw [← ep]; rfl
    have p1p : p1.pc = p.pc + 1 := by rw [← ep]; rfl
    have p1f : p1.self = p.self := by rw [← ep]; rfl
    have p1m : mcost p1 = mcost p := by
      rw [← ep]; unfold mcost AFrame.settle; simp only
      split
      · rfl
      · rw [writeA_len]
    rw [gsum_cons, msum_cons] at hg
    rw [gsum_cons] at hw' hsr hsv hnow
    have hle : B - (f.gas + (p.gas + gsum rest)) ≤ B - gsum (p1 :: rest) := by rw [gsum_cons, p1g]; omega
    refine ⟨⟨hok, fun x r hx => ?_, fun x r hx q hq => ?_, ?_, ?_, hB, hw'.mono hle, fun x hx => ?_, fun x hx => ?_, ?_⟩, ?_, by simp, rfl⟩
    · simp at hx; rw [← hx.1, p1p]; have := (hw p (by simp)).1; omega
    · simp at hx; rw [← hx.2] at hq; exact hw q (by simp [hq])
    · simp at hlen ⊢; omega
    · simp only; rw [gsum_cons, msum_cons, p1g, p1m]; omega
    · simp only at hx
      rcases List.mem_cons.1 hx with rfl | hx
      · rw [p1s]; exact (hsr p (by simp)).mono hle
      · exact (hsr x (by simp [hx])).mono hle
    · simp only at hx
      rcases List.mem_cons.1 hx with rfl | hx
      · rw [p1f]; exact hww p (by simp)
      · exact hww x (by simp [hx])
    · have := List.pairwise_cons.1 hpw
      exact List.pairwise_cons.2 ⟨fun q hq => by rw [p1s]; exact this.1 q hq, this.2⟩
    · simp only; rw [gsum_cons, gsum_cons, p1g]; omega
end
end Go.Proofs.YgvahwGreat
