import Derived.Test.YgvahwGreatIvb
namespace Go.Proofs.YgvahwGreat
set_option linter.unusedSimpArgs false
set_option linter.unusedVariables false
/-- The frame is changed, or another is laid on it. -/
theorem AInv.go {T B : Nat} {st st' : ASt} {f p : AFrame} {rest : List AFrame} (h : AInv T B st) (hf : st.frames = f :: rest) (hfr : st'.frames = p :: rest) (hg : p.gas + mcost p ≤ f.gas + mcost f) (hgg : p.gas ≤ f.gas) (hpc : p.pc ≤ 600) (hsv : p.saved = f.saved) (hsf : p.self = f.self) (hwm : ∀ a, st.now.warmA a = true → st'.now.warmA a = true) (ho : st'.orig = st.orig)
    (hnow : WInv T (B - (p.gas + gsum rest)) st.orig st'.now) (hok : ∀ x ∈ st'.frames, FOK x) : AInv T B st' := by
  have hgas := h.gas
  rw [hf, gsum_cons, msum_cons] at hgas
  have hle : B - gsum st.frames ≤ B - gsum st'.frames := by rw [hf, hfr, gsum_cons, gsum_cons]; omega
  have hww := h.warm
  have hpw := h.swarm
  rw [hf] at hww hpw
  have hpw' := List.pairwise_cons.1 hpw
  refine ⟨hok, fun x r hx => ?_, fun x r hx q hq => ?_, ?_, ?_, h.hB, ?_, fun x hx => ?_, fun x hx => ?_, ?_⟩
  · rw [hfr] at hx; simp at hx; rw [← hx.1]; exact hpc
  · rw [hfr] at hx; simp at hx; rw [← hx.2] at hq; exact h.wait f rest hf q hq
  · have := h.len; rw [hf] at this; rw [hfr]; simpa using this
  · rw [hfr, gsum_cons, msum_cons]; omega
  · rw [ho, hfr, gsum_cons]; exact hnow
  · rw [ho]
    rw [hfr] at hx
    rcases List.mem_cons.1 hx with rfl | hx
    · rw [hsv]; exact (h.saved f (by rw [hf]; simp)).mono hle
    · exact (h.saved x (by rw [hf]; simp [hx])).mono hle
  · rw [hfr] at hx
    rcases List.mem_cons.1 hx with rfl | hx
    · rw [hsf]; exact hwm _ (hww f (by simp))
    · exact hwm _ (hww x (by simp [hx]))
  · rw [hfr]; exact List.pairwise_cons.2 ⟨fun q hq => by rw [hsv]; exact hpw'.1 q hq, hpw'.2⟩
/-- A frame is entered. -/
theorem AInv.goIn {T B : Nat} {st st' : ASt} {f p ch : AFrame} {rest : List AFrame} (h : AInv T B st) (hf : st.frames = f :: rest) (hfr : st'.frames = ch :: p :: rest) (hr : rest.length < 6) (hg : ch.gas + p.gas + (mcost p + mcost ch) ≤ f.gas + mcost f) (hgg : ch.gas + p.gas ≤ f.gas) (hpc : ch.pc ≤ 600) (hpp : p.pc < 512) (hps : p.stack.length < 64) (hsv : p.saved = f.saved) (hsf : p.self = f.self) (hwm : ∀ a, st.now.warmA a = true → st'.now.warmA a = true) (hwc : st'.now.warmA ch.self = true) (hwv : ∀ a, st.now.warmA a = true → ch.saved.warmA a = true) (ho : st'.orig = st.orig)
    (hnow : WInv T (B - (ch.gas + p.gas + gsum rest)) st.orig st'.now) (hch : WInv T (B - (ch.gas + p.gas + gsum rest)) st.orig ch.saved) (hok : ∀ x ∈ st'.frames, FOK x) : AInv T B st' := by
  have hgas := h.gas
  rw [hf, gsum_cons, msum_cons] at hgas
  have hle : B - gsum st.frames ≤ B - gsum st'.frames := by rw [hf, hfr, gsum_cons, gsum_cons, gsum_cons]; omega
  have hs : gsum st'.frames = ch.gas + p.gas + gsum rest := by rw [hfr, gsum_cons, gsum_cons]; omega
  have hww := h.warm
  have hpw := h.swarm
  rw [hf] at hww hpw
  have hpw' := List.pairwise_cons.1 hpw
  refine ⟨hok, fun x r hx => ?_, fun x r hx q hq => ?_, ?_, ?_, h.hB, ?_, fun x hx => ?_, fun x hx => ?_, ?_⟩
  · rw [hfr] at hx; simp at hx; rw [← hx.1]; exact hpc
  · rw [hfr] at hx; simp at hx; rw [← hx.2] at hq
    rcases List.mem_cons.1 hq with rfl | hq
    · exact ⟨hpp, hps⟩
    · exact h.wait f rest hf q hq
  · rw [hfr]; simp; omega
  · rw [hfr, gsum_cons, msum_cons, gsum_cons, msum_cons]; omega
  · rw [ho, hs]; exact hnow
  · rw [ho]
    rw [hfr] at hx
    rcases List.mem_cons.1 hx with rfl | hx
    · rw [hs]; exact hch
    rcases List.mem_cons.1 hx with rfl | hx
    · rw [hsv]; exact (h.saved f (by rw [hf]; simp)).mono hle
    · exact (h.saved x (by rw [hf]; simp [hx])).mono hle
  · rw [hfr] at hx
    rcases List.mem_cons.1 hx with rfl | hx
    · exact hwc
    rcases List.mem_cons.1 hx with rfl | hx
    · rw [hsf]; exact hwm _ (hww f (by simp))
    · exact hwm _ (hww x (by simp [hx]))
  · rw [hfr]
    refine List.pairwise_cons.2 ⟨fun q hq => ?_, List.pairwise_cons.2 ⟨fun q hq => by rw [hsv]; exact hpw'.1 q hq, hpw'.2⟩⟩
    rcases List.mem_cons.1 hq with rfl | hq
    · rw [hsf]; exact hwv _ (hww f (by simp))
    · exact hwv _ (hww q (by simp [hq]))
theorem warm_up {w : AW} (a b : Nat) (h : w.warmA b = true) : (w.warm a).warmA b = true := by
  show up w.warmA a true b = true
  unfold up; split; rfl; exact h
theorem warm_self (w : AW) (a : Nat) : (w.warm a).warmA a = true := by
  show up w.warmA a true a = true
  unfold up; rw [if_pos rfl]
theorem move_warm (w : AW) (a b v : Nat) : (w.move a b v).warmA = w.warmA := by unfold AW.move; split <;> rfl
theorem pc_lt {f : AFrame} (h : f.opcode ≠ 0) : f.pc < f.code.length := by
  rcases Nat.lt_or_ge f.pc f.code.length with q | q
  · exact q
  · exact absurd (by unfold AFrame.opcode; rw [List.getD_eq_getElem?_getD, List.getElem?_eq_none q]; rfl) h
section
variable {T B : Nat} {st : ASt} {f : AFrame} {rest : List AFrame}
theorem mcost_eq {p q : AFrame} (h : p.mem.length = q.mem.length) : mcost p = mcost q := by unfold mcost; rw [h]
theorem AInv.plain (h : AInv T B st) (hf : st.frames = f :: rest) {o : Nat} (hr : st.refusal f o = 0) (hopc : f.opcode = o) (ho : o ≠ 0 ∧ o ≠ 243 ∧ o ≠ 253) (hok : ∀ x ∈ (st.plain (st.paidF f o) rest o).frames, FOK x) :
    AInv T B (st.plain (st.paidF f o) rest o) ∧ gsum (st.plain (st.paidF f o) rest o).frames < gsum st.frames ∧ (st.plain (st.paidF f o) rest o).frames.length = st.frames.length := by
  obtain ⟨hfam, htk, hgv, hc, hj, _⟩ := refusal_zero hr
  obtain ⟨hp1, hp2⟩ := paid_le hc
  have hb := bare_pos st f o ho
  have hpc : f.pc < f.code.length := pc_lt (by rw [hopc]; exact ho.1)
  have hcode := (h.ok f (by rw [hf]; simp)).code
  have hgas := h.gas
  rw [hf, gsum_cons, msum_cons] at hgas
  have hnow0 : WInv T (B - gsum st.frames) st.orig st.now := h.now
  have hnow1 : WInv T (B - ((st.paidF f o).gas + gsum rest)) st.orig st.now := hnow0.mono (by rw [hf, gsum_cons]; omega)
  have KEY : ∀ st' : ASt, ∀ p : AFrame, st.plain (st.paidF f o) rest o = st' → st'.frames = p :: rest → p.gas = (st.paidF f o).gas → p.mem.length = (st.paidF f o).mem.length → p.pc ≤ 600 → p.saved = f.saved → p.self = f.self → (∀ a, st.now.warmA a = true → st'.now.warmA a = true) → st'.orig = st.orig → WInv T (B - ((st.paidF f o).gas + gsum rest)) st.orig st'.now →
      AInv T B (st.plain (st.paidF f o) rest o) ∧ gsum (st.plain (st.paidF f o) rest o).frames < gsum st.frames ∧ (st.plain (st.paidF f o) rest o).frames.length = st.frames.length := by
    intro st' p e hfr g1 g2 g3 g4 g4a g4b g5 g6
    rw [e] at hok ⊢
    have hm := mcost_eq g2
    refine ⟨h.go hf hfr (by rw [g1, hm]; omega) (by rw [g1]; omega) g3 g4 g4a g4b g5 (by rw [g1]; exact g6) hok, ?_, ?_⟩
    · rw [hfr, hf, gsum_cons, gsum_cons, g1]; omega
    · rw [hfr, hf]; simp
  have himm : immA o ≤ 32 := by unfold immA; split <;> omega
  by_cases h1 : o = 86 ∨ (o = 87 ∧ (st.paidF f o).arg 1 ≠ 0)
  · refine KEY { st with frames := { st.paidF f o with stack := (st.paidF f o).stack.drop (takesA o), pc := (st.paidF f o).arg 0 } :: rest } { st.paidF f o with stack := (st.paidF f o).stack.drop (takesA o), pc := (st.paidF f o).arg 0 } ?_ rfl rfl rfl ?_ rfl rfl (fun _ q => q) rfl hnow1
    · unfold ASt.plain; rw [if_pos h1]
    · have := dest_lt _ _ _ _ (hj h1)
      show f.arg 0 ≤ 600
      omega
  by_cases h2 : 128 ≤ o ∧ o ≤ 143
  · refine KEY { st with frames := (st.paidF f o).settle 0 [(st.paidF f o).arg (o - 128)] 1 :: rest } ((st.paidF f o).settle 0 [(st.paidF f o).arg (o - 128)] 1) ?_ rfl rfl rfl ?_ rfl rfl (fun _ q => q) rfl hnow1
    · unfold ASt.plain; rw [if_neg h1, if_pos h2]
    · show f.pc + 1 ≤ 600; omega
  by_cases h3 : 144 ≤ o ∧ o ≤ 159
  · refine KEY { st with frames := { st.paidF f o with stack := (st.paidF f o).arg (o - 143) :: ((st.paidF f o).stack.drop 1).take (o - 144) ++ (st.paidF f o).arg 0 :: (st.paidF f o).stack.drop (o - 142), pc := (st.paidF f o).pc + 1 } :: rest } _ ?_ rfl rfl rfl ?_ rfl rfl (fun _ q => q) rfl hnow1
    · unfold ASt.plain; rw [if_neg h1, if_neg h2, if_pos h3]
    · show f.pc + 1 ≤ 600; omega
  by_cases h4 : givesA o = 1
  · refine KEY { st with now := st.valueWorld (st.paidF f o) o, frames := (st.paidF f o).settle (takesA o) [st.value (st.paidF f o) o] (1 + immA o) :: rest } _ ?_ rfl rfl rfl ?_ rfl rfl ?_ rfl ?_
    · unfold ASt.plain; rw [if_neg h1, if_neg h2, if_neg h3, if_pos h4]
    · show f.pc + (1 + immA o) ≤ 600; omega
    · intro a qa
      show (st.valueWorld (st.paidF f o) o).warmA a = true
      unfold ASt.valueWorld
      split
      · exact warm_up _ _ qa
      · split <;> exact qa
    · show WInv _ _ _ (st.valueWorld (st.paidF f o) o)
      unfold ASt.valueWorld
      split
      · exact hnow1.warm _
      · split
        · exact hnow1.warmSlot _ _
        · exact hnow1
  · refine KEY { st with now := st.effectWorld (st.paidF f o) o, frames := ({ st.paidF f o with mem := st.effectMem (st.paidF f o) o } : AFrame).settle (takesA o) [] 1 :: rest } _ ?_ rfl rfl (effectMem_len _ _ _) ?_ rfl rfl ?_ rfl ?_
    · unfold ASt.plain; rw [if_neg h1, if_neg h2, if_neg h3, if_neg h4]
    · show f.pc + 1 ≤ 600; omega
    · intro a qa
      show (st.effectWorld (st.paidF f o) o).warmA a = true
      unfold ASt.effectWorld
      split
      · exact warm_up _ _ qa
      repeat' split
      all_goals exact qa
    · show WInv _ _ _ (st.effectWorld (st.paidF f o) o)
      unfold ASt.effectWorld
      split
      · exact hnow1.warm _
      split
      · rename_i e
        subst e
        have hb85 := bare_85 (st := st) (f := f)
        have q := (hnow0.sstore f.self (f.arg 0) (f.arg 1) (st.bareCost f 85) hb85).2
        refine q.mono ?_
        rw [hf, gsum_cons]; omega
      split
      · exact hnow1.tstore _ _ _
      split
      · rename_i e
        exact hnow1.putLog _ (by simp; omega)
      · exact hnow1
theorem AInv.call (h : AInv T B st) (hf : st.frames = f :: rest) {o : Nat} (hr : st.refusal f o = 0) (hopc : f.opcode = o) (ho : o = 241 ∨ o = 242 ∨ o = 244 ∨ o = 250) (hok : ∀ x ∈ (st.enterCall (st.paidF f o) rest o).frames, FOK x) :
    AInv T B (st.enterCall (st.paidF f o) rest o) ∧ 8 * gsum (st.enterCall (st.paidF f o) rest o).frames + (st.enterCall (st.paidF f o) rest o).frames.length < 8 * gsum st.frames + st.frames.length := by
  obtain ⟨hfam, htk, hgv, hc, hj, _⟩ := refusal_zero hr
  obtain ⟨hp1, hp2⟩ := paid_le hc
  obtain ⟨hb1, hb2⟩ := bare_call (st := st) (f := f) ho
  have hpc : f.pc < f.code.length := pc_lt (by rw [hopc]; omega)
  have hcode := (h.ok f (by rw [hf]; simp)).code
  have hslen := (h.ok f (by rw [hf]; simp)).sLen
  have hgas := h.gas
  rw [hf, gsum_cons, msum_cons] at hgas
  have htk6 : 6 ≤ takesA o := by rcases ho with rfl | rfl | rfl | rfl <;> decide
  obtain ⟨v, ev⟩ : ∃ v, (if o = 241 ∨ o = 242 then (st.paidF f o).arg 2 else 0) = v := ⟨_, rfl⟩
  obtain ⟨x, ex⟩ : ∃ x, (if v ≠ 0 then 2300 else 0) = x := ⟨_, rfl⟩
  have hx : x + 100 ≤ st.bareCost f o := by
    rw [← ex]
    split
    · rename_i hv
      rw [← ev] at hv
      split at hv
      · rename_i q
        have := hb2 q hv
        omega
      · exact absurd rfl hv
    · omega
  have hnow0 : WInv T (B - gsum st.frames) st.orig st.now := h.now
  obtain ⟨F, eF⟩ : ∃ F, st.paidF f o = F := ⟨_, rfl⟩
  have F1 : F.pc = f.pc := by rw [← eF]; rfl
  have F2 : F.saved = f.saved := by rw [← eF]; rfl
  have F3 : F.stack = f.stack := by rw [← eF]; rfl
  have F4 : F.self = f.self := by rw [← eF]; rfl
  rw [eF] at hok hp1 hp2 ev ⊢
  obtain ⟨sent, es⟩ : ∃ s, sentA F.gas (F.arg 0) = s := ⟨_, rfl⟩
  have hs : sent ≤ F.gas := by rw [← es]; unfold sentA; omega
  by_cases hd : 6 ≤ rest.length ∨ st.now.bal F.self < v
  · have e : st.enterCall F rest o = { st with now := st.now.warm (addrA (F.arg 1)), ret := [], frames := ({ F with gas := F.gas - sent + (sent + x) } : AFrame).settle (takesA o) [0] 1 :: rest } := by
      unfold ASt.enterCall; simp only [ev, ex, es, if_pos hd]
    rw [e] at hok ⊢
    refine ⟨h.go hf (p := ({ F with gas := F.gas - sent + (sent + x) } : AFrame).settle (takesA o) [0] 1) rfl ?_ ?_ ?_ F2 F4 (fun a qa => warm_up _ _ qa) rfl ?_ hok, ?_⟩
    · show F.gas - sent + (sent + x) + mcost F ≤ _; omega
    · show F.gas - sent + (sent + x) ≤ _; omega
    · show F.pc + 1 ≤ 600; omega
    · exact (hnow0.warm _).mono (by rw [hf, gsum_cons]; show _ ≤ B - (F.gas - sent + (sent + x) + gsum rest); omega)
    · simp only; rw [hf, gsum_cons, gsum_cons]; show 8 * (F.gas - sent + (sent + x) + gsum rest) + _ < _; simp; omega
  · obtain ⟨ch, ech⟩ : ∃ ch : AFrame, ch = { kind := if o = 241 then 2 else if o = 242 then 7 else if o = 244 then 3 else 4, pre := preA (addrA (F.arg 1)), static := F.static || o == 250, pc := 0, gas := sent + x, value := if o = 244 then F.value else v, outOff := 0, outLen := 0, stack := [], mem := [], code := if preA (addrA (F.arg 1)) = 0 then st.now.code (addrA (F.arg 1)) else [], input := readA F.mem (F.arg (takesA o - 4)) (F.arg (takesA o - 4 + 1)), self := if o = 242 ∨ o = 244 then F.self else addrA (F.arg 1), caller := if o = 244 then F.caller else F.self, saved := st.now.warm (addrA (F.arg 1)) } := ⟨_, rfl⟩
    obtain ⟨p, ep⟩ : ∃ p : AFrame, p = { F with gas := F.gas - sent, stack := F.stack.drop (takesA o), outOff := if F.arg (takesA o - 4 + 3) = 0 then 0 else F.arg (takesA o - 4 + 2), outLen := F.arg (takesA o - 4 + 3) } := ⟨_, rfl⟩
    have e : st.enterCall F rest o = ({ st with now := st.now.warm (addrA (F.arg 1)), frames := p :: rest } : ASt).enter ch := by
      unfold ASt.enterCall; simp only [ev, ex, es, if_neg hd, ← ech, ← ep]
    have hcg : ch.gas = sent + x := by rw [ech]
    have hcm : mcost ch = 0 := by rw [ech]; unfold mcost memCostA; simp
    have hpg : p.gas = F.gas - sent := by rw [ep]
    have hpm : mcost p = mcost F := by rw [ep]; rfl
    have hnow2 : WInv T (B - (ch.gas + p.gas + gsum rest)) st.orig (st.now.warm (addrA (F.arg 1))) := (hnow0.warm _).mono (by rw [hf, gsum_cons, hcg, hpg]; omega)
    have hnc : createsA ch.kind = false := by rw [ech]; rcases ho with rfl | rfl | rfl | rfl <;> rfl
    have hewm : (({ st with now := st.now.warm (addrA (F.arg 1)), frames := p :: rest } : ASt).enter ch).now.warmA = (st.now.warm (addrA (F.arg 1))).warmA := by
      unfold ASt.enter
      simp only [hnc]
      split
      · rfl
      · exact move_warm _ _ _ _
    rw [e] at hok ⊢
    refine ⟨h.goIn (ch := { ch with saved := st.now.warm (addrA (F.arg 1)) }) (p := p) hf rfl (by omega) ?_ ?_ ?_ ?_ ?_ ?_ ?_ ?_ ?_ (fun a qa => warm_up _ _ qa) rfl ?_ hnow2 hok, ?_⟩
    · show ch.gas + p.gas + (mcost p + mcost ch) ≤ _; rw [hcg, hpg, hcm, hpm]; omega
    · show ch.gas + p.gas ≤ _; rw [hcg, hpg]; omega
    · show ch.pc ≤ 600; rw [ech]; simp
    · rw [ep]; show F.pc < 512; omega
    · rw [ep]; simp; rw [F3]; omega
    · rw [ep]; exact F2
    · rw [ep]; exact F4
    · intro a qa; rw [hewm]; exact warm_up _ _ qa
    · rw [hewm]
      show (st.now.warm (addrA (F.arg 1))).warmA ch.self = true
      rw [ech]
      simp only
      split
      · exact warm_up _ _ (by rw [F4]; exact h.warm f (by rw [hf]; simp))
      · exact warm_self _ _
    · show WInv T (B - (ch.gas + p.gas + gsum rest)) st.orig _
      unfold ASt.enter
      simp only [hnc]
      split
      · exact hnow2
      · exact hnow2.move _ _ _
    · show 8 * gsum (({ ch with saved := st.now.warm (addrA (F.arg 1)) } : AFrame) :: p :: rest) + (({ ch with saved := st.now.warm (addrA (F.arg 1)) } : AFrame) :: p :: rest).length < _
      rw [hf, gsum_cons, gsum_cons, gsum_cons]; show 8 * (ch.gas + (p.gas + gsum rest)) + _ < _; rw [hcg, hpg]; simp; omega
theorem AInv.create (h : AInv T B st) (hf : st.frames = f :: rest) {o : Nat} (hr : st.refusal f o = 0) (hopc : f.opcode = o) (ho : o = 240 ∨ o = 245) (hok : ∀ x ∈ (st.enterCreate (st.paidF f o) rest o).frames, FOK x) :
    AInv T B (st.enterCreate (st.paidF f o) rest o) ∧ 8 * gsum (st.enterCreate (st.paidF f o) rest o).frames + (st.enterCreate (st.paidF f o) rest o).frames.length < 8 * gsum st.frames + st.frames.length := by
  obtain ⟨hfam, htk, hgv, hc, hj, _⟩ := refusal_zero hr
  obtain ⟨hp1, hp2⟩ := paid_le hc
  have hb1 := bare_create (st := st) (f := f) ho
  have hpc : f.pc < f.code.length := pc_lt (by rw [hopc]; omega)
  have hcode := (h.ok f (by rw [hf]; simp)).code
  have hslen := (h.ok f (by rw [hf]; simp)).sLen
  have hgas := h.gas
  rw [hf, gsum_cons, msum_cons] at hgas
  have htk3 : 3 ≤ takesA o := by rcases ho with rfl | rfl <;> decide
  have hnow0 : WInv T (B - gsum st.frames) st.orig st.now := h.now
  obtain ⟨F, eF⟩ : ∃ F, st.paidF f o = F := ⟨_, rfl⟩
  have F1 : F.pc = f.pc := by rw [← eF]; rfl
  have F2 : F.saved = f.saved := by rw [← eF]; rfl
  have F3 : F.stack = f.stack := by rw [← eF]; rfl
  have F4 : F.self = f.self := by rw [← eF]; rfl
  rw [eF] at hok hp1 hp2 ⊢
  obtain ⟨cg, ecg⟩ : ∃ s, sentA F.gas F.gas = s := ⟨_, rfl⟩
  have hs : cg ≤ F.gas := by rw [← ecg]; unfold sentA; omega
  by_cases hd : 6 ≤ rest.length ∨ st.now.bal F.self < F.arg 0 ∨ 18446744073709551615 ≤ st.now.nonce F.self
  · have e : st.enterCreate F rest o = { st with ret := [], frames := F.settle (takesA o) [0] 1 :: rest } := by
      unfold ASt.enterCreate; simp only [if_pos hd]
    rw [e] at hok ⊢
    refine ⟨h.go hf (p := F.settle (takesA o) [0] 1) rfl ?_ ?_ ?_ F2 F4 (fun a qa => qa) rfl ?_ hok, ?_⟩
    · show F.gas + mcost F ≤ _; omega
    · show F.gas ≤ _; omega
    · show F.pc + 1 ≤ 600; omega
    · exact hnow0.mono (by rw [hf, gsum_cons]; show _ ≤ B - (F.gas + gsum rest); omega)
    · simp only; rw [hf, gsum_cons, gsum_cons]; show 8 * (F.gas + gsum rest) + _ < _; simp; omega
  obtain ⟨self, eself⟩ : ∃ self, (if o = 245 then create2AddrA F.self (F.arg 3) (readA F.mem (F.arg 1) (F.arg 2)) else createAddrA F.self (st.now.nonce F.self)) = self := ⟨_, rfl⟩
  obtain ⟨w1, ew1⟩ : ∃ w1, (st.now.setNonce F.self (st.now.nonce F.self + 1)).warm self = w1 := ⟨_, rfl⟩
  have hw1 : WInv T (B - gsum st.frames) st.orig w1 := by rw [← ew1]; exact (hnow0.setNonce _ _ (by omega)).warm _
  have hwu : ∀ a, st.now.warmA a = true → w1.warmA a = true := fun a qa => by rw [← ew1]; exact warm_up _ _ qa
  by_cases ht : w1.nonce self ≠ 0 ∨ w1.code self ≠ []
  · have e : st.enterCreate F rest o = { st with now := w1, ret := [], frames := ({ F with gas := F.gas - cg } : AFrame).settle (takesA o) [0] 1 :: rest } := by
      unfold ASt.enterCreate; simp only [if_neg hd, eself, ew1, if_pos ht, ecg]
    rw [e] at hok ⊢
    refine ⟨h.go hf (p := ({ F with gas := F.gas - cg } : AFrame).settle (takesA o) [0] 1) rfl ?_ ?_ ?_ F2 F4 hwu rfl ?_ hok, ?_⟩
    · show F.gas - cg + mcost F ≤ _; omega
    · show F.gas - cg ≤ _; omega
    · show F.pc + 1 ≤ 600; omega
    · exact hw1.mono (by rw [hf, gsum_cons]; show _ ≤ B - (F.gas - cg + gsum rest); omega)
    · simp only; rw [hf, gsum_cons, gsum_cons]; show 8 * (F.gas - cg + gsum rest) + _ < _; simp; omega
  · obtain ⟨ch, ech⟩ : ∃ ch : AFrame, ch = { kind := if o = 245 then 6 else 5, pre := 0, static := false, pc := 0, gas := cg, value := F.arg 0, outOff := 0, outLen := 0, stack := [], mem := [], code := readA F.mem (F.arg 1) (F.arg 2), input := [], self := self, caller := F.self, saved := w1 } := ⟨_, rfl⟩
    obtain ⟨p, ep⟩ : ∃ p : AFrame, p = { F with gas := F.gas - cg, stack := F.stack.drop (takesA o), outOff := 0, outLen := 0 } := ⟨_, rfl⟩
    have e : st.enterCreate F rest o = ({ st with now := w1, ret := [], frames := p :: rest } : ASt).enter ch := by
      unfold ASt.enterCreate; simp only [if_neg hd, eself, ew1, if_neg ht, ecg, ← ech, ← ep]
    have hcg : ch.gas = cg := by rw [ech]
    have hcm : mcost ch = 0 := by rw [ech]; unfold mcost memCostA; simp
    have hpg : p.gas = F.gas - cg := by rw [ep]
    have hpm : mcost p = mcost F := by rw [ep]; rfl
    have hnow2 : WInv T (B - (ch.gas + p.gas + gsum rest)) st.orig w1 := hw1.mono (by rw [hf, gsum_cons, hcg, hpg]; omega)
    have hk : createsA ch.kind = true ∧ ¬ (ch.kind = 3 ∨ ch.kind = 7) := by rw [ech]; rcases ho with rfl | rfl <;> simp [createsA]
    have hewm : (({ st with now := w1, ret := [], frames := p :: rest } : ASt).enter ch).now.warmA = w1.warmA := by
      unfold ASt.enter
      simp only [hk.1, if_true]
      rw [if_neg hk.2]
      exact move_warm _ _ _ _
    rw [e] at hok ⊢
    refine ⟨h.goIn (ch := { ch with saved := w1 }) (p := p) hf rfl (by omega) ?_ ?_ ?_ ?_ ?_ ?_ ?_ ?_ ?_ hwu rfl ?_ hnow2 hok, ?_⟩
    · show ch.gas + p.gas + (mcost p + mcost ch) ≤ _; rw [hcg, hpg, hcm, hpm]; omega
    · show ch.gas + p.gas ≤ _; rw [hcg, hpg]; omega
    · show ch.pc ≤ 600; rw [ech]; simp
    · rw [ep]; show F.pc < 512; omega
    · rw [ep]; simp; rw [F3]; omega
    · rw [ep]; exact F2
    · rw [ep]; exact F4
    · intro a qa; rw [hewm]; exact hwu a qa
    · rw [hewm]
      show w1.warmA ch.self = true
      rw [ech, ← ew1]
      exact warm_self _ _
    · show WInv T (B - (ch.gas + p.gas + gsum rest)) st.orig _
      unfold ASt.enter
      simp only [hk.1, if_true]
      rw [if_neg hk.2]
      exact ((hnow2.setNonce _ _ (by omega)).markMade _).move _ _ _
    · show 8 * gsum (({ ch with saved := w1 } : AFrame) :: p :: rest) + (({ ch with saved := w1 } : AFrame) :: p :: rest).length < _
      rw [hf, gsum_cons, gsum_cons, gsum_cons]; show 8 * (ch.gas + (p.gas + gsum rest)) + _ < _; rw [hcg, hpg]; simp; omega
/-- One step. -/
theorem AInv.step (h : AInv T B st) (hne : st.frames ≠ []) (hok : ∀ x ∈ st.step.frames, FOK x) : AInv T B st.step ∧ 8 * gsum st.step.frames + st.step.frames.length < 8 * gsum st.frames + st.frames.length := by
  cases hf : st.frames with
  | nil => exact absurd hf hne
  | cons f rest =>
  have hgas := h.gas
  have hlen := h.len
  have hnow := h.now
  have hsf := h.saved f (by rw [hf]; simp)
  have hsr : ∀ p ∈ rest, WInv T (B - gsum st.frames) st.orig p.saved := fun p hp => h.saved p (by rw [hf]; simp [hp])
  have hw := h.wait f rest hf
  have hww := h.warm
  have hpw := h.swarm
  rw [hf] at hww hpw
  have hpw' := List.pairwise_cons.1 hpw
  rw [hf, gsum_cons] at hnow hsf hsr
  rw [hf, gsum_cons, msum_cons] at hgas
  rw [hf] at hlen
  simp at hlen
  have es : st.step = st.stepF f rest := by unfold ASt.step; rw [hf]
  rw [es] at hok ⊢
  have LEAVE : ∀ (st1 : ASt) (f1 : AFrame) (s : Nat) (out : List Nat), st1.orig = st.orig → f1.gas ≤ f.gas → f1.gas + mcost f1 ≤ f.gas + mcost f → f1.saved = f.saved → WInv T (B - (f.gas + gsum rest)) st.orig st1.now → (∀ a, st.now.warmA a = true → st1.now.warmA a = true) → st.stepF f rest = st1.leave f1 rest s out →
      AInv T B (st.stepF f rest) ∧ 8 * gsum (st.stepF f rest).frames + (st.stepF f rest).frames.length < 8 * gsum (f :: rest) + (f :: rest).length := by
    intro st1 f1 s out q1 q2 q3 q4 q5 q5w q6
    rw [q6] at hok ⊢
    have hm : B - (f.gas + gsum rest) ≤ B - (f1.gas + gsum rest) := by omega
    obtain ⟨r1, r2, r3, _⟩ := AInv.ofLeave (T := T) (B := B) (st := st1) (f := f1) (rest := rest) s out h.hB (by omega) (by omega) hw (by rw [q1]; exact q5.mono hm) (by rw [q1, q4]; exact hsf.mono hm) (fun p hp => by rw [q1]; exact (hsr p hp).mono hm) (fun p hp => q5w _ (hww p (by simp [hp]))) (fun p hp => by rw [q4]; exact hpw'.1 p hp) hpw'.2 hok
    refine ⟨r1, ?_⟩
    rw [r3, gsum_cons]
    simp
    omega
  by_cases hpre : f.pre ≠ 0
  · cases hc : natCost f.pre f.input with
    | none => exact LEAVE st f 2 [] rfl (Nat.le_refl _) (Nat.le_refl _) rfl hnow (fun _ q => q) (by unfold ASt.stepF; rw [if_pos hpre, hc])
    | some c =>
      by_cases hl : f.gas < c
      · exact LEAVE st f 2 [] rfl (Nat.le_refl _) (Nat.le_refl _) rfl hnow (fun _ q => q) (by unfold ASt.stepF; rw [if_pos hpre, hc]; simp only [if_pos hl])
      · exact LEAVE st { f with gas := f.gas - c } 0 (natRun f.pre f.input) rfl (by simp) (by show f.gas - c + mcost f ≤ _; omega) rfl hnow (fun _ q => q) (by unfold ASt.stepF; rw [if_pos hpre, hc]; simp only [if_neg hl])
  · by_cases hr : st.refusal f f.opcode ≠ 0
    · exact LEAVE st f (st.refusal f f.opcode) [] rfl (Nat.le_refl _) (Nat.le_refl _) rfl hnow (fun _ q => q) (by unfold ASt.stepF; rw [if_neg hpre]; simp only [if_pos hr])
    have hr0 : st.refusal f f.opcode = 0 := by omega
    obtain ⟨hfam, htk, hgv, hc, hj, _⟩ := refusal_zero hr0
    obtain ⟨hp1, hp2⟩ := paid_le hc
    have ePaid : ({ f with gas := f.gas - st.cost f f.opcode, mem := growA f.mem (f.reach f.opcode) } : AFrame) = st.paidF f f.opcode := rfl
    by_cases h0 : f.opcode = 0
    · exact LEAVE st (st.paidF f f.opcode) 0 [] rfl (by omega) (by omega) rfl hnow (fun _ q => q) (by unfold ASt.stepF; rw [if_neg hpre]; simp only [if_neg hr, ePaid, if_pos h0])
    by_cases h1 : f.opcode = 243
    · exact LEAVE st (st.paidF f f.opcode) 0 (readA (st.paidF f f.opcode).mem (f.arg 0) (f.arg 1)) rfl (by omega) (by omega) rfl hnow (fun _ q => q) (by unfold ASt.stepF; rw [if_neg hpre]; simp only [if_neg hr, ePaid, if_neg h0, if_pos h1]; rfl)
    by_cases h2 : f.opcode = 253
    · exact LEAVE st (st.paidF f f.opcode) 1 (readA (st.paidF f f.opcode).mem (f.arg 0) (f.arg 1)) rfl (by omega) (by omega) rfl hnow (fun _ q => q) (by unfold ASt.stepF; rw [if_neg hpre]; simp only [if_neg hr, ePaid, if_neg h0, if_neg h1, if_pos h2]; rfl)
    by_cases h3 : f.opcode = 255
    · have e : st.stepF f rest = st.destroys (st.paidF f f.opcode) rest := by unfold ASt.stepF; rw [if_neg hpre]; simp only [if_neg hr, ePaid, if_neg h0, if_neg h1, if_neg h2, if_pos h3]
      obtain ⟨w3, ew3⟩ : ∃ w3, st.destroys (st.paidF f f.opcode) rest = ({ st with now := w3 } : ASt).leave (st.paidF f f.opcode) rest 0 [] ∧ WInv T (B - (f.gas + gsum rest)) st.orig w3 ∧ ∀ a, st.now.warmA a = true → w3.warmA a = true := by
        obtain ⟨w2, ew2, hw2, hm2⟩ : ∃ w2, (if addrA ((st.paidF f f.opcode).arg 0) = (st.paidF f f.opcode).self then st.now.warm (addrA ((st.paidF f f.opcode).arg 0)) else (st.now.warm (addrA ((st.paidF f f.opcode).arg 0))).move (st.paidF f f.opcode).self (addrA ((st.paidF f f.opcode).arg 0)) ((st.now.warm (addrA ((st.paidF f f.opcode).arg 0))).bal (st.paidF f f.opcode).self)) = w2 ∧ WInv T (B - (f.gas + gsum rest)) st.orig w2 ∧ ∀ a, st.now.warmA a = true → w2.warmA a = true := by
          refine ⟨_, rfl, ?_, ?_⟩
          · split
            · exact hnow.warm _
            · exact (hnow.warm _).move _ _ _
          · intro a qa
            split
            · exact warm_up _ _ qa
            · rw [move_warm]; exact warm_up _ _ qa
        refine ⟨if w2.made (st.paidF f f.opcode).self then w2.markGone (st.paidF f f.opcode).self else w2, ?_, ?_, ?_⟩
        · unfold ASt.destroys; simp only [ew2]
        · split
          · exact hw2.markGone _
          · exact hw2
        · intro a qa
          split
          · exact hm2 a qa
          · exact hm2 a qa
      exact LEAVE { st with now := w3 } (st.paidF f f.opcode) 0 [] rfl (by omega) (by omega) rfl ew3.2.1 ew3.2.2 (e.trans ew3.1)
    by_cases h4 : f.opcode = 240 ∨ f.opcode = 245
    · have e : st.stepF f rest = st.enterCreate (st.paidF f f.opcode) rest f.opcode := by unfold ASt.stepF; rw [if_neg hpre]; simp only [if_neg hr, ePaid, if_neg h0, if_neg h1, if_neg h2, if_neg h3, if_pos h4]
      rw [e] at hok ⊢
      have := h.create hf hr0 rfl h4 hok
      rw [hf] at this
      exact this
    by_cases h5 : famA f.opcode = 16
    · have e : st.stepF f rest = st.enterCall (st.paidF f f.opcode) rest f.opcode := by unfold ASt.stepF; rw [if_neg hpre]; simp only [if_neg hr, ePaid, if_neg h0, if_neg h1, if_neg h2, if_neg h3, if_neg h4, if_pos h5]
      rw [e] at hok ⊢
      have ho : f.opcode = 241 ∨ f.opcode = 242 ∨ f.opcode = 244 ∨ f.opcode = 250 := by
        unfold famA at h5
        repeat' split at h5
        all_goals first | omega | skip
      have := h.call hf hr0 rfl ho hok
      rw [hf] at this
      exact this
    · have e : st.stepF f rest = st.plain (st.paidF f f.opcode) rest f.opcode := by unfold ASt.stepF; rw [if_neg hpre]; simp only [if_neg hr, ePaid, if_neg h0, if_neg h1, if_neg h2, if_neg h3, if_neg h4, if_neg h5]
      rw [e] at hok ⊢
      obtain ⟨r1, r2, r3⟩ := h.plain hf hr0 rfl ⟨h0, h1, h2⟩ hok
      refine ⟨r1, ?_⟩
      rw [r3]
      rw [hf] at r2 ⊢
      omega
end
end Go.Proofs.YgvahwGreat
