import Derived.Test.YgvahwGreatSv
import Derived.Test.YgvahwGreatIvc
import Derived.Test.YgvahwGreatYx
import Derived.Test.YgvahwGreatIve
namespace Go.Proofs.YgvahwGreat
open Go.RowKit
set_option linter.unusedVariables false
theorem mlen_of {n : Nat} (h : memCostA (n / 32) ≤ 1048576) (h32 : n % 32 = 0) : n ≤ 717280 := by
  rcases Nat.lt_or_ge 22415 (n / 32) with q | q
  · have := memCost_mono (a := 22416) (b := n / 32) q
    have e : memCostA 22416 = 1048648 := by decide
    omega
  · omega
theorem grow_all (m : List Nat) (t : Nat) (h : m.length % 32 = 0) : (growA m t).length % 32 = 0 ∧ m.length ≤ (growA m t).length ∧ t ≤ (growA m t).length := by
  unfold growA
  split
  · rename_i q
    have e : (m ++ List.replicate (32 * wordsA t - m.length) 0).length = 32 * wordsA t := by
      simp; omega
    rw [e]
    unfold wordsA at *
    omega
  · rename_i q
    unfold wordsA at q
    omega
theorem FOK.lessGas {f : AFrame} (h : FOK f) {g : Nat} (hg : g ≤ 1048576) : FOK { f with gas := g } :=
  ⟨h.kind, h.pre, h.pc, h.sLen, h.sLt, hg, h.self, h.caller, h.value, h.code, h.mLen, h.m32, h.oLt, h.lLt, h.out⟩
/-- A frame that has paid. -/
theorem FOK.paid {st : ASt} {f : AFrame} {o : Nat} (h : FOK f) (hc : st.cost f o ≤ f.gas) (hm : f.gas + mcost f ≤ 1048576) : FOK { f with gas := f.gas - st.cost f o } ∧ f.reach o ≤ 717280 ∧ FOK (st.paidF f o) ∧ f.reach o ≤ (st.paidF f o).mem.length := by
  obtain ⟨g1, g2, g3⟩ := grow_all f.mem (f.reach o) h.m32
  have hp := (paid_le (st := st) (f := f) (o := o) hc).1
  have hg := h.gas
  have hl : (growA f.mem (f.reach o)).length ≤ 717280 := mlen_of (by
    show mcost (st.paidF f o) ≤ _
    omega) g1
  refine ⟨h.lessGas (by omega), by omega, ⟨h.kind, h.pre, h.pc, h.sLen, h.sLt, ?_, h.self, h.caller, h.value, h.code, hl, g1, h.oLt, h.lLt, fun q => Nat.le_trans (h.out q) g2⟩, g3⟩
  show f.gas - st.cost f o ≤ 1048576
  omega
theorem FOK.drop {f : AFrame} (h : FOK f) (k : Nat) : FOK { f with stack := f.stack.drop k } :=
  ⟨h.kind, h.pre, h.pc, by have := h.sLen; simp; omega, fun x hx => h.sLt x (List.mem_of_mem_drop hx), h.gas, h.self, h.caller, h.value, h.code, h.mLen, h.m32, h.oLt, h.lLt, h.out⟩
theorem FOK.putMem {f : AFrame} (h : FOK f) {m : List Nat} (hm : m.length = f.mem.length) : FOK { f with mem := m } :=
  ⟨h.kind, h.pre, h.pc, h.sLen, h.sLt, h.gas, h.self, h.caller, h.value, h.code, by rw [hm]; exact h.mLen, by rw [hm]; exact h.m32, h.oLt, h.lLt, by rw [hm]; exact h.out⟩
/-- What a frame pushes behind a drop. -/
theorem FOK.settle1 {f : AFrame} (h : FOK f) {k v s : Nat} (hv : v < P256) (hs : f.stack.length - k < 64) (hp : f.pc + s ≤ 60000) : FOK (f.settle k [v] s) :=
  ⟨h.kind, h.pre, hp, by simp [AFrame.settle]; omega, fun x hx => by
    simp only [AFrame.settle, List.singleton_append, List.mem_cons] at hx
    rcases hx with rfl | hx
    · exact hv
    · exact h.sLt x (List.mem_of_mem_drop hx), h.gas, h.self, h.caller, h.value, h.code, h.mLen, h.m32, h.oLt, h.lLt, h.out⟩
theorem FOK.settle0 {f : AFrame} (h : FOK f) {k s : Nat} (hp : f.pc + s ≤ 60000) : FOK (f.settle k [] s) :=
  ⟨h.kind, h.pre, hp, by have := h.sLen; simp [AFrame.settle]; omega, fun x hx => h.sLt x (by
    simp only [AFrame.settle, List.nil_append] at hx
    exact List.mem_of_mem_drop hx), h.gas, h.self, h.caller, h.value, h.code, h.mLen, h.m32, h.oLt, h.lLt, h.out⟩
theorem plain_gs (st : ASt) (f : AFrame) (rest : List AFrame) (o : Nat) : gsum (st.plain f rest o).frames = f.gas + gsum rest := by
  unfold ASt.plain
  split
  · simp [gsum]
  split
  · simp [gsum, AFrame.settle]
  split
  · simp [gsum]
  split
  · simp [gsum, AFrame.settle]
  · simp [gsum, AFrame.settle]
theorem leave_gs (st : ASt) (f : AFrame) (rest : List AFrame) (s : Nat) (out : List Nat) : gsum (st.leave f rest s out).frames ≤ f.gas + gsum rest := by
  have hd := lvG_le f s out
  cases rest with
  | nil => exact Nat.zero_le _
  | cons p rest =>
    have e : gsum (st.leave f (p :: rest) s out).frames = p.gas + lvG f s out + gsum rest := rfl
    rw [e, gsum_cons]
    omega
/-- What a step starts from. -/
structure ZrP (K T B : Nat) (O TL : Nat → Prop) (w : World) (Y F n : Nat) (c d : Nat → Value) (W : YW) (start : List (Nat × Nat × Nat)) (st : ASt) (tot : Nat) (x : YFrm) (r : List YFrm) : Prop where
  z : YZ O TL w Y F n c d W start st tot (x :: r)
  ph : st.phase = 1
  ai : AInv T B st
  si : SInv K W (gsum st.frames) (x :: r)
  hT : T < P256
  hK : K ≤ 4400000
  ok : ∀ y ∈ (st.stepF x.f (r.map (·.f))).frames, FOK y
/-- What a step leaves. -/
def YRn (K : Nat) (O : Nat → Prop) (w w' : World) (Y : Nat) (start : List (Nat × Nat × Nat)) (st' : ASt) (tot : Nat) : Prop :=
  ∃ O' TL' F' n' c' d' W' L', YZ O' TL' w' Y F' n' c' d' W' start st' tot L' ∧ SInv K W' (gsum st'.frames) L' ∧ (∀ b, b < w.heap.size → (O' b ↔ O b)) ∧ Mod O w w'
section
variable {K T B : Nat} {O TL : Nat → Prop} {w : World} {Y F n : Nat} {c d : Nat → Value} {W : YW} {start : List (Nat × Nat × Nat)} {st : ASt} {tot : Nat} {x : YFrm} {r : List YFrm}
theorem ZrP.fr (h : ZrP K T B O TL w Y F n c d W start st tot x r) : st.frames = x.f :: r.map (·.f) := h.z.frs
theorem ZrP.fok (h : ZrP K T B O TL w Y F n c d W start st tot x r) : FOK x.f := h.z.top.ok
theorem ZrP.gs (h : ZrP K T B O TL w Y F n c d W start st tot x r) : gsum st.frames = x.f.gas + gsum (r.map (·.f)) := by rw [h.fr, gsum_cons]
theorem ZrP.gm (h : ZrP K T B O TL w Y F n c d W start st tot x r) : x.f.gas + mcost x.f + (gsum (r.map (·.f)) + msum (r.map (·.f))) ≤ 1048576 := by
  have := h.ai.gas
  rw [h.fr, gsum_cons, msum_cons] at this
  have := h.ai.hB
  omega
theorem ZrP.siz (h : ZrP K T B O TL w Y F n c d W start st tot x r) : W.siz ≤ 88000 := h.si.siz h.hK
theorem ZrP.now (h : ZrP K T B O TL w Y F n c d W start st tot x r) : WInv T 2097152 st.orig W.abs := by
  rw [← h.z.now]
  exact h.ai.now.mono (by have := h.ai.hB; omega)
theorem ZrP.lim (h : ZrP K T B O TL w Y F n c d W start st tot x r) {W' : YW} (k : Nat) (hs : W'.siz ≤ W.siz + k) (hk : k ≤ 2000) (hw : WInv T 2097152 st.orig W'.abs) : YLim W' := by
  have := h.siz
  exact YLim.inv (by omega) hw h.hT (by decide)
theorem ZrP.par (h : ZrP K T B O TL w Y F n c d W start st tot x r) {g : Nat} (hg : g ≤ x.f.gas) : ∀ p r', r = p :: r' → p.f.gas + g ≤ 1048576 ∧ p.f.stack.length < 64 ∧ p.f.pc < 60000 := by
  intro p r' e
  have h1 := h.ai.wait x.f (r.map (·.f)) h.fr p.f (by rw [e]; simp)
  have h2 := h.gm
  rw [e] at h2
  simp only [List.map_cons, gsum_cons] at h2
  exact ⟨by omega, h1.2, by omega⟩
/-- An instruction that grows the lists by k places. -/
theorem ZrP.fin (h : ZrP K T B O TL w Y F n c d W start st tot x r) {w' : World} {W' : YW} {st' : ASt} {S : YW → Prop} (k : Nat) (q : YNx O w w' Y W' start st' tot S) (hw : W'.siz ≤ W.siz + k) (hg : gsum st'.frames + 50 * k ≤ gsum st.frames) (hS : ∀ v, S v → v = W ∨ v = W' ∨ ∃ z ∈ x :: r, v = z.sv) : YRn K O w w' Y start st' tot := by
  obtain ⟨O', TL', F', n', c', d', L', hY, hO, hM, hs⟩ := q
  exact ⟨O', TL', F', n', c', d', W', L', hY, h.si.go hw hg (fun y hy => hS _ (hs y hy)), hO, hM⟩
theorem dep_zero {g : Nat} {out : List Nat} (h : (depositA g out).2 = 0) : out.length ≤ 256 := by
  unfold depositA at h
  split at h
  · cases h
  · omega
/-- A frame's end. -/
theorem sinvLeave {L' : List YFrm} {g : Nat} {f1 : AFrame} {s : Nat} {out : List Nat} {st2 : ASt} (h : SInv K W g (x :: r)) (hg : f1.gas + gsum (r.map (·.f)) ≤ g) (hL : ∀ y ∈ L', ∃ z ∈ x :: r, y.sv = z.sv) : SInv K (lvW W { x with f := f1 } s out) (gsum (st2.leave f1 (r.map (·.f)) s out).frames) L' := by
  have h1 := leave_gs st2 f1 (r.map (·.f)) s out
  unfold lvW
  split
  · rename_i q
    split
    · rename_i q2
      have q3 : createsA f1.kind = true ∧ s = 0 := by
        have := q2.1
        unfold lvDep at this
        simpa using this
      have q4 : (depositA f1.gas out).2 = 0 := by
        have q5 : lvS f1 s out = 0 := q
        unfold lvS at q5
        rw [if_pos q2.1] at q5
        exact q5
      have h2 := leave_dep (st := st2) (f := f1) (rest := r.map (·.f)) q3.1 q4 q2.2
      rw [q3.2] at h1 ⊢
      exact h.go (siz_setCode W f1.self out) (by omega) (fun y hy => Or.inr (Or.inr (hL y hy)))
    · exact h.go (k := 0) (Nat.le_refl _) (by omega) (fun y hy => Or.inr (Or.inr (hL y hy)))
  · exact h.back (x := x) (by simp) (by omega) hL
theorem ZrP.finL (h : ZrP K T B O TL w Y F n c d W start st tot x r) {w' : World} {W2 : YW} {st2 : ASt} {f1 : AFrame} {s : Nat} {out : List Nat} (k : Nat) (hw : W2.siz ≤ W.siz + k) (hg : f1.gas + 50 * k ≤ x.f.gas) (e : st.stepF x.f (r.map (·.f)) = st2.leave f1 (r.map (·.f)) s out) (q : YNx O w w' Y (lvW W2 { x with f := f1 } s out) start (st.stepF x.f (r.map (·.f))) tot (fun v => ∃ z ∈ x :: r, v = z.sv)) : YRn K O w w' Y start (st.stepF x.f (r.map (·.f))) tot := by
  obtain ⟨O', TL', F', n', c', d', L', hY, hO, hM, hs⟩ := q
  have h0 := h.gs
  have h2 : SInv K W2 (f1.gas + gsum (r.map (·.f))) (x :: r) := h.si.go hw (by omega) (fun y hy => Or.inr (Or.inr ⟨y, hy, rfl⟩))
  have h3 := sinvLeave (L' := L') (f1 := f1) (s := s) (out := out) (st2 := st2) h2 (Nat.le_refl _) hs
  rw [← e] at h3
  exact ⟨O', TL', F', n', c', d', _, L', hY, h3, hO, hM⟩
theorem ZrP.code (h : ZrP K T B O TL w Y F n c d W start st tot x r) {W2 : YW} {k : Nat} (hw : W2.siz ≤ W.siz + k) (hk : k ≤ 1000) (hi : WInv T 2097152 st.orig W2.abs) {f1 : AFrame} {s : Nat} {out : List Nat} {a : Nat} : lvDep f1 s = true → lvS f1 s out = 0 → YLim (W2.setCode a out) := by
  intro q1 q2
  unfold lvS at q2
  rw [if_pos q1] at q2
  exact h.lim (k + 1) (Nat.le_trans (siz_setCode W2 a out) (by omega)) (by omega) (by rw [YW.setCode_abs]; exact hi.setCode a out (dep_zero q2))
theorem ZrP.opLt (h : ZrP K T B O TL w Y F n c d W start st tot x r) : x.f.opcode < 256 := by
  obtain ⟨_, _, _, _, _, q⟩ := h.z.top.fc.code
  unfold AFrame.opcode List.getD
  cases e : x.f.code[x.f.pc]? with
  | none => exact (by decide : (0 : Nat) < 256)
  | some y => exact q.1 y (List.mem_of_getElem? e)
theorem refusal_lt (st : ASt) (f : AFrame) (o : Nat) : st.refusal f o < 256 := by
  unfold ASt.refusal
  split
  · decide
  split
  · decide
  split
  · decide
  split
  · decide
  split
  · decide
  split
  · decide
  split
  · decide
  split
  · decide
  split
  · decide
  · decide
theorem stepF_plain {f : AFrame} {rest : List AFrame} {o : Nat} (hpre : f.pre = 0) (hr : st.refusal f f.opcode = 0) (hop : f.opcode = o) (hn0 : o ≠ 0 ∧ o ≠ 243 ∧ o ≠ 253 ∧ o ≠ 255) (hfa : famA o ≠ 16) : st.stepF f rest = st.plain (st.paidF f o) rest o := by
  have h5 : ¬ (o = 240 ∨ o = 245) := fun q => hfa (by rcases q with q | q <;> rw [q] <;> rfl)
  rw [stepF_go hpre hr, hop, if_neg hn0.1, if_neg hn0.2.1, if_neg hn0.2.2.1, if_neg hn0.2.2.2, if_neg h5, if_neg hfa]
/-- What is known of a frame that has paid. -/
structure ZrQ (st : ASt) (f : AFrame) (rest : List AFrame) (o : Nat) : Prop where
  ok : FOK (st.paidF f o)
  ok1 : FOK { f with gas := f.gas - st.cost f o }
  tk : takesA o ≤ f.stack.length
  gv : f.stack.length - takesA o + givesA o ≤ 64
  re : f.reach o ≤ 717280
  rm : f.reach o ≤ (st.paidF f o).mem.length
  gas : (st.paidF f o).gas + st.bareCost f o ≤ f.gas
  pc : o ≠ 0 → f.pc < 512
theorem ZrP.q (h : ZrP K T B O TL w Y F n c d W start st tot x r) {o : Nat} (hop : x.f.opcode = o) (hr : st.refusal x.f x.f.opcode = 0) : ZrQ st x.f (r.map (·.f)) o := by
  rw [hop] at hr
  obtain ⟨_, htk, hgv, hc, _, _⟩ := refusal_zero hr
  have hg := h.gm
  obtain ⟨h1, h2, h3, h4⟩ := h.fok.paid hc (by omega)
  exact ⟨h3, h1, htk, hgv, h2, h4, (paid_le hc).2, fun q => by
    have := pc_lt (f := x.f) (by rw [hop]; exact q)
    have := h.fok.code
    omega⟩
/-- A plain instruction that costs 50 a place. -/
theorem ZrP.plain (h : ZrP K T B O TL w Y F n c d W start st tot x r) (hpre : x.f.pre = 0) (o : Nat) (ho : o < 256) (hop : x.f.opcode = o) (hr : st.refusal x.f x.f.opcode = 0) (hn0 : o ≠ 0 ∧ o ≠ 243 ∧ o ≠ 253 ∧ o ≠ 255) (hfa : famA o ≠ 16) (W' : YW) (k : Nat) (hs : W'.siz ≤ W.siz + k) (hb : 50 * k ≤ st.bareCost x.f o)
    (HP : ZrQ st x.f (r.map (·.f)) o → st.stepF x.f (r.map (·.f)) = st.plain (st.paidF x.f o) (r.map (·.f)) o → ∀ O' W1 d' TM', YZ O' TL W1 Y F n c d' W start { st with frames := st.paidF x.f o :: r.map (·.f) } tot (⟨st.paidF x.f o, x.sv, TM'⟩ :: r) → Calls Hvah.prog 76 #[.pointer (some ⟨Y, 0, none⟩), .pointer (some ⟨F, r.length * 60, none⟩), .int .u8 o] W1 fun e w' => e = .returned (.tuple #[]) ∧ YPl O' TL W1 w' Y F n W' start (({ st with frames := st.paidF x.f o :: r.map (·.f) } : ASt).plain (st.paidF x.f o) (r.map (·.f)) o) tot ⟨st.paidF x.f o, x.sv, TM'⟩ r) :
    Calls Hvah.prog 30 #[.pointer (some ⟨Y, 0, none⟩)] w fun e w' => e = .returned (.bool true) ∧ YRn K O w w' Y start (st.stepF x.f (r.map (·.f))) tot := by
  have q := h.q hop hr
  have e3 := stepF_plain (st := st) (rest := r.map (·.f)) hpre hr hop hn0 hfa
  refine (zsPlain h.z h.ph hpre o ho hop hr q.ok1 q.re q.ok hn0 hfa W' (HP q e3)).mono ?_
  rintro e w' ⟨rfl, k2⟩
  refine ⟨rfl, h.fin k k2 hs ?_ (fun v hv => Or.inr (Or.inr hv))⟩
  rw [e3, plain_gs]
  have := h.gs
  have := q.gas
  omega
theorem ZrP.okV (h : ZrP K T B O TL w Y F n c d W start st tot x r) {o : Nat} {xv : Nat} (e3 : st.stepF x.f (r.map (·.f)) = st.plain (st.paidF x.f o) (r.map (·.f)) o) (hn : o < 128 ∧ o ≠ 86 ∧ o ≠ 87) (hg : givesA o = 1) (hv : st.value (st.paidF x.f o) o = xv) : FOK ((st.paidF x.f o).settle (takesA o) [xv] (1 + immA o)) := by
  have k := h.ok ((st.paidF x.f o).settle (takesA o) [st.value (st.paidF x.f o) o] (1 + immA o)) (by
    rw [e3]
    unfold ASt.plain
    rw [if_neg (by omega), if_neg (by omega), if_neg (by omega), if_pos hg]
    exact List.mem_cons_self ..)
  rw [hv] at k
  exact k
end
end Go.Proofs.YgvahwGreat
