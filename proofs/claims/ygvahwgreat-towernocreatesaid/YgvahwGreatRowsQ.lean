import Derived.Test.YgvahwGreatMy
namespace Go.Proofs.YgvahwGreat
open Go.RowKit
/-- The first word and word k + 1 exchanged. -/
def swapL (l : List Nat) (k : Nat) : List Nat := l.getD (k + 1) 0 :: (l.drop 1).take k ++ l.getD 0 0 :: l.drop (k + 2)
theorem swapL_len (l : List Nat) (k : Nat) (hk : k + 1 < l.length) : (swapL l k).length = l.length := by
  simp [swapL]; omega
theorem swapL_get (l : List Nat) (k : Nat) (hk : k + 1 < l.length) (j : Nat) (hj : j < l.length) : (swapL l k)[j]? = if j = 0 then some (l.getD (k + 1) 0) else if j = k + 1 then some (l.getD 0 0) else l[j]? := by
  unfold swapL
  have hlt : (l.getD (k + 1) 0 :: (l.drop 1).take k).length = k + 1 := by simp; omega
  cases j with
  | zero => rfl
  | succ i =>
    rw [if_neg (by omega)]
    by_cases h1 : i + 1 < k + 1
    · rw [if_neg (by omega), List.getElem?_append_left (by rw [hlt]; exact h1), List.getElem?_cons_succ, List.getElem?_take_of_lt (by omega), List.getElem?_drop, Nat.add_comm]
    · rw [List.getElem?_append_right (by rw [hlt]; omega), hlt]
      by_cases h2 : i + 1 = k + 1
      · rw [if_pos h2, h2, Nat.sub_self]; rfl
      · rw [if_neg h2, show i + 1 - (k + 1) = (i - k - 1) + 1 by omega, List.getElem?_cons_succ, List.getElem?_drop]
        congr 1; omega
theorem swapL_lt {l : List Nat} {k : Nat} {N : Nat} (hN : 0 < N) (h : ∀ x ∈ l, x < N) : ∀ x ∈ swapL l k, x < N := by
  have hd : ∀ i, l.getD i 0 < N := fun i => by
    rw [List.getD_eq_getElem?_getD]
    cases hh : l[i]? with
    | none => exact hN
    | some y => exact h y (List.mem_of_getElem? hh)
  intro x hx
  unfold swapL at hx
  rcases List.mem_append.1 hx with hx | hx
  · rcases List.mem_cons.1 hx with rfl | hx
    · exact hd _
    · exact h x (List.mem_of_mem_drop (List.mem_of_mem_take hx))
  · rcases List.mem_cons.1 hx with rfl | hx
    · exact hd _
    · exact h x (List.mem_of_mem_drop hx)
section
variable {own : Nat → Nat} {w w' : World} {g : Nat} {c c' : Nat → Value} {V : EV} {st : ASt} {sn stale : List Nat} {f : AFrame} {rest : List AFrame} {s : Nat}
theorem FrC.swap {O O' : Nat → Prop} {n k : Nat} (h : FrC O w c n s f) (hn : ∀ v l, NL O w v l → NL O' w' v l) (hok : FOK { f with stack := swapL f.stack k, pc := f.pc + 1 }) (hk : k + 1 < f.stack.length) (hn7 : n < 7)
    (hc : ∀ j, j ≠ 1803 + n * 65 + 4 → (j < 11 + (64 * n + (f.stack.length - 1)) * 4 ∨ 11 + (64 * n + (f.stack.length - 1)) * 4 + 4 ≤ j) → (j < 11 + (64 * n + (f.stack.length - 1 - (k + 1))) * 4 ∨ 11 + (64 * n + (f.stack.length - 1 - (k + 1))) * 4 + 4 ≤ j) → c' j = c j)
    (h4 : c' (1803 + n * 65 + 4) = .int .u16 (f.pc + 1 : Nat)) (hx : WAt c' (11 + (64 * n + (f.stack.length - 1)) * 4) (f.arg (k + 1))) (hy : WAt c' (11 + (64 * n + (f.stack.length - 1 - (k + 1))) * 4) (f.arg 0)) :
    FrC O' w' c' n s { f with stack := swapL f.stack k, pc := f.pc + 1 } := by
  have hl := h.ok.sLen
  have hlow : ∀ j, 1803 + n * 65 ≤ j → j < 1803 + n * 65 + 65 → j ≠ 1803 + n * 65 + 4 → c' j = c j := fun j h1 h2 h3 => hc j h3 (by omega) (by omega)
  have hlen := swapL_len f.stack k hk
  exact {
    kind := by rw [hlow _ (by omega) (by omega) (by omega)]; exact h.kind
    pre := by rw [hlow _ (by omega) (by omega) (by omega)]; exact h.pre
    static := by rw [hlow _ (by omega) (by omega) (by omega)]; exact h.static
    pc := h4
    sb := by rw [hlow _ (by omega) (by omega) (by omega)]; exact h.sb
    sp := by rw [hlow _ (by omega) (by omega) (by omega), show (swapL f.stack k).length = f.stack.length from hlen]; exact h.sp
    gas := by rw [hlow _ (by omega) (by omega) (by omega)]; exact h.gas
    snap := by rw [hlow _ (by omega) (by omega) (by omega)]; exact h.snap
    self := h.self.same h.ok.self fun j hj => hlow _ (by omega) (by omega) (by omega)
    caller := h.caller.same h.ok.caller fun j hj => hlow _ (by omega) (by omega) (by omega)
    value := ⟨by rw [hlow _ (by omega) (by omega) (by omega)]; exact h.value.c0, by rw [hlow _ (by omega) (by omega) (by omega)]; exact h.value.c1, by rw [hlow _ (by omega) (by omega) (by omega)]; exact h.value.c2, by rw [hlow _ (by omega) (by omega) (by omega)]; exact h.value.c3⟩
    code := by rw [hlow _ (by omega) (by omega) (by omega)]; exact hn _ _ h.code
    input := by rw [hlow _ (by omega) (by omega) (by omega)]; exact hn _ _ h.input
    dests := fun j hj => by rw [hlow _ (by omega) (by omega) (by omega)]; exact h.dests j hj
    outOff := by rw [hlow _ (by omega) (by omega) (by omega)]; exact h.outOff
    outLen := by rw [hlow _ (by omega) (by omega) (by omega)]; exact h.outLen
    stack := fun j hj => by
      have hj2 : j < f.stack.length := by rw [← hlen]; exact hj
      have hg := swapL_get f.stack k hk j hj2
      rw [List.getElem?_eq_getElem (by rw [hlen]; exact hj2)] at hg
      show WAt c' (11 + (64 * n + ((swapL f.stack k).length - 1 - j)) * 4) (swapL f.stack k)[j]
      rw [hlen]
      by_cases h0 : j = 0
      · rw [if_pos h0] at hg
        injection hg with hg
        rw [hg, h0]; exact hx
      · rw [if_neg h0] at hg
        by_cases h1 : j = k + 1
        · rw [if_pos h1] at hg
          injection hg with hg
          rw [hg, h1]; exact hy
        · rw [if_neg h1, List.getElem?_eq_getElem hj2] at hg
          injection hg with hg
          rw [hg]
          have := h.stack j hj2
          exact ⟨by rw [hc _ (by omega) (by omega) (by omega)]; exact this.c0, by rw [hc _ (by omega) (by omega) (by omega)]; exact this.c1, by rw [hc _ (by omega) (by omega) (by omega)]; exact this.c2, by rw [hc _ (by omega) (by omega) (by omega)]; exact this.c3⟩
    ok := hok }
/-- Two words of the top frame are exchanged. -/
theorem MRep.swap {k : Nat} (h : MRep own w g c V st (s :: sn) stale) (hst : st.frames = f :: rest) (hk : k + 1 < f.stack.length) (hpc : f.pc + 1 ≤ 60000) (hm : Mod (· = g) w w') (hB : Blk w' g 27024 105 c')
    (hc : ∀ j, j ≠ 1803 + rest.length * 65 + 4 → (j < 11 + (64 * rest.length + (f.stack.length - 1)) * 4 ∨ 11 + (64 * rest.length + (f.stack.length - 1)) * 4 + 4 ≤ j) → (j < 11 + (64 * rest.length + (f.stack.length - 1 - (k + 1))) * 4 ∨ 11 + (64 * rest.length + (f.stack.length - 1 - (k + 1))) * 4 + 4 ≤ j) → c' j = c j)
    (h4 : c' (1803 + rest.length * 65 + 4) = .int .u16 (f.pc + 1 : Nat)) (hx : WAt c' (11 + (64 * rest.length + (f.stack.length - 1)) * 4) (f.arg (k + 1))) (hy : WAt c' (11 + (64 * rest.length + (f.stack.length - 1 - (k + 1))) * 4) (f.arg 0)) :
    MRep own w' g c' V { st with frames := { f with stack := swapL f.stack k, pc := f.pc + 1 } :: rest } (s :: sn) stale ∧ MStep own w own w' := by
  obtain ⟨hf, hl7⟩ := h.frame hst
  have hl := hf.ok.sLen
  refine ⟨h.top_ hst hm hB ?_ ?_ rfl rfl, MStep.ofG h.v.tag hm⟩
  · intro j hj
    have h1 := hj.1
    have h2 := hj.2
    exact hc j (by omega) (by omega) (by omega)
  · exact hf.swap (fun v l q => (Keep.here h.v hm).nl q) ⟨hf.ok.kind, hf.ok.pre, hpc, by rw [show ({ f with stack := swapL f.stack k, pc := f.pc + 1 } : AFrame).stack = swapL f.stack k from rfl, swapL_len _ _ hk]; exact hl, swapL_lt (by decide) hf.ok.sLt, hf.ok.gas, hf.ok.self, hf.ok.caller, hf.ok.value, hf.ok.code, hf.ok.mLen, hf.ok.m32, hf.ok.oLt, hf.ok.lLt, hf.ok.out⟩ hk hl7 hc h4 hx hy
end
end Go.Proofs.YgvahwGreat
