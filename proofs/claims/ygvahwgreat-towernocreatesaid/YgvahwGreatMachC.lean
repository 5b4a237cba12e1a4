import Derived.Test.YgvahwGreatMachB
import Derived.Test.YgvahwGreatSpike
import Derived.Test.YgvahwGreatVaultS
namespace Go.Proofs.YgvahwGreat
open Go.RowKit

section
variable {own : Nat → Nat} {w w' : World} {g : Nat} {c c' : Nat → Value} {V : EV}
theorem VRep.low (h : VRep own w g c V) (hB : Blk w' g 27024 105 c') (hcF : ∀ i, 2435 ≤ i → c' i = c i) (hm : Mod (· = g) w w') : VRep own w' g c' V := by
  have K := Keep.here h hm
  refine ⟨hB, h.tag, fun x hx => h.fresh x (Nat.le_trans hm.size hx), h.wf, h.jok, h.nA, h.nS, h.nT, h.nJ, h.nL, h.nM, ?_, ?_, ?_, ?_, ?_, ?_, ?_, ?_, ?_, ?_, ?_, h.rLt⟩
  · rw [hcF 2435 (by omega)]; exact K.row h.accts (fun _ _ _ k => K.acct (fun _ _ => rfl) k) (by decide) (by decide)
  · rw [hcF 2436 (by omega)]; exact K.row h.slots (fun _ _ _ k => k) (by decide) (by decide)
  · rw [hcF 27017 (by omega)]; exact K.row h.temps (fun _ _ _ k => k) (by decide) (by decide)
  · rw [hcF 10629 (by omega)]; exact K.row h.jrn (fun _ _ _ k => K.je (fun _ _ => rfl) k) (by decide) (by decide)
  · rw [hcF 27016 (by omega)]; exact K.row h.logs (fun _ _ _ k => K.log (fun _ _ => rfl) k) (by decide) (by decide)
  · obtain ⟨t2, q1, q2⟩ := h.tA
    exact ⟨t2, fun p hp => by rw [hcF _ (by omega)]; exact q1 p hp, q2⟩
  · obtain ⟨t2, q1, q2⟩ := h.tS
    exact ⟨t2, fun p hp => by rw [hcF _ (by omega)]; exact q1 p hp, q2⟩
  · rw [hcF 27018 (by omega)]
    rcases h.tT with q | ⟨t2, q1, q2⟩
    · exact Or.inl q
    · exact Or.inr ⟨t2, K.tab q1 (by decide), q2⟩
  · intro id hid
    have := h.nM
    rw [hcF _ (by omega)]; exact h.marks id hid
  · rw [hcF 27014 (by omega)]; exact h.nm
  · rw [hcF 27015 (by omega)]; exact h.ref
end
theorem FrC.area {O O' : Nat → Prop} {w w' : World} {c c' : Nat → Value} {i s : Nat} {f : AFrame} (h : FrC O w c i s f) (hs : ∀ j, 11 + 256 * i ≤ j → j < 11 + 256 * i + 256 → c' j = c j) (hc : ∀ j, 1803 + i * 65 ≤ j → j < 1803 + i * 65 + 65 → c' j = c j) (hn : ∀ v l, NL O w v l → NL O' w' v l) : FrC O' w' c' i s f where
  kind := by rw [hc _ (by omega) (by omega)]; exact h.kind
  pre := by rw [hc _ (by omega) (by omega)]; exact h.pre
  static := by rw [hc _ (by omega) (by omega)]; exact h.static
  pc := by rw [hc _ (by omega) (by omega)]; exact h.pc
  sb := by rw [hc _ (by omega) (by omega)]; exact h.sb
  sp := by rw [hc _ (by omega) (by omega)]; exact h.sp
  gas := by rw [hc _ (by omega) (by omega)]; exact h.gas
  snap := by rw [hc _ (by omega) (by omega)]; exact h.snap
  self := h.self.same h.ok.self fun j hj => hc _ (by omega) (by omega)
  caller := h.caller.same h.ok.caller fun j hj => hc _ (by omega) (by omega)
  value := ⟨by rw [hc _ (by omega) (by omega)]; exact h.value.c0, by rw [hc _ (by omega) (by omega)]; exact h.value.c1, by rw [hc _ (by omega) (by omega)]; exact h.value.c2, by rw [hc _ (by omega) (by omega)]; exact h.value.c3⟩
  code := by rw [hc _ (by omega) (by omega)]; exact hn _ _ h.code
  input := by rw [hc _ (by omega) (by omega)]; exact hn _ _ h.input
  dests := fun j hj => by rw [hc _ (by omega) (by omega)]; exact h.dests j hj
  outOff := by rw [hc _ (by omega) (by omega)]; exact h.outOff
  outLen := by rw [hc _ (by omega) (by omega)]; exact h.outLen
  stack := fun j hj => by
    have h1 := h.ok.sLen
    have h2 := h.stack j hj
    exact ⟨by rw [hs _ (by omega) (by omega)]; exact h2.c0, by rw [hs _ (by omega) (by omega)]; exact h2.c1, by rw [hs _ (by omega) (by omega)]; exact h2.c2, by rw [hs _ (by omega) (by omega)]; exact h2.c3⟩
  ok := h.ok
/-- Outside of frame n's two areas. -/
def offTop (n j : Nat) : Prop := (j < 11 + 256 * n ∨ 11 + 256 * n + 256 ≤ j) ∧ (j < 1803 + n * 65 ∨ 1803 + n * 65 + 65 ≤ j)
theorem FrL.low {O O' : Nat → Prop} {w w' : World} {c c' : Nat → Value} {n : Nat} (hn7 : n < 7) (hc : ∀ j, j < 2435 → offTop n j → c' j = c j) (hn : ∀ v l, NL O w v l → NL O' w' v l) : ∀ {l : List AFrame} {sn : List Nat}, l.length ≤ n → FrL O w c l sn → FrL O' w' c' l sn
  | [], [], _, _ => trivial
  | _ :: r, _ :: _, hl, h => by
    rw [List.length_cons] at hl
    refine ⟨h.1.area (fun j h1 h2 => hc j (by omega) ⟨by omega, by omega⟩) (fun j h1 h2 => hc j (by omega) ⟨by omega, by omega⟩) hn, FrL.low hn7 hc hn (by omega) h.2⟩
section
variable {own : Nat → Nat} {w w' : World} {g : Nat} {c c' : Nat → Value} {V : EV} {st : ASt} {sn stale : List Nat} {f f' : AFrame} {rest : List AFrame} {s : Nat}
/-- The top frame changes, its memory stands. -/
theorem MC.top_ (h : MC own w g c st (s :: sn) stale) (hst : st.frames = f :: rest) (hv : VRep own w g c V) (hm : Mod (· = g) w w') (hc : ∀ j, j < 2435 → offTop rest.length j → c' j = c j) (hf : FrC (Mu own) w' c' rest.length s f') (hmem : f'.mem = f.mem) :
    MC own w' g c' { st with frames := f' :: rest } (s :: sn) stale := by
  have K := Keep.here hv hm
  have hfs := h.frs
  have hmm := h.mem
  rw [hst] at hfs hmm
  have hl7 : rest.length < 7 := by have := hmm.few; simp at this; omega
  have hfar : ∀ j, j < 11 ∨ (2258 ≤ j ∧ j < 2435) → c' j = c j := fun j hj => hc j (by omega) ⟨by omega, by omega⟩
  have ht := h.top
  rw [hst] at ht
  refine ⟨(hfar 0 (by omega)).trans h.ptr, ?_, ⟨hf, FrL.low hl7 hc (fun v l k => K.nl k) (Nat.le_refl _) hfs.2⟩, (hfar _ (by omega)).trans ht, by rw [hfar _ (by omega)]; exact K.nl h.ret, h.env.same (fun j h1 h2 => hfar j (by omega)) (fun v l k => K.wl k), h.origin.same h.oLt (fun j hj => hfar _ (by omega)), h.oLt, ⟨by rw [hfar _ (by omega)]; exact h.price.c0, by rw [hfar _ (by omega)]; exact h.price.c1, by rw [hfar _ (by omega)]; exact h.price.c2, by rw [hfar _ (by omega)]; exact h.price.c3⟩, h.pLt, (hfar _ (by omega)).trans h.phase, h.hLt, (hfar _ (by omega)).trans h.status, h.sLt, (hfar _ (by omega)).trans h.applied, h.aLt, (hfar _ (by omega)).trans h.limit, h.lLt, h.made.same h.mLt (fun j hj => hfar _ (by omega)), h.mLt, fun q => (by cases q), h.fLt⟩
  have hms : (f' :: rest).map (·.mem) = (f :: rest).map (·.mem) := by simp [hmem]
  show MemC own w' c' ((f' :: rest).map (·.mem)) stale
  rw [hms]
  exact ⟨(hfar _ (by omega)).trans hmm.top, hmm.base.same hmm.few (fun j h1 h2 => hfar j (by omega)), by rw [hfar _ (by omega)]; exact K.row hmm.buf (fun _ _ _ k => k) (by decide) (by decide), hmm.few, hmm.size, hmm.stl⟩
/-- The frame's stack and place change. -/
theorem FrC.settle {O O' : Nat → Prop} {n takes step : Nat} {push : List Nat} (h : FrC O w c n s f) (hn : ∀ v l, NL O w v l → NL O' w' v l) (hok : FOK (f.settle takes push step)) (hp : push.length ≤ 1) (ht : takes ≤ f.stack.length)
    (hc : ∀ j, j ≠ 1803 + n * 65 + 6 → j ≠ 1803 + n * 65 + 4 → (j < 11 + (64 * n + (f.stack.length - takes)) * 4 ∨ 11 + (64 * n + (f.stack.length - takes)) * 4 + 4 ≤ j) → c' j = c j)
    (h6 : c' (1803 + n * 65 + 6) = .int .u16 (f.stack.length - takes + push.length : Nat)) (h4 : c' (1803 + n * 65 + 4) = .int .u16 (f.pc + step : Nat)) (hx : ∀ x, push = [x] → WAt c' (11 + (64 * n + (f.stack.length - takes)) * 4) x) (hn7 : n < 7) :
    FrC O' w' c' n s (f.settle takes push step) := by
  have hl := h.ok.sLen
  have hlow : ∀ j, 1803 + n * 65 ≤ j → j < 1803 + n * 65 + 65 → j ≠ 1803 + n * 65 + 6 → j ≠ 1803 + n * 65 + 4 → c' j = c j := fun j h1 h2 h3 h4 => hc j h3 h4 (by omega)
  have hlen : (f.settle takes push step).stack.length = f.stack.length - takes + push.length := by simp [AFrame.settle]; omega
  have hold : ∀ k (hk : k < f.stack.length - takes), WAt c' (11 + (64 * n + (f.stack.length - takes - 1 - k)) * 4) (f.stack[takes + k]'(by omega)) := fun k hk => by
    have := h.stack (takes + k) (by omega)
    rw [show f.stack.length - 1 - (takes + k) = f.stack.length - takes - 1 - k by omega] at this
    exact ⟨by rw [hc _ (by omega) (by omega) (by omega)]; exact this.c0, by rw [hc _ (by omega) (by omega) (by omega)]; exact this.c1, by rw [hc _ (by omega) (by omega) (by omega)]; exact this.c2, by rw [hc _ (by omega) (by omega) (by omega)]; exact this.c3⟩
  have hpp : push = [] ∨ ∃ x, push = [x] := by
    cases push with
    | nil => exact Or.inl rfl
    | cons x l => cases l with
      | nil => exact Or.inr ⟨x, rfl⟩
      | cons y l => simp at hp
  have hstk : ∀ j (hj : j < (f.settle takes push step).stack.length), WAt c' (11 + (64 * n + ((f.settle takes push step).stack.length - 1 - j)) * 4) (f.settle takes push step).stack[j] := by
    intro j hj
    have hj2 : j < f.stack.length - takes + push.length := by rw [← hlen]; exact hj
    have hgen : ∀ y, (f.settle takes push step).stack[j]? = some y → WAt c' (11 + (64 * n + (f.stack.length - takes + push.length - 1 - j)) * 4) y := by
      rcases hpp with rfl | ⟨x, rfl⟩
      · intro y hy
        have e : (f.settle takes [] step).stack = f.stack.drop takes := rfl
        rw [e, List.getElem?_drop] at hy
        have := hold j (by simpa using hj2)
        rw [List.getElem?_eq_getElem (by simp at hj2; omega)] at hy
        injection hy with hy
        rw [← hy]
        simpa using this
      · intro y hy
        have e : (f.settle takes [x] step).stack = x :: f.stack.drop takes := rfl
        rw [e] at hy
        cases j with
        | zero =>
          simp at hy
          rw [← hy]
          simpa using hx x rfl
        | succ k =>
          have hk : k < f.stack.length - takes := by simp at hj2; omega
          have := hold k hk
          rw [List.getElem?_cons_succ, List.getElem?_drop, List.getElem?_eq_getElem (by omega)] at hy
          injection hy with hy
          rw [← hy, show f.stack.length - takes + [x].length - 1 - (k + 1) = f.stack.length - takes - 1 - k by simp; omega]
          exact this
    have := hgen _ (List.getElem?_eq_getElem hj)
    rw [hlen]
    exact this
  exact {
    kind := by rw [hlow _ (by omega) (by omega) (by omega) (by omega)]; exact h.kind
    pre := by rw [hlow _ (by omega) (by omega) (by omega) (by omega)]; exact h.pre
    static := by rw [hlow _ (by omega) (by omega) (by omega) (by omega)]; exact h.static
    pc := h4
    sb := by rw [hlow _ (by omega) (by omega) (by omega) (by omega)]; exact h.sb
    sp := by rw [h6, hlen]
    gas := by rw [hlow _ (by omega) (by omega) (by omega) (by omega)]; exact h.gas
    snap := by rw [hlow _ (by omega) (by omega) (by omega) (by omega)]; exact h.snap
    self := h.self.same h.ok.self fun j hj => hlow _ (by omega) (by omega) (by omega) (by omega)
    caller := h.caller.same h.ok.caller fun j hj => hlow _ (by omega) (by omega) (by omega) (by omega)
    value := ⟨by rw [hlow _ (by omega) (by omega) (by omega) (by omega)]; exact h.value.c0, by rw [hlow _ (by omega) (by omega) (by omega) (by omega)]; exact h.value.c1, by rw [hlow _ (by omega) (by omega) (by omega) (by omega)]; exact h.value.c2, by rw [hlow _ (by omega) (by omega) (by omega) (by omega)]; exact h.value.c3⟩
    code := by rw [hlow _ (by omega) (by omega) (by omega) (by omega)]; exact hn _ _ h.code
    input := by rw [hlow _ (by omega) (by omega) (by omega) (by omega)]; exact hn _ _ h.input
    dests := fun j hj => by rw [hlow _ (by omega) (by omega) (by omega) (by omega)]; exact h.dests j hj
    outOff := by rw [hlow _ (by omega) (by omega) (by omega) (by omega)]; exact h.outOff
    outLen := by rw [hlow _ (by omega) (by omega) (by omega) (by omega)]; exact h.outLen
    stack := hstk
    ok := hok }
theorem MRep.frame (h : MRep own w g c V st (s :: sn) stale) (hst : st.frames = f :: rest) : FrC (Mu own) w c rest.length s f ∧ rest.length < 7 := by
  have hfs := h.m.frs
  have hmm := h.m.mem
  rw [hst] at hfs hmm
  exact ⟨hfs.1, by have := hmm.few; simp at this; omega⟩
/-- The top frame changes, its memory stands. -/
theorem MRep.top_ (h : MRep own w g c V st (s :: sn) stale) (hst : st.frames = f :: rest) (hm : Mod (· = g) w w') (hB : Blk w' g 27024 105 c') (hc : ∀ j, offTop rest.length j → c' j = c j) (hf : FrC (Mu own) w' c' rest.length s f') (hmem : f'.mem = f.mem) (hsv : f'.saved = f.saved) :
    MRep own w' g c' V { st with frames := f' :: rest } (s :: sn) stale := by
  have hl7 := (h.frame hst).2
  refine ⟨h.v.low hB (fun i hi => hc i ⟨by omega, by omega⟩) hm, h.m.top_ hst h.v hm (fun j _ hj => hc j hj) hf hmem, h.abs, h.jok, h.orig, h.snl, h.snr, ?_, (hc _ ⟨by omega, by omega⟩).trans h.built⟩
  have hsd := h.saved
  rw [hst] at hsd
  intro i hi
  cases i with
  | zero =>
    have := hsd 0 (by simp)
    simpa [hsv] using this
  | succ k =>
    have := hsd (k + 1) (by simpa using hi)
    simpa using this
theorem MStep.refl (own : Nat → Nat) (w : World) : MStep own w own w := ⟨fun _ _ => rfl, Mod.refl _ _⟩
theorem MStep.trans {own own' own'' : Nat → Nat} {w w' w'' : World} (h : MStep own w own' w') (k : MStep own' w' own'' w'') : MStep own w own'' w'' :=
  ⟨fun b hb => (k.keep b (Nat.lt_of_lt_of_le hb h.mod.size)).trans (h.keep b hb), h.mod.trans' k.mod (fun b hb => by
    rcases Nat.lt_or_ge b w.heap.size with h1 | h1
    · left; rw [h.keep b h1] at hb; exact hb
    · exact Or.inr h1)⟩
theorem MStep.ext {own : Nat → Nat} {w w' : World} (e : Ext w w') : MStep own w own w' := ⟨fun _ _ => rfl, e.mod _⟩
theorem MStep.ofV {own own' : Nat → Nat} {w w' : World} {c c' : Nat → Value} (h : VStep own w c own' w' c') : MStep own w own' w' := ⟨h.keep, h.mod.sub (fun _ hb => hb.1)⟩
theorem MStep.ofG {own : Nat → Nat} {w w' : World} {g : Nat} (hg : own g = 8) (h : Mod (· = g) w w') : MStep own w own w' := ⟨fun _ _ => rfl, h.sub (fun b hb => by rw [hb, hg]; decide)⟩
/-- settle with a word. -/
theorem mSettleP (h : MRep own w g c V st (s :: sn) stale) (hst : st.frames = f :: rest) (takes step x : Nat) (ht : takes ≤ f.stack.length) (hs : f.stack.length - takes < 64) (hx : x < P256) (hpc : f.pc + step ≤ 60000) :
    Calls Hvah.prog 268 #[.pointer (some ⟨g, 0, none⟩), .pointer (some ⟨g, 1803 + rest.length * 65, none⟩), .int .u16 takes, .bool true, wv x, .int .u16 step] w fun e w' => e = .returned (.tuple #[]) ∧ ∃ c', MRep own w' g c' V { st with frames := f.settle takes [x] step :: rest } (s :: sn) stale ∧ MStep own w own w' := by
  obtain ⟨hf, hl7⟩ := h.frame hst
  have hl := hf.ok.sLen
  refine (mSettle_push g (1803 + rest.length * 65) f.stack.length (64 * rest.length) f.pc takes step x c w h.v.blk (by omega) (by omega) hf.sp hf.sb hf.pc ht hs (by omega) (by omega) (by omega) (by omega)).mono ?_
  rintro e w1 ⟨rfl, hB, hm⟩
  refine ⟨rfl, _, h.top_ hst hm hB ?_ ?_ rfl rfl, MStep.ofG h.v.tag hm⟩
  · intro j hj
    rw [updv_ne _ _ (by have := hj.2; omega), updv_ne _ _ (by have := hj.2; omega), upd4_out _ _ _ _ (by have := hj.1; omega)]
  · refine hf.settle (fun v l k => (Keep.here h.v hm).nl k) ?_ (by simp) ht ?_ ?_ ?_ ?_ hl7
    · exact ⟨hf.ok.kind, hf.ok.pre, hpc, by simp [AFrame.settle]; omega, fun y hy => by
        rcases List.mem_cons.1 hy with rfl | hy
        · exact hx
        · exact hf.ok.sLt y (List.mem_of_mem_drop hy), hf.ok.gas, hf.ok.self, hf.ok.caller, hf.ok.value, hf.ok.code, hf.ok.mLen, hf.ok.m32, hf.ok.oLt, hf.ok.lLt, hf.ok.out⟩
    · intro j h1 h2 h3
      rw [updv_ne _ _ h2, updv_ne _ _ h1, upd4_out _ _ _ _ (by omega)]
    · rw [updv_ne _ _ (by omega), updv_same]; rfl
    · rw [updv_same]
    · intro y hy
      injection hy with hy
      subst hy
      have := upd4_at c (11 + (64 * rest.length + (f.stack.length - takes)) * 4) x
      exact ⟨by rw [updv_ne _ _ (by omega), updv_ne _ _ (by omega)]; exact this.c0, by rw [updv_ne _ _ (by omega), updv_ne _ _ (by omega)]; exact this.c1, by rw [updv_ne _ _ (by omega), updv_ne _ _ (by omega)]; exact this.c2, by rw [updv_ne _ _ (by omega), updv_ne _ _ (by omega)]; exact this.c3⟩
end
end Go.Proofs.YgvahwGreat
