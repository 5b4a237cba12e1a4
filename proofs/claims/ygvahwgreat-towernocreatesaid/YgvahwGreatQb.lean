import Derived.Test.YgvahwGreatRowsS
import Derived.Test.YgvahwGreatRowsL
namespace Go.Proofs.YgvahwGreat
open Go.RowKit
set_option linter.unusedSimpArgs false
def z72a : Array Value := #[.int .u8 0, .int .u8 0, .int .u8 0, .bool false, .int .u16 0, .int .u16 0, .int .u16 0, .int .u64 0, .int .i32 0, .int .u8 0, .int .u8 0, .int .u8 0, .int .u8 0, .int .u8 0, .int .u8 0, .int .u8 0, .int .u8 0, .int .u8 0, .int .u8 0, .int .u8 0, .int .u8 0, .int .u8 0, .int .u8 0, .int .u8 0, .int .u8 0, .int .u8 0, .int .u8 0, .int .u8 0, .int .u8 0, .int .u8 0, .int .u8 0, .int .u8 0, .int .u8 0, .int .u8 0, .int .u8 0, .int .u8 0, .int .u8 0, .int .u8 0, .int .u8 0, .int .u8 0, .int .u8 0, .int .u8 0, .int .u8 0, .int .u8 0, .int .u8 0, .int .u8 0, .int .u8 0, .int .u8 0, .int .u8 0, .int .u64 0, .int .u64 0, .int .u64 0, .int .u64 0, .slice none 0 0, .slice none 0 0, .int .u64 0, .int .u64 0, .int .u64 0, .int .u64 0, .int .u64 0, .int .u64 0, .int .u64 0, .int .u64 0, .int .u32 0, .int .u32 0]
theorem z72 : zeroOf Hvah.prog 85 = some z72a := by kernel_rfl
theorem z72s : z72a.size = 65 := rfl
/-- A new frame in a box. -/
structure ChC (O : Nat → Prop) (w : World) (d : Nat → Value) (kd pr gs se ca vl : Nat) (sb : Bool) (co inp : List Nat) : Prop where
  kind : d 0 = .int .u8 (kd : Nat)
  pre : d 2 = .int .u8 (pr : Nat)
  static : d 3 = .bool sb
  pc : d 4 = .int .u16 (0 : Nat)
  sp : d 6 = .int .u16 0
  gas : d 7 = .int .u64 (gs : Nat)
  self : AAt d 9 se
  sLt : se < 2 ^ 160
  caller : AAt d 29 ca
  cLt : ca < 2 ^ 160
  value : WAt d 49 vl
  code : NL O w (d 53) co
  input : NL O w (d 54) inp
  outOff : d 63 = .int .u32 (0 : Nat)
  outLen : d 64 = .int .u32 (0 : Nat)
  ones : ∀ i, i < 65 → (d i).oneCell' = true
theorem nl_nil (O : Nat → Prop) (w : World) : NL O w (.slice none 0 0) [] := ⟨none, 0, rfl, Nat.le_refl _, by decide, fun d hd => by simp at hd, fun h => absurd rfl h⟩
/-- The row that the literal builds. -/
def kc0 (sb : Bool) (t a : Nat) : Nat → Value := layv (layv (updv (updv (cf z72a) 0 (.int .u8 2)) 3 (.bool sb)) 9 (av t)) 29 (av a)
theorem kc0_lo {sb : Bool} {t a i : Nat} (hi : i < 9) : kc0 sb t a i = updv (updv (cf z72a) 0 (.int .u8 2)) 3 (.bool sb) i := by
  unfold kc0; rw [layv_out _ _ _ (Or.inl (by omega)), layv_out _ _ _ (Or.inl hi)]
theorem kc0_hi {sb : Bool} {t a i : Nat} (ht : t < 2 ^ 160) (ha : a < 2 ^ 160) (hi : 49 ≤ i) : kc0 sb t a i = cf z72a i := by
  unfold kc0; rw [layv_out _ _ _ (Or.inr (by rw [av_size ha]; omega)), layv_out _ _ _ (Or.inr (by rw [av_size ht]; omega)), updv_ne _ _ (by omega), updv_ne _ _ (by omega)]
theorem wat0 {d : Nat → Value} (h0 : d 49 = .int .u64 0) (h1 : d 50 = .int .u64 0) (h2 : d 51 = .int .u64 0) (h3 : d 52 = .int .u64 0) : WAt d 49 0 := ⟨by rw [h0]; rfl, by rw [h1]; rfl, by rw [h2]; rfl, by rw [h3]; rfl⟩
theorem b72 {sb : Bool} {t a : Nat} (ht : t < 2 ^ 160) (ha : a < 2 ^ 160) : ∃ r : Array Value, r.size = 65 ∧ (∀ i, i < 65 → cf r i = kc0 sb t a i) ∧ ∀ w, (Instr.build 85 ([(0, .int .u8 2), (3, .bool sb), (9, .agg (av t)), (10, .agg (av a))] : List (Nat × Value)).toArray).run Hvah.prog w = .ok (.agg r) w := by
  refine ⟨_, ?_, fun i hi => ?_, fun w => run_build_gen (pl := [(0, 1), (1, 1), (2, 1), (3, 1), (4, 1), (5, 1), (6, 1), (7, 1), (8, 1), (9, 20), (29, 20), (49, 4), (53, 1), (54, 1), (55, 8), (63, 1), (64, 1)]) (z := z72a) (by kernel_rfl) (by kernel_rfl) ([(0, .int .u8 2), (3, .bool sb), (9, .agg (av t)), (10, .agg (av a))] : List (Nat × Value)) ⟨0, 1, rfl, rfl, by decide, 3, 1, rfl, rfl, by decide, 9, 20, rfl, av_size ht, by decide, 29, 20, rfl, av_size ha, by decide, trivial⟩ w⟩
  · rw [bld_size]; rfl
  · rw [bld_get _ _ _ (by exact hi)]
    simp only [partsA, List.map_cons, List.map_nil, List.getD_cons_zero, List.getD_cons_succ, bldc, one_agg]
    rw [one_cells (v := .int .u8 2) rfl, one_cells (v := .bool sb) rfl, layv_one, layv_one]
    rfl
theorem kc0_ok {O : Nat → Prop} {w : World} {d : Nat → Value} {sb : Bool} {t a : Nat} (ht : t < 2 ^ 160) (ha : a < 2 ^ 160) (hd : ∀ i, i < 65 → d i = kc0 sb t a i) : ChC O w d 2 0 0 t a 0 sb [] [] := by
  have lo : ∀ i, i < 9 → d i = updv (updv (cf z72a) 0 (.int .u8 2)) 3 (.bool sb) i := fun i hi => (hd i (by omega)).trans (kc0_lo hi)
  have hi : ∀ i, 49 ≤ i → i < 65 → d i = cf z72a i := fun i h1 h2 => (hd i h2).trans (kc0_hi ht ha h1)
  have e1 : AAt (kc0 sb t a) 9 t := AAt.lay_out AAt.lay_in ht (Or.inl (by omega))
  have e2 : AAt (kc0 sb t a) 29 a := AAt.lay_in
  exact
  { kind := (lo 0 (by decide)).trans rfl
    pre := (lo 2 (by decide)).trans rfl
    static := (lo 3 (by decide)).trans rfl
    pc := (lo 4 (by decide)).trans rfl
    sp := (lo 6 (by decide)).trans rfl
    gas := (lo 7 (by decide)).trans rfl
    self := fun j v hv => by
      have hj := (Array.getElem?_eq_some_iff.1 hv).1
      rw [av_size ht] at hj
      rw [hd _ (by omega)]; exact e1 j v hv
    sLt := ht
    caller := fun j v hv => by
      have hj := (Array.getElem?_eq_some_iff.1 hv).1
      rw [av_size ha] at hj
      rw [hd _ (by omega)]; exact e2 j v hv
    cLt := ha
    value := wat0 ((hi 49 (by decide) (by decide)).trans rfl) ((hi 50 (by decide) (by decide)).trans rfl) ((hi 51 (by decide) (by decide)).trans rfl) ((hi 52 (by decide) (by decide)).trans rfl)
    code := by rw [hi 53 (by decide) (by decide)]; exact nl_nil _ _
    input := by rw [hi 54 (by decide) (by decide)]; exact nl_nil _ _
    outOff := (hi 63 (by decide) (by decide)).trans rfl
    outLen := (hi 64 (by decide) (by decide)).trans rfl
    ones := fun i h => by
      rcases Nat.lt_or_ge i 9 with q | q
      · rw [lo i q]
        by_cases q0 : i = 3
        · rw [q0, updv_same]; rfl
        · rw [updv_ne _ _ q0]
          by_cases q1 : i = 0
          · rw [q1, updv_same]; rfl
          · rw [updv_ne _ _ q1]
            exact Ones.get (r := z72a) (by intro v hv; simp [z72a] at hv; rcases hv with rfl | rfl | rfl | rfl | rfl | rfl | rfl | rfl | rfl | rfl <;> rfl) (by rw [z72s]; exact h)
      · rcases Nat.lt_or_ge i 49 with q2 | q2
        · rw [hd i h]
          rcases Nat.lt_or_ge i 29 with q3 | q3
          · have := e1 (i - 9) _ (get_cf (by rw [av_size ht]; omega))
            rw [show 9 + (i - 9) = i by omega] at this
            rw [this]; exact (Ones.get (r := av t) (av_one t) (by rw [av_size ht]; omega))
          · have := e2 (i - 29) _ (get_cf (by rw [av_size ha]; omega))
            rw [show 29 + (i - 29) = i by omega] at this
            rw [this]; exact (Ones.get (r := av a) (av_one a) (by rw [av_size ha]; omega))
        · rw [hi i q2 h]
          exact Ones.get (r := z72a) (by intro v hv; simp [z72a] at hv; rcases hv with rfl | rfl | rfl | rfl | rfl | rfl | rfl | rfl | rfl | rfl <;> rfl) (by rw [z72s]; exact h) }
theorem wat_lay {d : Nat → Value} {o x : Nat} : WAt (layv d o (wvA x)) o x := by
  have g : ∀ j, j < 4 → layv d o (wvA x) (o + j) = cf (wvA x) j := fun j hj => layv_in _ _ _ hj
  exact ⟨(g 0 (by decide)).trans rfl, (g 1 (by decide)).trans rfl, (g 2 (by decide)).trans rfl, (g 3 (by decide)).trans rfl⟩
section
variable {O : Nat → Prop} {w : World} {d : Nat → Value} {k pre gas self caller v : Nat} {sb : Bool} {code input : List Nat}
theorem AAt.updo {d : Nat → Value} {o a i : Nat} {u : Value} (h : AAt d o a) (ha : a < 2 ^ 160) (hi : i < o ∨ o + 20 ≤ i) : AAt (updv d i u) o a := h.upd ha hi
theorem WAt.updo {d : Nat → Value} {o x i : Nat} {u : Value} (h : WAt d o x) (hi : i < o ∨ o + 4 ≤ i) : WAt (updv d i u) o x := ⟨by rw [updv_ne _ _ (by omega)]; exact h.c0, by rw [updv_ne _ _ (by omega)]; exact h.c1, by rw [updv_ne _ _ (by omega)]; exact h.c2, by rw [updv_ne _ _ (by omega)]; exact h.c3⟩
theorem ChC.setKind (h : ChC O w d k pre gas self caller v sb code input) (x : Nat) : ChC O w (updv d 0 (.int .u8 (x : Nat))) x pre gas self caller v sb code input where
  kind := by rw [updv_same]
  pre := by rw [updv_ne _ _ (by decide)]; exact h.pre
  static := by rw [updv_ne _ _ (by decide)]; exact h.static
  pc := by rw [updv_ne _ _ (by decide)]; exact h.pc
  sp := by rw [updv_ne _ _ (by decide)]; exact h.sp
  gas := by rw [updv_ne _ _ (by decide)]; exact h.gas
  code := by rw [updv_ne _ _ (by decide)]; exact h.code
  input := by rw [updv_ne _ _ (by decide)]; exact h.input
  outOff := by rw [updv_ne _ _ (by decide)]; exact h.outOff
  outLen := by rw [updv_ne _ _ (by decide)]; exact h.outLen
  self := h.self.updo h.sLt (by decide)
  sLt := h.sLt
  caller := h.caller.updo h.cLt (by decide)
  cLt := h.cLt
  value := h.value.updo (by decide)
  ones := fun i hi => by
    by_cases e : i = 0
    · rw [e, updv_same]; rfl
    · rw [updv_ne _ _ e]; exact h.ones i hi
theorem ChC.setPre (h : ChC O w d k pre gas self caller v sb code input) (x : Nat) : ChC O w (updv d 2 (.int .u8 (x : Nat))) k x gas self caller v sb code input where
  kind := by rw [updv_ne _ _ (by decide)]; exact h.kind
  pre := by rw [updv_same]
  static := by rw [updv_ne _ _ (by decide)]; exact h.static
  pc := by rw [updv_ne _ _ (by decide)]; exact h.pc
  sp := by rw [updv_ne _ _ (by decide)]; exact h.sp
  gas := by rw [updv_ne _ _ (by decide)]; exact h.gas
  code := by rw [updv_ne _ _ (by decide)]; exact h.code
  input := by rw [updv_ne _ _ (by decide)]; exact h.input
  outOff := by rw [updv_ne _ _ (by decide)]; exact h.outOff
  outLen := by rw [updv_ne _ _ (by decide)]; exact h.outLen
  self := h.self.updo h.sLt (by decide)
  sLt := h.sLt
  caller := h.caller.updo h.cLt (by decide)
  cLt := h.cLt
  value := h.value.updo (by decide)
  ones := fun i hi => by
    by_cases e : i = 2
    · rw [e, updv_same]; rfl
    · rw [updv_ne _ _ e]; exact h.ones i hi
theorem ChC.setStatic (h : ChC O w d k pre gas self caller v sb code input) (x : Bool) : ChC O w (updv d 3 (.bool x)) k pre gas self caller v x code input where
  kind := by rw [updv_ne _ _ (by decide)]; exact h.kind
  pre := by rw [updv_ne _ _ (by decide)]; exact h.pre
  static := by rw [updv_same]
  pc := by rw [updv_ne _ _ (by decide)]; exact h.pc
  sp := by rw [updv_ne _ _ (by decide)]; exact h.sp
  gas := by rw [updv_ne _ _ (by decide)]; exact h.gas
  code := by rw [updv_ne _ _ (by decide)]; exact h.code
  input := by rw [updv_ne _ _ (by decide)]; exact h.input
  outOff := by rw [updv_ne _ _ (by decide)]; exact h.outOff
  outLen := by rw [updv_ne _ _ (by decide)]; exact h.outLen
  self := h.self.updo h.sLt (by decide)
  sLt := h.sLt
  caller := h.caller.updo h.cLt (by decide)
  cLt := h.cLt
  value := h.value.updo (by decide)
  ones := fun i hi => by
    by_cases e : i = 3
    · rw [e, updv_same]; rfl
    · rw [updv_ne _ _ e]; exact h.ones i hi
theorem ChC.setGas (h : ChC O w d k pre gas self caller v sb code input) (x : Nat) : ChC O w (updv d 7 (.int .u64 (x : Nat))) k pre x self caller v sb code input where
  kind := by rw [updv_ne _ _ (by decide)]; exact h.kind
  pre := by rw [updv_ne _ _ (by decide)]; exact h.pre
  static := by rw [updv_ne _ _ (by decide)]; exact h.static
  pc := by rw [updv_ne _ _ (by decide)]; exact h.pc
  sp := by rw [updv_ne _ _ (by decide)]; exact h.sp
  gas := by rw [updv_same]
  code := by rw [updv_ne _ _ (by decide)]; exact h.code
  input := by rw [updv_ne _ _ (by decide)]; exact h.input
  outOff := by rw [updv_ne _ _ (by decide)]; exact h.outOff
  outLen := by rw [updv_ne _ _ (by decide)]; exact h.outLen
  self := h.self.updo h.sLt (by decide)
  sLt := h.sLt
  caller := h.caller.updo h.cLt (by decide)
  cLt := h.cLt
  value := h.value.updo (by decide)
  ones := fun i hi => by
    by_cases e : i = 7
    · rw [e, updv_same]; rfl
    · rw [updv_ne _ _ e]; exact h.ones i hi
theorem ChC.setCode (h : ChC O w d k pre gas self caller v sb code input) {u : Value} {l : List Nat} (hx : NL O w u l) : ChC O w (updv d 53 u) k pre gas self caller v sb l input where
  kind := by rw [updv_ne _ _ (by decide)]; exact h.kind
  pre := by rw [updv_ne _ _ (by decide)]; exact h.pre
  static := by rw [updv_ne _ _ (by decide)]; exact h.static
  pc := by rw [updv_ne _ _ (by decide)]; exact h.pc
  sp := by rw [updv_ne _ _ (by decide)]; exact h.sp
  gas := by rw [updv_ne _ _ (by decide)]; exact h.gas
  code := by rw [updv_same]; exact hx
  input := by rw [updv_ne _ _ (by decide)]; exact h.input
  outOff := by rw [updv_ne _ _ (by decide)]; exact h.outOff
  outLen := by rw [updv_ne _ _ (by decide)]; exact h.outLen
  self := h.self.updo h.sLt (by decide)
  sLt := h.sLt
  caller := h.caller.updo h.cLt (by decide)
  cLt := h.cLt
  value := h.value.updo (by decide)
  ones := fun i hi => by
    by_cases e : i = 53
    · rw [e, updv_same]; obtain ⟨_, _, rfl, _⟩ := hx; rfl
    · rw [updv_ne _ _ e]; exact h.ones i hi
theorem ChC.setInput (h : ChC O w d k pre gas self caller v sb code input) {u : Value} {l : List Nat} (hx : NL O w u l) : ChC O w (updv d 54 u) k pre gas self caller v sb code l where
  kind := by rw [updv_ne _ _ (by decide)]; exact h.kind
  pre := by rw [updv_ne _ _ (by decide)]; exact h.pre
  static := by rw [updv_ne _ _ (by decide)]; exact h.static
  pc := by rw [updv_ne _ _ (by decide)]; exact h.pc
  sp := by rw [updv_ne _ _ (by decide)]; exact h.sp
  gas := by rw [updv_ne _ _ (by decide)]; exact h.gas
  code := by rw [updv_ne _ _ (by decide)]; exact h.code
  input := by rw [updv_same]; exact hx
  outOff := by rw [updv_ne _ _ (by decide)]; exact h.outOff
  outLen := by rw [updv_ne _ _ (by decide)]; exact h.outLen
  self := h.self.updo h.sLt (by decide)
  sLt := h.sLt
  caller := h.caller.updo h.cLt (by decide)
  cLt := h.cLt
  value := h.value.updo (by decide)
  ones := fun i hi => by
    by_cases e : i = 54
    · rw [e, updv_same]; obtain ⟨_, _, rfl, _⟩ := hx; rfl
    · rw [updv_ne _ _ e]; exact h.ones i hi
theorem ChC.setSelf (h : ChC O w d k pre gas self caller v sb code input) (x : Nat) (hx : x < 2 ^ 160) : ChC O w (layv d 9 (av x)) k pre gas x caller v sb code input where
  kind := by rw [layv_out _ _ _ (Or.inl (by decide))]; exact h.kind
  pre := by rw [layv_out _ _ _ (Or.inl (by decide))]; exact h.pre
  static := by rw [layv_out _ _ _ (Or.inl (by decide))]; exact h.static
  pc := by rw [layv_out _ _ _ (Or.inl (by decide))]; exact h.pc
  sp := by rw [layv_out _ _ _ (Or.inl (by decide))]; exact h.sp
  gas := by rw [layv_out _ _ _ (Or.inl (by decide))]; exact h.gas
  code := by rw [layv_out _ _ _ (Or.inr (by rw [av_size hx]; decide))]; exact h.code
  input := by rw [layv_out _ _ _ (Or.inr (by rw [av_size hx]; decide))]; exact h.input
  outOff := by rw [layv_out _ _ _ (Or.inr (by rw [av_size hx]; decide))]; exact h.outOff
  outLen := by rw [layv_out _ _ _ (Or.inr (by rw [av_size hx]; decide))]; exact h.outLen
  self := AAt.lay_in
  sLt := hx
  caller := AAt.lay_out h.caller h.cLt (by rw [av_size hx]; decide)
  cLt := h.cLt
  value := ⟨by rw [layv_out _ _ _ (by rw [av_size hx]; decide)]; exact h.value.c0, by rw [layv_out _ _ _ (by rw [av_size hx]; decide)]; exact h.value.c1, by rw [layv_out _ _ _ (by rw [av_size hx]; decide)]; exact h.value.c2, by rw [layv_out _ _ _ (by rw [av_size hx]; decide)]; exact h.value.c3⟩
  ones := fun i hi => by
    rcases Nat.lt_or_ge i 9 with q | q
    · rw [layv_out _ _ _ (Or.inl q)]; exact h.ones i hi
    · rcases Nat.lt_or_ge i 29 with q2 | q2
      · rw [show i = 9 + (i - 9) by omega, layv_in _ _ _ (by rw [av_size hx]; omega)]
        exact Ones.get (av_one _) (by rw [av_size hx]; omega)
      · rw [layv_out _ _ _ (Or.inr (by rw [av_size hx]; exact q2))]; exact h.ones i hi
theorem ChC.setCaller (h : ChC O w d k pre gas self caller v sb code input) (x : Nat) (hx : x < 2 ^ 160) : ChC O w (layv d 29 (av x)) k pre gas self x v sb code input where
  kind := by rw [layv_out _ _ _ (Or.inl (by decide))]; exact h.kind
  pre := by rw [layv_out _ _ _ (Or.inl (by decide))]; exact h.pre
  static := by rw [layv_out _ _ _ (Or.inl (by decide))]; exact h.static
  pc := by rw [layv_out _ _ _ (Or.inl (by decide))]; exact h.pc
  sp := by rw [layv_out _ _ _ (Or.inl (by decide))]; exact h.sp
  gas := by rw [layv_out _ _ _ (Or.inl (by decide))]; exact h.gas
  code := by rw [layv_out _ _ _ (Or.inr (by rw [av_size hx]; decide))]; exact h.code
  input := by rw [layv_out _ _ _ (Or.inr (by rw [av_size hx]; decide))]; exact h.input
  outOff := by rw [layv_out _ _ _ (Or.inr (by rw [av_size hx]; decide))]; exact h.outOff
  outLen := by rw [layv_out _ _ _ (Or.inr (by rw [av_size hx]; decide))]; exact h.outLen
  self := AAt.lay_out h.self h.sLt (by rw [av_size hx]; decide)
  sLt := h.sLt
  caller := AAt.lay_in
  cLt := hx
  value := ⟨by rw [layv_out _ _ _ (by rw [av_size hx]; decide)]; exact h.value.c0, by rw [layv_out _ _ _ (by rw [av_size hx]; decide)]; exact h.value.c1, by rw [layv_out _ _ _ (by rw [av_size hx]; decide)]; exact h.value.c2, by rw [layv_out _ _ _ (by rw [av_size hx]; decide)]; exact h.value.c3⟩
  ones := fun i hi => by
    rcases Nat.lt_or_ge i 29 with q | q
    · rw [layv_out _ _ _ (Or.inl q)]; exact h.ones i hi
    · rcases Nat.lt_or_ge i 49 with q2 | q2
      · rw [show i = 29 + (i - 29) by omega, layv_in _ _ _ (by rw [av_size hx]; omega)]
        exact Ones.get (av_one _) (by rw [av_size hx]; omega)
      · rw [layv_out _ _ _ (Or.inr (by rw [av_size hx]; exact q2))]; exact h.ones i hi
theorem ChC.setValue (h : ChC O w d k pre gas self caller v sb code input) (x : Nat) : ChC O w (layv d 49 (wvA x)) k pre gas self caller x sb code input where
  kind := by rw [layv_out _ _ _ (Or.inl (by decide))]; exact h.kind
  pre := by rw [layv_out _ _ _ (Or.inl (by decide))]; exact h.pre
  static := by rw [layv_out _ _ _ (Or.inl (by decide))]; exact h.static
  pc := by rw [layv_out _ _ _ (Or.inl (by decide))]; exact h.pc
  sp := by rw [layv_out _ _ _ (Or.inl (by decide))]; exact h.sp
  gas := by rw [layv_out _ _ _ (Or.inl (by decide))]; exact h.gas
  code := by rw [layv_out _ _ _ (Or.inr (by rw [show (wvA x).size = 4 from rfl]; decide))]; exact h.code
  input := by rw [layv_out _ _ _ (Or.inr (by rw [show (wvA x).size = 4 from rfl]; decide))]; exact h.input
  outOff := by rw [layv_out _ _ _ (Or.inr (by rw [show (wvA x).size = 4 from rfl]; decide))]; exact h.outOff
  outLen := by rw [layv_out _ _ _ (Or.inr (by rw [show (wvA x).size = 4 from rfl]; decide))]; exact h.outLen
  self := AAt.lay_out h.self h.sLt (by rw [show (wvA x).size = 4 from rfl]; decide)
  sLt := h.sLt
  caller := AAt.lay_out h.caller h.cLt (by rw [show (wvA x).size = 4 from rfl]; decide)
  cLt := h.cLt
  value := wat_lay
  ones := fun i hi => by
    rcases Nat.lt_or_ge i 49 with q | q
    · rw [layv_out _ _ _ (Or.inl q)]; exact h.ones i hi
    · rcases Nat.lt_or_ge i 53 with q2 | q2
      · rw [show i = 49 + (i - 49) by omega, layv_in _ _ _ (by rw [show (wvA x).size = 4 from rfl]; omega)]
        exact Ones.get (wvA_one _) (by rw [show (wvA x).size = 4 from rfl]; omega)
      · rw [layv_out _ _ _ (Or.inr (by rw [show (wvA x).size = 4 from rfl]; exact q2))]; exact h.ones i hi
theorem ChC.ext {w' : World} (h : ChC O w d k pre gas self caller v sb code input) (e : Ext w w') : ChC O w' d k pre gas self caller v sb code input :=
  ⟨h.kind, h.pre, h.static, h.pc, h.sp, h.gas, h.self, h.sLt, h.caller, h.cLt, h.value, h.code.ext e, h.input.ext e, h.outOff, h.outLen, h.ones⟩
theorem NL.nilAny {O O' : Nat → Prop} {w w' : World} {v : Value} (h : NL O w v []) : NL O' w' v [] := by
  obtain ⟨o, c, h1, h2, h3, h4⟩ := h
  exact ⟨o, c, h1, h2, h3, h4.lt, fun q => absurd rfl q⟩
theorem ChC.any {O O' : Nat → Prop} {w w' : World} {d : Nat → Value} {k pre gas self caller v : Nat} {sb : Bool} (h : ChC O w d k pre gas self caller v sb [] []) : ChC O' w' d k pre gas self caller v sb [] [] :=
  ⟨h.kind, h.pre, h.static, h.pc, h.sp, h.gas, h.self, h.sLt, h.caller, h.cLt, h.value, h.code.nilAny, h.input.nilAny, h.outOff, h.outLen, h.ones⟩
theorem ChC.nl {O' : Nat → Prop} {w' : World} (h : ChC O w d k pre gas self caller v sb code input) (e : ∀ v l, NL O w v l → NL O' w' v l) : ChC O' w' d k pre gas self caller v sb code input :=
  ⟨h.kind, h.pre, h.static, h.pc, h.sp, h.gas, h.self, h.sLt, h.caller, h.cLt, h.value, e _ _ h.code, e _ _ h.input, h.outOff, h.outLen, h.ones⟩
/-- The row that is handed to Enter. -/
theorem ChC.row (h : ChC O w d k pre gas self caller v sb code input) {f : AFrame} (hf : f = { kind := k, pre := pre, static := sb, pc := 0, gas := gas, value := v, outOff := 0, outLen := 0, stack := [], mem := [], code := code, input := input, self := self, caller := caller, saved := f.saved }) (hok : FOK f) : FrR O w (rowOf d 0 65) f := by
  have g : ∀ j, j < 65 → cf (rowOf d 0 65) j = d j := fun j hj => by rw [cf_rowOf _ _ _ hj, Nat.zero_add]
  rw [hf] at hok ⊢
  exact
  { size := rowOf_size _ _ _
    ones := ones_of (fun i hi => by rw [rowOf_size] at hi; rw [g i hi]; exact h.ones i hi)
    kind := (g 0 (by decide)).trans h.kind
    pre := (g 2 (by decide)).trans h.pre
    static := (g 3 (by decide)).trans h.static
    pc := (g 4 (by decide)).trans h.pc
    sp := (g 6 (by decide)).trans h.sp
    gas := (g 7 (by decide)).trans h.gas
    self := fun j u hu => by
      have hj := (Array.getElem?_eq_some_iff.1 hu).1
      rw [av_size h.sLt] at hj
      rw [g _ (by omega)]; exact h.self j u hu
    caller := fun j u hu => by
      have hj := (Array.getElem?_eq_some_iff.1 hu).1
      rw [av_size h.cLt] at hj
      rw [g _ (by omega)]; exact h.caller j u hu
    value := ⟨(g 49 (by decide)).trans h.value.c0, (g 50 (by decide)).trans h.value.c1, (g 51 (by decide)).trans h.value.c2, (g 52 (by decide)).trans h.value.c3⟩
    code := by rw [g 53 (by decide)]; exact h.code
    input := by rw [g 54 (by decide)]; exact h.input
    outOff := (g 63 (by decide)).trans h.outOff
    outLen := (g 64 (by decide)).trans h.outLen
    stk := rfl
    mem := rfl
    ok := hok }
end
end Go.Proofs.YgvahwGreat
