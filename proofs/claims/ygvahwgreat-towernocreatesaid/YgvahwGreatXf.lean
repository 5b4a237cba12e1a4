import Derived.Test.YgvahwGreatRows
import Derived.Test.YgvahwGreatXe
import Derived.Test.YgvahwGreatJa0
import Derived.ProofKit
import Derived.SizedLaws
namespace Go.Proofs.YgvahwGreat
open Go.ChangeShapes Go.WideShapes Go.ChangeAt Go.RowKit
/-! The statement, from what both chains do. -/
set_option maxRecDepth 100000
theorem Hvah.own : ownKnob Hvah.prog.godebug = none := by kernel_rfl
theorem Hvah.laidOut : laidOutB Hvah.prog = true := by kernel_rfl
theorem okWide_slice {w : World} {rc : Reach} {base : Nat} {t e : TypeId} {v : Value} (ht : Hvah.prog.underlying t = some (.slice e)) (h : Value.okWide Hvah.prog w rc base t v) : ∃ o n k, v = .slice o n k := by
  unfold Value.okWide at h
  rw [ht] at h
  simp only at h
  unfold Cell.okWide at h
  rw [ht] at h
  unfold Cell.ok at h
  rw [ht] at h
  cases v <;> first | exact ⟨_, _, _, rfl⟩ | exact h.elim | simp at h
theorem okWide_u64 {w : World} {rc : Reach} {base : Nat} {v : Value} (h : Value.okWide Hvah.prog w rc base 24 v) : ∃ z : Nat, v = .int .u64 (z : Nat) ∧ z < 18446744073709551616 := by
  unfold Value.okWide at h
  rw [Hvah.underlying24] at h
  simp only at h
  unfold Cell.okWide at h
  rw [Hvah.underlying24] at h
  unfold Cell.ok at h
  rw [Hvah.underlying24] at h
  cases v with
  | int k z =>
    simp only at h
    obtain ⟨rfl, h1, h2⟩ := h
    simp [IntKind.min, IntKind.max, IntKind.signed, IntKind.bits] at h1 h2
    exact ⟨z.toNat, by rw [show ((z.toNat : Nat) : Int) = z from by omega], by omega⟩
  | _ => first | exact h.elim | simp at h
theorem Mod.belowAll {w w' : World} (h : Mod (fun _ => False) w w') : Below w.heap.size w w' := ⟨h.os, h.tape, h.output, h.size, fun k hk => h.block k hk (fun q => q)⟩
theorem Mod.frozenAll {w w' : World} (h : Mod (fun _ => False) w w') (a : Addr) : w'.frozen? a = w.frozen? a := by
  by_cases q : a.block < w.heap.size
  · exact h.fz a q
  · rw [h.new a (by omega)]
    simp only [World.frozen?]
    rw [Array.getElem?_eq_none (by omega)]
theorem weightsAll_mem {H : Type} {P : Program} {e : TypeId} : ∀ {l : List (DataW H)} {d : DataW H}, d ∈ l → ∀ n ∈ d.weights P e, n ∈ DataW.weightsAll P e l
  | d0 :: l, d, hd, n, hn => by
    simp only [DataW.weightsAll, List.mem_append]
    rcases List.mem_cons.1 hd with rfl | q
    · exact Or.inl hn
    · exact Or.inr (weightsAll_mem q n hn)
theorem cO23x : Hvah.prog.cellsOf 23 = 1 := by kernel_rfl
theorem by5x : Hvah.prog.bytesOf 5 = 1 := by kernel_rfl
section
variable {H : Type} {enc : TypeId × Value → H} {w : World} {n : Nat} {cs : List Value} {x : DataW H × List MemPlace}
/-- Bytes, opened, with their bound. -/
theorem nlxB (hx : DataW.trod enc Hvah.prog w 0 (fun _ => true) true n 23 cs = some x) (hw : ∀ k ∈ x.1.weights Hvah.prog 23, k ≤ reachBytes) : ∃ v l, cs = [v] ∧ NLx (fun _ => False) w v l ∧ l.length ≤ 140737488355328 := by
  obtain ⟨v, l, h1, h2⟩ := Tr.nlx (enc := enc) ⟨_, hx⟩
  refine ⟨v, l, h1, h2, ?_⟩
  obtain ⟨o, c, rfl, _⟩ := h2
  rcases Go.Deep.open_slice Hvah.underlying23 hx with ⟨h0, _⟩ | ⟨a, len, cap, m, k, D, Pl, h3, hb, hl, hm, hmm, hxe, hel⟩
  · rw [h0] at h1
    injection h1 with h1 _
    injection h1 with _ h1 _
    omega
  · rw [h3] at h1
    injection h1 with h1 _
    injection h1 with _ h1 _
    have := hw ((len + (m - len)) * Hvah.prog.bytesOf 5) (by rw [hxe]; simp [DataW.weights, Hvah.underlying23])
    rw [by5x] at this
    unfold reachBytes at this
    omega
/-- Codes, opened. -/
theorem colB (hx : DataW.trod enc Hvah.prog w 0 (fun _ => true) true n 22 cs = some x) (hw : ∀ k ∈ x.1.weights Hvah.prog 22, k ≤ reachBytes) : ∃ v ls, cs = [v] ∧ CoL w v ls := by
  rcases Go.Deep.open_slice1 Hvah.underlying22 cO23x hx with ⟨h0, _⟩ | ⟨a, len, cap, m, k, W, D, Pl, rfl, hb, hl, hm, hmm, hxe, hel⟩
  · exact ⟨_, [], h0, Or.inl ⟨rfl, none, rfl⟩⟩
  · rw [if_pos rfl] at hmm
    subst hmm
    by_cases h0 : m = 0
    · subst h0
      have : len = 0 := by omega
      subst this
      exact ⟨_, [], rfl, Or.inl ⟨rfl, some a, rfl⟩⟩
    · have g5 := (hel 0 (by omega)).1
      rw [show a.add 0 = a from rfl] at g5
      obtain ⟨hsp, hlt⟩ := cell_live g5
      obtain ⟨l, q1, q2⟩ := list_of (α := List Nat) (p := fun i y => NLx (fun _ => False) w (W i) y ∧ y.length ≤ 140737488355328) len (fun i hi => by
        obtain ⟨v, y, e1, e2, e3⟩ := nlxB (hel i (by omega)).2 (fun k hk => hw k (by
          rw [hxe]
          simp only [DataW.weights, Hvah.underlying22, List.mem_cons, List.mem_append]
          exact Or.inr (Or.inl (weightsAll_mem (List.mem_map.2 ⟨i, List.mem_range.2 hi, rfl⟩) k hk))))
        injection e1 with e1 _
        rw [e1]
        exact ⟨y, e2, e3⟩)
      refine ⟨_, l, rfl, Or.inr ⟨a.block, a.off, m, W, ?_, by omega, by have := hm; simp only [maxLen] at this; omega, fun q => q, hlt, fun i hi => ?_, fun i hi => ?_⟩⟩
      · rw [q1]; cases a; simp only at hsp; subst hsp; rfl
      · have := (hel i (by omega)).1
        rw [add_live hsp] at this
        exact this
      · rw [Nat.mul_one]; exact q2 i hi
end
set_option maxRecDepth 100000 in
theorem towerNoCreate_lifted (os : Os) (started : os.Started) (H : Type) (enc : TypeId × Value → H) :
    ReturnsInHanded {} Hvah.checked os 3 .any (Rows.towerNoCreateSpec.pre6 enc Hvah.prog Hvah.f3 Rows.towerNoCreateRow.domain false) (Rows.towerNoCreateSpec.post enc Hvah.prog Hvah.f3 false true false false) := by
  refine returnsInHanded_of_change_sized (C := Hvah.checked) Hvah.own started (by kernel_rfl) Hvah.func3
    (ChangeSpec.witness6 (enc := enc) (C := Hvah.checked) false ⟨#[], #[.slice none 0 0, .slice none 0 0, .int .u64 0], []⟩ 8 (by as_aux_lemma => kernel_rfl) (by as_aux_lemma => kernel_rfl) (by as_aux_lemma => kernel_rfl) (by as_aux_lemma => kernel_rfl)) ?_
  intro W base args ds gs before hval0 hW hcnd hsz0 _
  have hval : ∀ (j : Nat) t v, Hvah.f3.params[j]? = some t → args[j]? = some v → Value.okWide Hvah.prog W .any base t v := hval0
  have hsz : (DataW.weightsEach Hvah.prog (Hvah.f3.params.toList ++ Rows.towerNoCreateSpec.plain.varTypes Hvah.prog) (ds ++ gs)).all (· ≤ reachBytes) = true := hsz0
  have hW' := hW
  obtain ⟨p, q, hA0, hV, rfl, hfz, hnd⟩ := hW
  have hA : DataW.TrodAll enc Hvah.prog W 0 (fun _ => true) true Hvah.f3.params.toList args.toList ds p := hA0
  rw [Hvah.params3] at hA hval hsz
  obtain ⟨v0, v1, v2, d0, d1, d2, p0, p1, p2, rfl, rfl, rfl, h0, h1, h2⟩ := trodAll_three hA
  obtain ⟨rfl, rfl⟩ := trodVars_none hV
  obtain ⟨o0, n0, k0, rfl⟩ := okWide_slice Hvah.underlying22 (hval 0 22 v0 rfl rfl)
  obtain ⟨o1, n1, k1, rfl⟩ := okWide_slice Hvah.underlying23 (hval 1 23 v1 rfl rfl)
  obtain ⟨z, rfl, hz⟩ := okWide_u64 (hval 2 24 v2 rfl rfl)
  have hws := fun (j : Nat) (t : TypeId) (d : DataW H) (k1 : ([22, 23, 24] ++ Rows.towerNoCreateSpec.plain.varTypes Hvah.prog)[j]? = some t) (k2 : ([d0, d1, d2] ++ [])[j]? = some d) (k : Nat) (hk : k ∈ d.weights Hvah.prog t) => of_decide_eq_true (List.all_eq_true.1 hsz k (DataW.weights_mem_each k1 k2 k hk))
  obtain ⟨f0, t0⟩ := h0
  obtain ⟨f1, t1⟩ := h1
  obtain ⟨f2, t2⟩ := h2
  obtain ⟨v, ls, e0, hC⟩ := colB (enc := enc) t0 (hws 0 22 d0 rfl rfl)
  cases e0
  obtain ⟨v', l, e1, hN, hl⟩ := nlxB (enc := enc) t1 (hws 1 23 d1 rfl rfl)
  cases e1
  clear hA0 hval0
  simp only [List.append_nil] at hW'
  refine (towerNoCreateAll hC hN hl z hz).mono fun e W' ⟨he, hg⟩ => ?_
  subst he
  have hlt : ∀ x ∈ p0 ++ p1 ++ p2, x.block < W.heap.size := fun x hx => by simpa using hW'.lt x (by simpa using hx)
  have hsame : ∀ x ∈ p0 ++ p1 ++ p2, W.sameAt W' x := fun x hx => hg.belowAll.same (hlt x hx)
  refine ⟨_, rfl, post_of_same (pa := p0 ++ (p1 ++ p2)) (pv := []) hW' (fun _ _ _ => trodAll_mk1 (shut_bool Hvah.underlying4 _)) (fun sp hsp => trodAll_mk3 (WideElems.Trod_stays Hvah.laidOut (by kernel_rfl) (of_decide_eq_true (by kernel_rfl)) ⟨_, t0⟩ (fun x hx => hsame x (by simp [hx])) (fun x hx => hsp x (by simp [hx]))) (WideElems.Trod_stays Hvah.laidOut (by kernel_rfl) (of_decide_eq_true (by kernel_rfl)) ⟨_, t1⟩ (fun x hx => hsame x (by simp [hx])) (fun x hx => hsp x (by simp [hx]))) (WideElems.Trod_stays Hvah.laidOut (by kernel_rfl) (of_decide_eq_true (by kernel_rfl)) ⟨_, t2⟩ (fun x hx => hsame x (by simp [hx])) (fun x hx => hsp x (by simp [hx])))) (fun _ _ => rfl) (by simp) (hg.belowAll.frame _) (fun a => hg.frozenAll a) (ok_one (by kernel_rfl) rfl (okWide_bool_mk Hvah.underlying4 _))⟩
end Go.Proofs.YgvahwGreat
