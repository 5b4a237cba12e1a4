import Derived.Test.YgvagwGreatRows
import Derived.Test.YgvagwGreatTw3
import Derived.Test.YgvagwGreatJa0
import Derived.ProofKit
namespace Go.Proofs.YgvagwGreat
open Go.ChangeShapes Go.WideShapes Go.ChangeAt Go.RowKit
/-! The statement, from what both chains do. -/
set_option maxRecDepth 100000
theorem Hvag.own : ownKnob Hvag.prog.godebug = none := by kernel_rfl
theorem Hvag.laidOut : laidOutB Hvag.prog = true := by kernel_rfl
/-- A slice that the claim hands over leads to a block that is there. -/
theorem slice_live {w : World} {rc : Reach} {base : Nat} {t e : TypeId} {a : Addr} {n k : Nat} (ht : Hvag.prog.underlying t = some (.slice e)) (h : Cell.okWide Hvag.prog w rc base t (.slice (some a) n k)) : a.spot = none ∧ a.block < w.heap.size := by
  unfold Cell.okWide at h
  rw [ht] at h
  simp only at h
  unfold Cell.ok at h
  rw [ht] at h
  simp only at h
  obtain ⟨_, _, h1⟩ := h
  obtain ⟨_, h2, row, cells, h3, _⟩ := h1
  refine ⟨h2, ?_⟩
  unfold World.shape? at h3
  split at h3
  · rename_i q
    exact (Array.getElem?_eq_some_iff.1 q).1
  · cases h3
theorem ct31 : (Hvag.prog.cellTypes Hvag.prog.depth 31).map (fun ts => (ts.length, ts[119]?)) = some (120, some 29) := by kernel_rfl
theorem env_live {w : World} {rc : Reach} {base : Nat} {cs : Array Value} (h : Row.okWide Hvag.prog w rc base 31 cs) : ∀ a n k, cs[119]? = some (.slice (some a) n k) → a.spot = none ∧ a.block < w.heap.size := fun a n k hv => by
  obtain ⟨ts, h1, _, h3⟩ := h
  have h4 := ct31
  rw [h1] at h4
  simp only [Option.map_some, Option.some.injEq, Prod.mk.injEq] at h4
  obtain ⟨u, h5, h6⟩ := h3 119 _ hv
  rw [h4.1, show 119 % 120 = 119 from rfl, h4.2] at h5
  cases h5
  exact slice_live Hvag.underlying29 h6
theorem okWide_agg {w : World} {rc : Reach} {base : Nat} {t : TypeId} {fs : Array Field} {v : Value} (ht : Hvag.prog.underlying t = some (.struct fs)) (h : Value.okWide Hvag.prog w rc base t v) : ∃ cs, v = .agg cs ∧ Row.okWide Hvag.prog w rc base t cs := by
  unfold Value.okWide at h
  rw [ht] at h
  obtain ⟨cs, h1, _, h2⟩ := h
  exact ⟨cs, h1, h2⟩
theorem okWide_slice {w : World} {rc : Reach} {base : Nat} {t e : TypeId} {v : Value} (ht : Hvag.prog.underlying t = some (.slice e)) (h : Value.okWide Hvag.prog w rc base t v) : ∃ o n k, v = .slice o n k := by
  unfold Value.okWide at h
  rw [ht] at h
  simp only at h
  unfold Cell.okWide at h
  rw [ht] at h
  unfold Cell.ok at h
  rw [ht] at h
  cases v <;> first | exact ⟨_, _, _, rfl⟩ | exact h.elim | simp at h
theorem Mod.belowAll {w w' : World} (h : Mod (fun _ => False) w w') : Below w.heap.size w w' := ⟨h.os, h.tape, h.output, h.size, fun k hk => h.block k hk (fun q => q)⟩
theorem Mod.frozenAll {w w' : World} (h : Mod (fun _ => False) w w') (a : Addr) : w'.frozen? a = w.frozen? a := by
  by_cases q : a.block < w.heap.size
  · exact h.fz a q
  · rw [h.new a (by omega)]
    simp only [World.frozen?]
    rw [Array.getElem?_eq_none (by omega)]
set_option maxRecDepth 100000 in
theorem towerOne_lifted (os : Os) (started : os.Started) (H : Type) (enc : TypeId × Value → H) :
    ReturnsInHanded {} Hvag.checked os 3 .any (Rows.towerOneSpec.pre6 enc Hvag.prog Hvag.f3 Rows.towerOneRow.domain false) (Rows.towerOneSpec.post enc Hvag.prog Hvag.f3 false true false false) := by
  refine returnsInHanded_of_change (C := Hvag.checked) Hvag.own started (by kernel_rfl) Hvag.func3
    (ChangeSpec.witness6 (enc := enc) (C := Hvag.checked) false ⟨#[], #[.slice none 0 0, .agg #[.int .u8 0, .int .u8 0, .int .u8 0, .int .u8 0, .int .u8 0, .int .u8 0, .int .u8 0, .int .u8 0, .int .u8 0, .int .u8 0, .int .u8 0, .int .u8 0, .int .u8 0, .int .u8 0, .int .u8 0, .int .u8 0, .int .u8 0, .int .u8 0, .int .u8 0, .int .u8 0, .int .u64 0, .int .u64 0, .int .u64 0, .int .u8 0, .int .u8 0, .int .u8 0, .int .u8 0, .int .u8 0, .int .u8 0, .int .u8 0, .int .u8 0, .int .u8 0, .int .u8 0, .int .u8 0, .int .u8 0, .int .u8 0, .int .u8 0, .int .u8 0, .int .u8 0, .int .u8 0, .int .u8 0, .int .u8 0, .int .u8 0, .int .u8 0, .int .u8 0, .int .u8 0, .int .u8 0, .int .u8 0, .int .u8 0, .int .u8 0, .int .u8 0, .int .u8 0, .int .u8 0, .int .u8 0, .int .u8 0, .int .u8 0, .int .u8 0, .int .u8 0, .int .u8 0, .int .u8 0, .int .u8 0, .int .u8 0, .int .u8 0, .int .u8 0, .int .u8 0, .int .u8 0, .int .u8 0, .int .u8 0, .int .u8 0, .int .u8 0, .int .u8 0, .int .u8 0, .int .u8 0, .int .u8 0, .int .u8 0, .int .u8 0, .int .u8 0, .int .u8 0, .int .u8 0, .int .u8 0, .int .u8 0, .int .u8 0, .int .u8 0, .int .u8 0, .int .u8 0, .int .u8 0, .int .u8 0, .int .u8 0, .int .u8 0, .int .u8 0, .int .u8 0, .int .u8 0, .int .u8 0, .int .u8 0, .int .u8 0, .int .u8 0, .int .u8 0, .int .u8 0, .int .u8 0, .int .u8 0, .int .u8 0, .int .u8 0, .int .u8 0, .int .u8 0, .int .u8 0, .int .u8 0, .int .u8 0, .int .u8 0, .int .u8 0, .int .u8 0, .int .u8 0, .int .u8 0, .int .u8 0, .int .u8 0, .int .u8 0, .int .u8 0, .int .u8 0, .int .u8 0, .int .u8 0, .slice none 0 0], .agg #[.int .u8 0, .int .u8 0, .int .u8 0, .int .u8 0, .int .u8 0, .int .u8 0, .int .u8 0, .int .u8 0, .int .u8 0, .int .u8 0, .int .u8 0, .int .u8 0, .int .u8 0, .int .u8 0, .int .u8 0, .int .u8 0, .int .u8 0, .int .u8 0, .int .u8 0, .int .u8 0, .int .u8 0, .int .u8 0, .int .u8 0, .int .u8 0, .int .u8 0, .int .u8 0, .int .u8 0, .int .u8 0, .int .u8 0, .int .u8 0, .int .u8 0, .int .u8 0, .int .u8 0, .int .u8 0, .int .u8 0, .int .u8 0, .int .u8 0, .int .u8 0, .int .u8 0, .int .u8 0, .bool false, .int .u64 0, .int .u64 0, .int .u8 0, .int .u8 0, .int .u8 0, .int .u8 0, .int .u8 0, .int .u8 0, .int .u8 0, .int .u8 0, .int .u8 0, .int .u8 0, .int .u8 0, .int .u8 0, .int .u8 0, .int .u8 0, .int .u8 0, .int .u8 0, .int .u8 0, .int .u8 0, .int .u8 0, .int .u8 0, .int .u8 0, .int .u8 0, .int .u8 0, .int .u8 0, .int .u8 0, .int .u8 0, .int .u8 0, .int .u8 0, .int .u8 0, .int .u8 0, .int .u8 0, .int .u8 0, .int .u8 0, .int .u8 0, .int .u8 0, .int .u8 0, .int .u8 0, .int .u8 0, .int .u8 0, .int .u8 0, .int .u8 0, .int .u8 0, .int .u8 0, .int .u8 0, .int .u8 0, .int .u8 0, .int .u8 0, .int .u8 0, .int .u8 0, .int .u8 0, .int .u8 0, .int .u8 0, .int .u8 0, .int .u8 0, .int .u8 0, .int .u8 0, .int .u8 0, .int .u8 0, .int .u8 0, .int .u8 0, .int .u8 0, .int .u8 0, .int .u8 0, .int .u8 0, .slice none 0 0, .bool false, .int .u8 0, .int .u8 0, .int .u8 0, .int .u8 0, .int .u8 0, .int .u8 0, .int .u8 0, .int .u8 0, .int .u8 0, .int .u8 0, .int .u8 0, .int .u8 0, .int .u8 0, .int .u8 0, .int .u8 0, .int .u8 0, .int .u8 0, .int .u8 0, .int .u8 0, .int .u8 0, .int .u8 0, .int .u8 0, .int .u8 0, .int .u8 0, .int .u8 0, .int .u8 0, .int .u8 0, .int .u8 0, .int .u8 0, .int .u8 0, .int .u8 0, .int .u8 0, .int .u8 0, .int .u8 0, .int .u8 0, .int .u8 0, .int .u8 0, .int .u8 0, .int .u8 0, .int .u8 0, .int .u8 0, .int .u8 0, .int .u8 0, .int .u8 0, .int .u8 0, .int .u8 0, .int .u8 0, .int .u8 0, .int .u8 0, .int .u8 0, .int .u8 0, .int .u8 0, .int .u8 0, .int .u8 0, .int .u8 0, .int .u8 0, .int .u8 0, .int .u8 0, .int .u8 0, .int .u8 0, .int .u8 0, .int .u8 0, .int .u8 0, .int .u8 0, .slice none 0 0]], []⟩ 8 (by as_aux_lemma => kernel_rfl) (by as_aux_lemma => kernel_rfl) (by as_aux_lemma => kernel_rfl) (by as_aux_lemma => kernel_rfl)) ?_
  intro W base args ds gs before hval0 hW hcnd _
  have hval : ∀ (j : Nat) t v, Hvag.f3.params[j]? = some t → args[j]? = some v → Value.okWide Hvag.prog W .any base t v := hval0
  have hW' := hW
  obtain ⟨p, q, hA0, hV, rfl, hfz, hnd⟩ := hW
  have hA : DataW.TrodAll enc Hvag.prog W 0 (fun _ => true) true Hvag.f3.params.toList args.toList ds p := hA0
  rw [Hvag.params3] at hA hval
  obtain ⟨v0, v1, v2, d0, d1, d2, p0, p1, p2, rfl, rfl, rfl, h0, h1, h2⟩ := trodAll_three hA
  obtain ⟨rfl, rfl⟩ := trodVars_none hV
  obtain ⟨o0, n0, k0, rfl⟩ := okWide_slice Hvag.underlying23 (hval 0 23 v0 rfl rfl)
  obtain ⟨r1, rfl, g1⟩ := okWide_agg Hvag.underlying31 (hval 1 31 v1 rfl rfl)
  obtain ⟨r2, rfl, g2⟩ := okWide_agg Hvag.underlying35 (hval 2 35 v2 rfl rfl)
  have hlv := env_live g1
  obtain ⟨f0, t0⟩ := h0
  obtain ⟨f1, t1⟩ := h1
  obtain ⟨f2, t2⟩ := h2
  obtain ⟨v, l, e0, hE⟩ := Tr.world (enc := enc) ⟨_, t0⟩
  cases e0
  obtain ⟨s1, e, hI⟩ := Tr.env (enc := enc) (n := f1) (r := r1) ⟨_, t1⟩ hlv
  obtain ⟨s2, t, hT⟩ := Tr.tx (enc := enc) (n := f2) (r := r2) ⟨_, t2⟩
  clear hA0 hval0
  simp only [List.append_nil] at hW'
  refine (towerOneAll hE s1 hI s2 hT).mono fun e W' ⟨he, hg⟩ => ?_
  subst he
  have hlt : ∀ x ∈ p0 ++ p1 ++ p2, x.block < W.heap.size := fun x hx => by simpa using hW'.lt x (by simpa using hx)
  have hsame : ∀ x ∈ p0 ++ p1 ++ p2, W.sameAt W' x := fun x hx => hg.belowAll.same (hlt x hx)
  refine ⟨_, rfl, post_of_same (pa := p0 ++ (p1 ++ p2)) (pv := []) hW' (fun _ _ _ => trodAll_mk1 (shut_bool Hvag.underlying4 _)) (fun sp hsp => trodAll_mk3 (WideElems.Trod_stays Hvag.laidOut (by kernel_rfl) (of_decide_eq_true (by kernel_rfl)) ⟨_, t0⟩ (fun x hx => hsame x (by simp [hx])) (fun x hx => hsp x (by simp [hx]))) (WideElems.Trod_stays Hvag.laidOut (by kernel_rfl) (of_decide_eq_true (by kernel_rfl)) ⟨_, t1⟩ (fun x hx => hsame x (by simp [hx])) (fun x hx => hsp x (by simp [hx]))) (WideElems.Trod_stays Hvag.laidOut (by kernel_rfl) (of_decide_eq_true (by kernel_rfl)) ⟨_, t2⟩ (fun x hx => hsame x (by simp [hx])) (fun x hx => hsp x (by simp [hx])))) (fun _ _ => rfl) (by simp) (hg.belowAll.frame _) (fun a => hg.frozenAll a) (ok_one (by kernel_rfl) rfl (okWide_bool_mk Hvag.underlying4 _))⟩

end Go.Proofs.YgvagwGreat
