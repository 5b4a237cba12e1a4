import Derived.Test.YgvahwGreatDivE
namespace Go.Proofs.YgvahwGreat
open Go.RowKit

/-- c but at i. -/
def updv (c : Nat → Value) (i : Nat) (v : Value) : Nat → Value := fun j => if j = i then v else c j
theorem updv_same (c : Nat → Value) (i : Nat) (v : Value) : updv c i v i = v := by simp [updv]
theorem updv_ne (c : Nat → Value) {i j : Nat} (v : Value) (h : j ≠ i) : updv c i v j = c j := by simp [updv, h]
/-- A block of n cells. -/
def Blk (w : World) (g n : Nat) (t : TypeId) (c : Nat → Value) : Prop := ∃ a : Array Value, w.heap[g]? = some (.cells a t (0, 0)) ∧ a.size = n ∧ ∀ i, i < n → a[i]? = some (c i)
theorem Blk.lt {w : World} {g n : Nat} {t : TypeId} {c : Nat → Value} (h : Blk w g n t c) : g < w.heap.size := by
  obtain ⟨a, h1, _⟩ := h; exact (Array.getElem?_eq_some_iff.1 h1).1
theorem Blk.cell {w : World} {g n : Nat} {t : TypeId} {c : Nat → Value} (h : Blk w g n t c) {i : Nat} (hi : i < n) : w.cell? ⟨g, i, none⟩ = some (c i) := by
  obtain ⟨a, h1, h2, h3⟩ := h
  simp [World.cell?, h1, h3 i hi]
theorem Blk.fz {w : World} {g n : Nat} {t : TypeId} {c : Nat → Value} (h : Blk w g n t c) (i : Nat) : w.frozen? ⟨g, i, none⟩ = false := by
  obtain ⟨a, h1, _⟩ := h
  simp [World.frozen?, h1]
theorem Blk.ext {w w' : World} {g n : Nat} {t : TypeId} {c : Nat → Value} (h : Blk w g n t c) (e : Ext w w') : Blk w' g n t c := by
  have hl := h.lt
  obtain ⟨a, h1, h2⟩ := h; exact ⟨a, (e.block g hl).trans h1, h2⟩
theorem Blk.mod {S : Nat → Prop} {w w' : World} {g n : Nat} {t : TypeId} {c : Nat → Value} (h : Blk w g n t c) (e : Mod S w w') (hn : ¬ S g) : Blk w' g n t c := by
  have hl := h.lt
  obtain ⟨a, h1, h2⟩ := h; exact ⟨a, (e.block g hl hn).trans h1, h2⟩
/-- A block keeps its shape, whatever is written. -/
theorem Blk.shp {S : Nat → Prop} {w w' : World} {g n : Nat} {t : TypeId} {c : Nat → Value} (h : Blk w g n t c) (m : Mod S w w') : ∃ c', Blk w' g n t c' := by
  have hl := h.lt
  obtain ⟨a, h1, h2, _⟩ := h
  have q := m.shape g hl
  unfold Go.Proofs.YgvahwGreat.shp at q
  rw [h1] at q
  cases e : w'.heap[g]? with
  | none => rw [e] at q; cases q
  | some o =>
    rw [e] at q
    cases o with
    | cells a' t' f' =>
      simp only [Option.some.injEq, Prod.mk.injEq] at q
      obtain ⟨q1, q2, q3⟩ := q
      refine ⟨fun i => a'[i]?.getD undef, a', by rw [e, q1, q3], q2.trans h2, fun i hi => ?_⟩
      have : i < a'.size := by omega
      simp [this]
    | _ => cases q
theorem Blk.set {w : World} {g n : Nat} {t : TypeId} {c : Nat → Value} (h : Blk w g n t c) (i : Nat) (v : Value) : Blk (w.setCell ⟨g, i, none⟩ v) g n t (updv c i v) := by
  obtain ⟨a, h1, h2, h3⟩ := h
  refine ⟨a.setIfInBounds i v, ?_, by simpa using h2, fun j hj => ?_⟩
  · simp [World.setCell, Array.getElem?_modify, h1]
  · rw [Array.getElem?_setIfInBounds]
    unfold updv
    by_cases e : i = j
    · subst e; simp [h2, hj]
    · rw [if_neg e, if_neg (fun h => e h.symm)]; exact h3 j hj
theorem Blk.off {w : World} {g n b o : Nat} {t : TypeId} {c : Nat → Value} {v : Value} (h : Blk w g n t c) (hb : g ≠ b) : Blk (w.setCell ⟨b, o, none⟩ v) g n t c := by
  obtain ⟨a, h1, h2⟩ := h; exact ⟨a, (Below.heap_setCell _ _ _ _ hb).trans h1, h2⟩
theorem Blk.drew {w : World} {g n : Nat} {t : TypeId} {c : Nat → Value} (h : Blk w g n t c) : Blk w.drew g n t c := h
theorem Blk.drewN {w : World} {g n : Nat} {t : TypeId} {c : Nat → Value} (h : Blk w g n t c) (k : Nat) : Blk (w.drewN k) g n t c := h
theorem Blk.alloc {w : World} {g n : Nat} {t : TypeId} {c : Nat → Value} (h : Blk w g n t c) (d : Array Value) (u : TypeId) : Blk (w.alloc (.cells d u)) g n t c := h.ext ((Ext.refl _).alloc d u)
/-- A word at four cells. -/
structure WAt (c : Nat → Value) (o x : Nat) : Prop where
  c0 : c o = .int .u64 (lim x 0 : Nat)
  c1 : c (o + 1) = .int .u64 (lim x 1 : Nat)
  c2 : c (o + 2) = .int .u64 (lim x 2 : Nat)
  c3 : c (o + 3) = .int .u64 (lim x 3 : Nat)
/-- The world under a letter, with what is known of it. -/
theorem w_gen {F : World → Prop} {W : World} (R : World → Prop) (h : R W) (k : ∀ X, R X → F X) : F W := k W h
/-- c with a word at o. -/
def upd4 (c : Nat → Value) (o x : Nat) : Nat → Value := updv (updv (updv (updv c o (.int .u64 (lim x 0 : Nat))) (o + 1) (.int .u64 (lim x 1 : Nat))) (o + 2) (.int .u64 (lim x 2 : Nat))) (o + 3) (.int .u64 (lim x 3 : Nat))
theorem upd4_out (c : Nat → Value) (o x j : Nat) (h : j < o ∨ o + 4 ≤ j) : upd4 c o x j = c j := by
  unfold upd4
  rw [updv_ne _ _ (by omega), updv_ne _ _ (by omega), updv_ne _ _ (by omega), updv_ne _ _ (by omega)]
theorem upd4_at (c : Nat → Value) (o x : Nat) : WAt (upd4 c o x) o x := by
  unfold upd4
  refine ⟨?_, ?_, ?_, ?_⟩
  · rw [updv_ne _ _ (by omega), updv_ne _ _ (by omega), updv_ne _ _ (by omega), updv_same]
  · rw [updv_ne _ _ (by omega), updv_ne _ _ (by omega), updv_same]
  · rw [updv_ne _ _ (by omega), updv_same]
  · rw [updv_same]
theorem Blk.set4 {w : World} {g n : Nat} {t : TypeId} {c : Nat → Value} (h : Blk w g n t c) (o x : Nat) : Blk ((((w.setCell ⟨g, o, none⟩ (.int .u64 (lim x 0 : Nat))).setCell ⟨g, o + 1, none⟩ (.int .u64 (lim x 1 : Nat))).setCell ⟨g, o + 2, none⟩ (.int .u64 (lim x 2 : Nat))).setCell ⟨g, o + 3, none⟩ (.int .u64 (lim x 3 : Nat))) g n t (upd4 c o x) :=
  (((h.set _ _).set _ _).set _ _).set _ _
theorem Mod.set4 {S : Nat → Prop} {a w : World} (h : Mod S a w) {g : Nat} (hg : S g ∨ a.heap.size ≤ g) (o : Nat) (v0 v1 v2 v3 : Value) : Mod S a ((((w.setCell ⟨g, o, none⟩ v0).setCell ⟨g, o + 1, none⟩ v1).setCell ⟨g, o + 2, none⟩ v2).setCell ⟨g, o + 3, none⟩ v3) :=
  (((h.setCell hg _).setCell hg _).setCell hg _).setCell hg _
end Go.Proofs.YgvahwGreat
