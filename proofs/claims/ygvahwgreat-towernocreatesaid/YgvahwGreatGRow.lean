import Derived.Test.YgvahwGreatArn
import Derived.Test.YgvahwGreatLay
namespace Go.Proofs.YgvahwGreat
open Go.RowKit
section
variable {α : Type}
/-- A growing row, each element of which stands as R says. -/
def GRow (ty : TypeId) (sz : Nat) (R : (Nat → Value) → Nat → α → Prop) (T : Nat → Prop) (w : World) (v : Value) (l : List α) : Prop :=
  (l = [] ∧ v = .slice none 0 0) ∨ ∃ b cap c, v = .slice (some ⟨b, 0, none⟩) l.length cap ∧ l.length ≤ cap ∧ cap ≤ 9223372036854775807 ∧ Blk w b (cap * sz) ty c ∧ T b ∧ ∀ (i : Nat) (h : i < l.length), R c (i * sz) l[i]
variable {ty : TypeId} {sz : Nat} {R R' : (Nat → Value) → Nat → α → Prop} {T T' : Nat → Prop} {w w' : World} {v : Value} {l : List α}
theorem GRow.mono (h : GRow ty sz R T w v l) (hR : ∀ c o x, R c o x → R' c o x) (hT : ∀ b, b < w.heap.size → T b → T' b) (hB : ∀ b n t c, Blk w b n t c → T b → Blk w' b n t c) : GRow ty sz R' T' w' v l := by
  rcases h with h | ⟨b, cap, c, h1, h2, h3, h4, h5, h6⟩
  · exact Or.inl h
  · exact Or.inr ⟨b, cap, c, h1, h2, h3, hB b _ _ _ h4 h5, hT b h4.lt h5, fun i hi => hR _ _ _ (h6 i hi)⟩
theorem GRow.ext (h : GRow ty sz R T w v l) (e : Ext w w') (hR : ∀ c o x, R c o x → R' c o x) : GRow ty sz R' T w' v l :=
  h.mono hR (fun _ _ h => h) (fun _ _ _ _ h _ => h.ext e)
theorem GRow.arn (h : GRow ty sz R T w v l) : ∃ b c, Arn w ty sz v l.length b c ∧ (∀ cap, v = .slice (some ⟨b, 0, none⟩) l.length cap → T b) ∧ ∀ (i : Nat) (h : i < l.length), R c (i * sz) l[i] := by
  rcases h with ⟨h1, h2⟩ | ⟨b, cap, c, h1, h2, h3, h4, h5, h6⟩
  · subst h1
    exact ⟨0, fun _ => undef, Or.inl ⟨rfl, h2⟩, fun cap hc => (by rw [h2] at hc; cases hc), fun i h => by simp at h⟩
  · exact ⟨b, c, Or.inr ⟨cap, h1, h2, h3, h4⟩, fun _ _ => h5, h6⟩
/-- One element more. -/
theorem GRow.push {b b' : Nat} {c c' : Nat → Value} {news : List Value} {v' : Value} {x : α} (hG : Grown w ty sz v l.length b c news v' w' b' c') (hl : ∀ (i : Nat) (h : i < l.length), R c (i * sz) l[i])
    (hR : ∀ c c' o y, (∀ j, j < sz → c' (o + j) = c (o + j)) → R c o y → R' c' o y) (hx : (∀ j u, news[j]? = some u → c' (l.length * sz + j) = u) → R' c' (l.length * sz) x) (hT : T' b') : GRow ty sz R' T' w' v' (l ++ [x]) := by
  obtain ⟨cap2, hc2⟩ := hG.some
  rcases hG.arn with ⟨h1, _⟩ | ⟨cap, h1, h2, h3, h4⟩
  · omega
  refine Or.inr ⟨b', cap, c', by rw [h1]; simp, by simpa using h2, h3, h4, hT, fun i hi => ?_⟩
  by_cases h5 : i < l.length
  · rw [List.getElem_append_left h5]
    refine hR c c' _ _ (fun j hj => hG.old _ ?_) (hl i h5)
    have : (i + 1) * sz ≤ l.length * sz := Nat.mul_le_mul_right _ h5
    rw [Nat.add_mul, Nat.one_mul] at this; omega
  · have : i = l.length := by simp at hi; omega
    subst this
    simp only [List.getElem_concat_length]
    exact hx hG.new
/-- One element changed. -/
theorem GRow.change {b cap : Nat} {c c' : Nat → Value} (hv : v = .slice (some ⟨b, 0, none⟩) l.length cap) (h2 : l.length ≤ cap) (h3 : cap ≤ 9223372036854775807) (hB : Blk w' b (cap * sz) ty c') (hT : T' b) (hl : ∀ (i : Nat) (h : i < l.length), R c (i * sz) l[i])
    (i : Nat) (y : α) (hc : ∀ j, j < i * sz ∨ (i + 1) * sz ≤ j → c' j = c j) (hR : ∀ c c' o y, (∀ j, j < sz → c' (o + j) = c (o + j)) → R c o y → R' c' o y) (hy : R' c' (i * sz) y) : GRow ty sz R' T' w' v (l.set i y) := by
  refine Or.inr ⟨b, cap, c', by rw [List.length_set]; exact hv, by simpa using h2, h3, hB, hT, fun k hk => ?_⟩
  rw [List.length_set] at hk
  rw [List.getElem_set]
  split
  · rename_i e; subst e; exact hy
  · rename_i e
    refine hR c c' _ _ (fun j hj => hc _ ?_) (hl k hk)
    rcases Nat.lt_or_gt_of_ne e with h | h
    · right
      have : (i + 1) * sz ≤ k * sz := Nat.mul_le_mul_right _ h
      omega
    · left
      have : (k + 1) * sz ≤ i * sz := Nat.mul_le_mul_right _ h
      rw [Nat.add_mul, Nat.one_mul] at this; omega
end
end Go.Proofs.YgvahwGreat
