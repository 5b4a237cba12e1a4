import Derived.Test.YgvahwGreatRowsE
import Derived.Test.YgvahwGreatRowsJ
namespace Go.Proofs.YgvahwGreat
open Go.RowKit
set_option linter.unusedVariables false
/-- The block that a list lies in. -/
def CurB (v : Value) (b : Nat) : Prop := ∃ n cap, v = .slice (some ⟨b, 0, none⟩) n cap
/-- O and the list's own block. -/
def OC (O : Nat → Prop) (v : Value) (b : Nat) : Prop := O b ∨ CurB v b
theorem CurB.eq {b b' n cap : Nat} {v : Value} (h : v = .slice (some ⟨b, 0, none⟩) n cap) (k : CurB v b') : b' = b := by
  obtain ⟨n', cap', e⟩ := k
  rw [h] at e
  injection e with e1
  injection e1 with e2
  injection e2 with e3
  exact e3.symm
theorem curB_nil (b : Nat) : ¬ CurB (.slice none 0 0) b := by
  rintro ⟨n, cap, e⟩
  injection e with e1
  cases e1
section
variable {a : Act} {w : World} {K : Act → World → Prop} {Q : Exit → Act → World → Prop} {o : Oper} {α : Type}
/-- append of one element whose parts lie in blocks of their own. -/
theorem op_pushN (s x : Operand) (t : TypeId) (hop : o.op = Op.call { callee := Callee.builtin Builtin.append, args := #[s, x], argTypes := #[t, t] }) {e : TypeId} {sz : Nat} (st : SlT t e sz) {R : (Nat → Prop) → World → (Nat → Value) → Nat → α → Prop} (O : Nat → Prop) (v : Value) (l : List α) (T : Nat → Prop) (hT0 : ∀ b, w.heap.size ≤ b → T b) (hG : GRow e sz (R (OC O v) w) T w v l) (hn : l.length ≤ 1048576)
    (ad : Addr) (r : Array Value) (hr : r.size = sz) (hnews : ∀ j u, r.toList[j]? = some u → w.cell? (ad.add j) = some u) (hone : ∀ u ∈ r.toList, u.oneCell' = true) (hs : a.eval s = v) (hx : a.eval x = .slice (some ad) 1 1) (y : α)
    (hxr : ∀ c o, (∀ j u, r[j]? = some u → c (o + j) = u) → R (OC O v) w c o y)
    (hRm : ∀ O w c c' o y, (∀ j, j < sz → c' (o + j) = c (o + j)) → R O w c o y → R O w c' o y)
    (hRk : ∀ (O S : Nat → Prop) w w' c o y, Mod S w w' → (∀ b, ¬ O b → ¬ S b) → R O w c o y → R O w' c o y)
    (hRo : ∀ (O O' : Nat → Prop) w c o y, (∀ b, b < w.heap.size → O' b → O b) → R O w c o y → R O' w c o y)
    (hK : ∀ v' W, GRow e sz (R (OC O v') W) T W v' (l ++ [y]) → Mod T w W → (∃ b cap, v' = .slice (some ⟨b, 0, none⟩) (l.length + 1) cap ∧ (CurB v b ∨ w.heap.size ≤ b)) → K (a.put o.dst v') W) : Oper.wp Hvah.prog o a w K Q := by
  obtain ⟨i, z, ht, hi, hz, hsz, hzs, hby⟩ := st.ex
  obtain ⟨b, c, hA, hTb, hrows⟩ := hG.arn
  obtain ⟨v', W, b', c', hrun, hGr⟩ := run_append1 (w := w) t o.type e i z sz ht hi hz hsz hzs hby v l.length b c hA hn ad 1 r.toList (by simpa using hr) hnews hone
  have hfin : K (a.put o.dst v') W := by
    obtain ⟨cap', hv'⟩ := hGr.some
    refine hK v' W (GRow.push (R := R (OC O v) w) (R' := R (OC O v') W) (x := y) hGr hrows (fun c1 c2 o1 y1 hc k => ?_) (fun hnew => ?_) ?_) ?_ ?_
    · refine hRm _ _ _ _ _ _ hc ?_
      rcases hGr.how with ⟨rfl, ⟨cap, hv⟩, hm⟩ | ⟨rfl, he⟩
      · refine hRo (OC O v) (OC O v') W c1 o1 y1 (fun b1 _ q => q.imp id (fun q => ?_)) (hRk (OC O v) (· = b') w W c1 o1 y1 hm (fun b1 hb q => hb (Or.inr ⟨l.length, cap, by rw [hv, show b1 = b' from q]⟩)) k)
        rw [CurB.eq hv' q]; exact ⟨_, _, hv⟩
      · exact hRk (OC O v') (fun _ => False) w W c1 o1 y1 (he.mod _) (fun _ _ q => q) (hRo (OC O v) (OC O v') w c1 o1 y1 (fun b1 hb q => q.elim Or.inl (fun q => by have := CurB.eq hv' q; omega)) k)
    · have k := hxr c' (l.length * sz) (fun j u hu => hnew j u (by simpa using hu))
      rcases hGr.how with ⟨rfl, ⟨cap, hv⟩, hm⟩ | ⟨rfl, he⟩
      · refine hRo (OC O v) (OC O v') W c' _ y (fun b1 _ q => q.imp id (fun q => ?_)) (hRk (OC O v) (· = b') w W c' _ y hm (fun b1 hb q => hb (Or.inr ⟨l.length, cap, by rw [hv, show b1 = b' from q]⟩)) k)
        rw [CurB.eq hv' q]; exact ⟨_, _, hv⟩
      · exact hRk (OC O v') (fun _ => False) w W c' _ y (he.mod _) (fun _ _ q => q) (hRo (OC O v) (OC O v') w c' _ y (fun b1 hb q => q.elim Or.inl (fun q => by have := CurB.eq hv' q; omega)) k)
    · rcases hGr.how with ⟨rfl, ⟨cap, hv⟩, _⟩ | ⟨rfl, _⟩
      · exact hTb cap hv
      · exact hT0 _ (Nat.le_refl _)
    · rcases hGr.how with ⟨rfl, ⟨cap, hv⟩, hm⟩ | ⟨_, he⟩
      · exact hm.sub (fun i hi => by have hi2 : i = b' := hi; rw [hi2]; exact hTb cap hv)
      · exact he.mod _
    · rcases hGr.how with ⟨rfl, ⟨cap, hv⟩, hm⟩ | ⟨rfl, he⟩
      · exact ⟨b', cap', hv', Or.inl ⟨_, _, hv⟩⟩
      · exact ⟨_, cap', hv', Or.inr (Nat.le_refl _)⟩
  unfold Oper.wp
  simp [execOp, hop, resolve, invoke, builtin, hs, hx, hrun, Result.andThen]
  exact hfin
end
end Go.Proofs.YgvahwGreat
