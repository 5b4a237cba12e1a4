import Derived.Test.YgvahwGreatMb
namespace Go.Proofs.YgvahwGreat
open Go.RowKit
section
variable {ops : Array Oper} {a : Act} {S : World → Prop} {o : Oper} {x : Operand} {tt : TypeId} {b i n y : Nat} {c : Nat → Value}
theorem yields_1 {t : TypeId} (hw : Region.wanted o (yielded ops a.tmps) = true) (hop : o.op = .load t x) (hx : a.eval x = .pointer (some ⟨b, i, none⟩)) (ht : OneT t) (hB : ∀ w, S w → Blk w b n tt c) (hi : i < n) : YieldsIf Hvah.prog ops S o (c i) a :=
  yieldsIf_load1 hw t x hop b i hx ht (c i) (fun w h => (hB w h).cell hi)
theorem yields_W (hw : Region.wanted o (yielded ops a.tmps) = true) (hop : o.op = .load 79 x) (hx : a.eval x = .pointer (some ⟨b, i, none⟩)) (hB : ∀ w, S w → Blk w b n tt c) (hW : WAt c i y) (hi : i + 4 ≤ n) : YieldsIf Hvah.prog ops S o (wv y) a := by
  obtain ⟨d, h1, h2⟩ := rt66.desc
  exact yieldsIf_load_mid hw 79 x hop b i hx (wvA y).toList d (fun w h j v hv => hW.rowIn (hB w h) hi j v (by simpa using hv)) h1 h2 (by rw [rt66.size]; rfl)
theorem yields_A (hw : Region.wanted o (yielded ops a.tmps) = true) (hop : o.op = .load 31 x) (hx : a.eval x = .pointer (some ⟨b, i, none⟩)) (hB : ∀ w, S w → Blk w b n tt c) (hA : AAt c i y) (hy : y < 2 ^ 160) (hi : i + 20 ≤ n) : YieldsIf Hvah.prog ops S o (.agg (av y)) a := by
  obtain ⟨d, h1, h2⟩ := rt25.desc
  have := yieldsIf_load_mid (S := S) hw 31 x hop b i hx (av y).toList d (fun w h j v hv => hA.row hy (hB w h) hi j v (by simpa using hv)) h1 h2 (by rw [rt25.size]; simp [av_size hy])
  simpa using this
end
end Go.Proofs.YgvahwGreat
