import Derived.Test.YgvahwGreatYb0
namespace Go.Proofs.YgvahwGreat
open Go.RowKit
set_option linter.unusedVariables false
section
variable {ops : Array Oper} {a : Act} {S : World → Prop} {o : Oper} {x : Operand} {b i y : Nat}
/-- An address that is loaded from a block whose other cells may change. -/
theorem yields_Ax (hw : Region.wanted o (yielded ops a.tmps) = true) (hop : o.op = .load 31 x) (hx : a.eval x = .pointer (some ⟨b, i, none⟩)) (hB : ∀ w, S w → ∃ n tt c, Blk w b n tt c ∧ AAt c i y ∧ i + 20 ≤ n) (hy : y < 2 ^ 160) : YieldsIf Hvah.prog ops S o (.agg (av y)) a := by
  obtain ⟨d, h1, h2⟩ := rt25.desc
  have := yieldsIf_load_mid (S := S) hw 31 x hop b i hx (av y).toList d (fun w h j v hv => by
    obtain ⟨n, tt, c, k1, k2, k3⟩ := hB w h
    exact k2.row hy k1 k3 j v (by simpa using hv)) h1 h2 (by rw [rt25.size]; simp [av_size hy])
  simpa using this
end
section
variable {O TL : Nat → Prop} {w w' : World} {Y F n : Nat} {c d : Nat → Value} {W : YW} {start : List (Nat × Nat × Nat)} {st : ASt} {tot tot' : Nat} {L : List YFrm}
theorem YZ.putTotal (h : YZ O TL w Y F n c d W start st tot L) {v : Value} (hv : NV O w v tot') (m : Mod (· = Y) w w') (hB : Blk w' Y 179 118 (updv c 18 v)) : YZ O TL w' Y F n (updv c 18 v) d W start st tot' L := by
  have hs := h.hsY
  have hc : ∀ i, i ≠ 18 → updv c 18 v i = c i := fun i hi => updv_ne _ _ hi
  exact { bY := hB
          wc := (h.wc.keep m hs).cells (fun j hj => by rw [Nat.zero_add, hc _ (by omega)])
          lim := h.lim
          wf := h.wf
          st8 := by rw [hc _ (by decide)]; exact TmpL.keep h.st8 m hs
          sl := h.sl
          fv := by rw [hc _ (by decide)]; exact h.fv.mod m (fun q => h.ne q.symm)
          few := h.few
          small := fun b hb => Nat.lt_of_lt_of_le (h.small b hb) m.size
          ret := by rw [hc _ (by decide)]; exact h.ret.keep m hs
          phase := by rw [hc _ (by decide)]; exact h.phase
          hLt := h.hLt
          status := by rw [hc _ (by decide)]; exact h.status
          applied := by rw [hc _ (by decide)]; exact h.applied
          limit := by rw [hc _ (by decide)]; exact h.limit.keep m hs
          left := fun q => by rw [hc _ (by decide)]; exact (h.left q).keep m hs
          price := by rw [hc _ (by decide)]; exact h.price.keep m hs
          pLt := h.pLt
          total := by rw [updv_same]; exact hv.keep m hs
          tg := by rw [hc _ (by decide)]; exact h.tg.keep m hs
          origin := h.origin.same h.oLt (fun j hj => hc _ (by omega))
          oLt := h.oLt
          made := h.made.same h.mLt (fun j hj => hc _ (by omega))
          mLt := h.mLt
          env := h.env.same (fun j hj _ => hc j (by omega)) (fun _ _ q => q.keep m hs)
          now := h.now
          orig := h.orig
          oY := h.oY
          oF := h.oF
          ne := h.ne
          frs := h.frs
          fl := YFL.keep m hs h.fl (fun x hx b hb q => (h.tm x hx b hb).2.1 q)
          tm := h.tm
          td := h.td
          tl := h.tl
          lg := by
            rw [hc 4 (by decide)]
            exact h.lg.imp (fun k => LogL.keep k m hs (fun b hb => (h.tl b hb).2.1)) (fun k => ⟨LogL.keep k.1 m hs (fun b hb => hs b hb), k.2⟩) }
end
end Go.Proofs.YgvahwGreat
