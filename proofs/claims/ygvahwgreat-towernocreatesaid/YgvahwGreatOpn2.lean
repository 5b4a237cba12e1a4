import Derived.Test.YgvahwGreatOpn1
import Derived.Test.YgvahwGreatMm
import Derived.Test.YgvahwGreatRx
import Derived.Test.YgvahwGreatOc
namespace Go.Proofs.YgvahwGreat
open Go.RowKit
set_option maxRecDepth 100000 in
set_option maxHeartbeats 1600000 in
theorem eCopiedX (O O' : Nat → Prop) (v : Value) (l : List Nat) (w : World) (hO : Small O w) (h : NLx O' w v l) (hle : l.length ≤ 140737488355328) :
    Calls Hvah.prog 113 #[v] w fun e w' => ∃ r, e = .returned r ∧ NL O w' r l ∧ Ext w w' := by
  obtain ⟨o, c, rfl, hc, hm, hb⟩ := h
  have hd := hb.lt
  by_cases hne : l = []
  · subst hne
    go_enter Hvah.func113, Hvah.ntmps113
    go_wp2
    go_ret
    exact ⟨_, rfl, NL.nil, Ext.refl _⟩
  · have hl : ((l.length : Int) == 0) = false := by
      have := List.length_pos_iff.2 hne
      simp; omega
    go_enter Hvah.func113, Hvah.ntmps113
    go_wp2_with (first
      | (at_make; refine wl_make_bytes Hvah.underlying23 l.length rfl rfl hle ?_)
      | ((with_reducible (refine Veil.out ?_; apply wl_copy_bytes Hvah.underlying23 (L := List.replicate l.length 0) (t := 5) (l := l))); (case hd => rfl); (case hs => rfl); (case hg => exact heap_new _ _); (case hl => simp); (case hsrc => exact (hb.ext ((Ext.refl _).alloc _ _)).src hne); (case hfit => simp)))
    go_ret
    refine ⟨_, rfl, ?_, ((Ext.refl _).alloc _ _).setRow (Nat.le_refl _) _⟩
    refine NL.row (t := 5) ?_ hd (fun hx => Nat.lt_irrefl _ (hO _ hx)) rfl hle
    rw [setRow_heap _ _ _ _ _ _ (heap_new _ _)]
section
variable {own : Nat → Nat} {w w' : World} {g : Nat} {c c' : Nat → Value} {V : EV} {st : ASt} {stale : List Nat}
/-- A creation at a place that is taken: ended before it began. -/
theorem MRep.ended2 {lf sts : Nat} (h : MRep own w g c V st [] stale) (hst : st.frames = []) (hm : Mod (· = g) w w') (hB : Blk w' g 27024 105 c') (hc : ∀ i, i ≠ 1810 → i ≠ 1811 → i ≠ 2404 → i ≠ 2405 → c' i = c i) (h1 : c' 2404 = .int .u8 2) (h2 : c' 2405 = .int .u8 (sts : Nat)) (hs : sts < 256) (h3 : c' 1810 = .int .u64 (lf : Nat)) (hl : lf < 18446744073709551616) :
    MRep own w' g c' V { st with frames := [], phase := 2, status := sts, left := lf } [] stale ∧ MStep own w own w' := by
  have K : Keep own own g 7 w w' := ⟨fun _ _ => rfl, hm.sub (fun x hx => Or.inl hx), h.v.tag, by decide⟩
  have hmm := h.m.mem
  have htop := h.m.top
  rw [hst] at hmm htop
  refine ⟨h.gen2 (frs' := []) (ret' := st.ret) (ph := 2) (sts := sts) (lf := lf) K (fun b hb => h.v.fresh b (Nat.le_trans hm.size hb)) hB (hc 0 (by omega) (by omega) (by omega) (by omega)) (fun i q1 q2 q3 => hc i (by omega) (by omega) q2 q3) ⟨(hc _ (by omega) (by omega) (by omega) (by omega)).trans hmm.top, (hc _ (by omega) (by omega) (by omega) (by omega)).trans hmm.base, ?_, hmm.few, hmm.size, hmm.stl⟩ trivial ((hc _ (by omega) (by omega) (by omega) (by omega)).trans htop) (by rw [hc _ (by omega) (by omega) (by omega) (by omega)]; exact K.nl h.m.ret) h1 (by decide) h2 hs (fun _ _ => h3) hl (fun s q => by cases q) List.Pairwise.nil (fun i q => by simp at q), MStep.ofG h.v.tag hm⟩
  rw [hc 1 (by omega) (by omega) (by omega) (by omega)]
  exact (Keep.here h.v hm).row hmm.buf (fun _ _ _ q => q) (by decide) (by decide)
end
/-- The frame of a call. -/
def opF0 (w : AW) (t : ATx) (tg g : Nat) : AFrame := { kind := 0, pre := preA tg, static := false, pc := 0, gas := g, value := t.value, outOff := 0, outLen := 0, stack := [], mem := [], code := if preA tg = 0 then w.code tg else [], input := t.data, self := tg, caller := t.from_, saved := w }
/-- The frame of a creation. -/
def opF1 (w : AW) (t : ATx) (tg g : Nat) : AFrame := { kind := 1, pre := 0, static := false, pc := 0, gas := g, value := t.value, outOff := 0, outLen := 0, stack := [], mem := [], code := t.data, input := [], self := tg, caller := t.from_, saved := w }
/-- How Open ends. -/
def opEnd (st : ASt) (t : ATx) (tg : Nat) : ASt :=
  if t.create then (if st.now.nonce tg ≠ 0 ∨ st.now.code tg ≠ [] then { st with phase := 2, status := 12, left := 0 } else ({ st with phase := 1 } : ASt).enter (opF1 st.now t tg st.txGas))
  else ({ st with phase := 1 } : ASt).enter (opF0 st.now t tg st.txGas)
theorem opened_end {st : ASt} {t : ATx} {tg md ap1 bl : Nat} (h1 : (if t.create then createAddrA t.from_ t.nonce else t.to_) = tg) (h2 : (if t.create then tg else 0) = md) (h3 : st.applied + 1 = ap1) (h5 : st.now.bal t.from_ = bl) : st.begin_ t = opEnd ({ ({ st with orig := st.now.slot, frames := [], ret := [], applied := ap1, limit := t.gas, txGas := t.gas - t.intrinsic, price := st.priceOf t, origin := t.from_, made := md } : ASt) with now := (((((((st.now.setNonce t.from_ (t.nonce + 1)).setBal t.from_ (bl - t.gas * st.priceOf t)).warm t.from_).warm st.env.coinbase).warm tg).warm 4).warm 5).warmList t.access } : ASt) t tg := by
  subst h1; subst h2; subst h3; subst h5
  unfold ASt.begin_ opEnd ASt.opened opF0 opF1
  cases t.create <;> simp
/-- What is left of a sequence behind its first n parts. -/
def otail : Nat → Code → Code
  | n + 1, .seq _ b => otail n b
  | _, c => c
/-- A sequence's first part. -/
def ohead : Code → Code
  | .seq a _ => a
  | c => c
/-- The body of Open. -/
def obody (f : Func) : Code := match f.body with
  | some c => c
  | none => .region 0 #[] false
/-- What follows it. -/
def OQ (R : Ending → World → Prop) : Exit → Act → World → Prop := bodyPost Hvah.prog Hvah.f45 R
end Go.Proofs.YgvahwGreat
