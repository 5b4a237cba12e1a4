import Derived.Test.YgvahwGreatRowsV
import Derived.Test.YgvahwGreatTop
namespace Go.Proofs.YgvahwGreat
open Go.RowKit
section
variable {own : Nat → Nat} {w w' : World} {g : Nat} {c c' : Nat → Value} {V : EV} {st : ASt} {stale : List Nat}
/-- The header's cells of a machine at rest are laid anew: what a transaction's opening stores. -/
theorem MRep.header {ap lm tg pr og md : Nat} (h : MRep own w g c V st [] stale) (hst : st.frames = []) (hm : Mod (· = g) w w') (hB : Blk w' g 27024 105 c')
    (hc : ∀ i, (i < 2259 ∨ (2260 ≤ i ∧ i < 2380) ∨ i = 2404 ∨ i = 2405 ∨ 2435 ≤ i) → c' i = c i) (hr : c' 2259 = .slice none 0 0) (ho : AAt c' 2380 og) (hol : og < 2 ^ 160) (hp : WAt c' 2400 pr) (hpl : pr < P256)
    (ha : c' 2406 = .int .u8 (ap : Nat)) (hal : ap < 256) (hl : c' 2407 = .int .u64 (lm : Nat)) (hll : lm < 18446744073709551616) (hmd : AAt c' 2415 md) (hml : md < 2 ^ 160) (hor : ∀ a k, (V.sl a k).orig = st.now.slot a k) :
    MRep own w' g c' V { st with orig := st.now.slot, frames := [], ret := [], applied := ap, limit := lm, txGas := tg, price := pr, origin := og, made := md } [] stale ∧ MStep own w own w' := by
  have K : Keep own own g 7 w w' := ⟨fun _ _ => rfl, hm.sub (fun x hx => Or.inl hx), h.v.tag, by decide⟩
  have hmm := h.m.mem
  have htop := h.m.top
  rw [hst] at hmm htop
  refine ⟨⟨h.v.low7 K (fun b hb => h.v.fresh b (Nat.le_trans hm.size hb)) hB (fun i hi => hc i (by omega)), ⟨(hc 0 (by omega)).trans h.m.ptr, ⟨(hc _ (by omega)).trans hmm.top, (hc _ (by omega)).trans hmm.base, ?_, hmm.few, hmm.size, hmm.stl⟩, trivial, (hc _ (by omega)).trans htop, (by rw [hr]; exact NL.nil), h.m.env.same (fun j h1 h2 => hc j (by omega)) (fun v l k => K.wl k), ho, hol, hp, hpl, (hc _ (by omega)).trans h.m.phase, h.m.hLt, (hc _ (by omega)).trans h.m.status, h.m.sLt, ha, hal, hl, hll, hmd, hml, fun _ q => (hc _ (by omega)).trans (h.m.left hst q), h.m.fLt⟩, h.abs, h.jok, hor, (fun s q => by cases q), List.Pairwise.nil, (fun i q => by simp at q), (hc _ (by omega)).trans h.built⟩, MStep.ofG h.v.tag hm⟩
  rw [hc 1 (by omega)]
  exact (Keep.here h.v hm).row hmm.buf (fun _ _ _ q => q) (by decide) (by decide)
/-- What the opening does with the world, one by one. -/
theorem ASt.opened_eq (st : ASt) (tx : ATx) (t : Nat) : st.opened tx t = ((((((((st.now.setNonce tx.from_ (tx.nonce + 1)).setBal tx.from_ (st.now.bal tx.from_ - tx.gas * st.priceOf tx)).warm tx.from_).warm st.env.coinbase).warm t).warm 4).warm 5).warmList tx.access) := rfl
end
end Go.Proofs.YgvahwGreat
