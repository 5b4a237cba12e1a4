import Derived.Test.YgvahwGreatYF
import Derived.Test.YgvahwGreatYpO
namespace Go.Proofs.YgvahwGreat
open Go.RowKit
set_option linter.unusedSimpArgs false
theorem ByC.lay {w : World} {T : Nat → Prop} {M cap at_ : Nat} {l bs : List Nat} (h : GRow 5 1 ByC T w (.slice (some ⟨M, 0, none⟩) l.length cap) l) (hd : Digits bs) (hf : at_ + bs.length ≤ l.length) (hl : l ≠ []) :
    GRow 5 1 ByC T (w.setCells M at_ (bcells bs)) (.slice (some ⟨M, 0, none⟩) l.length cap) (l.take at_ ++ bs ++ l.drop (at_ + bs.length)) ∧ T M ∧ w.there M at_ bs.length ∧ M < w.heap.size := by
  rcases h with ⟨h1, _⟩ | ⟨b, cap2, c, h1, h2, h3, h4, h5, h6⟩
  · exact absurd h1 hl
  injection h1 with e1 e2 e3
  injection e1 with e1
  injection e1 with e1 _
  subst e1
  subst e3
  have hlen : (l.take at_ ++ bs ++ l.drop (at_ + bs.length)).length = l.length := by simp; omega
  have hB := setCells_blk (bcells bs) at_ w c h4 (by rw [bcells_length]; omega)
  refine ⟨Or.inr ⟨M, cap, _, by rw [hlen], by rw [hlen]; exact h2, h3, hB, h5, fun i hi => ?_⟩, h5, fun j hj => ⟨by rw [h4.cell (by omega)]; rfl, h4.fz _⟩, h4.lt⟩
  rw [hlen] at hi
  have h6i := h6 i hi
  unfold ByC at h6i ⊢
  rw [Nat.mul_one] at h6i ⊢
  by_cases h1 : at_ ≤ i
  · by_cases h2' : i < at_ + bs.length
    · have e : (l.take at_ ++ bs ++ l.drop (at_ + bs.length))[i] = bs[i - at_] := by
        rw [List.getElem_append_left (by simp; omega), List.getElem_append_right (by simp; omega)]
        congr 1; simp; omega
      rw [e]
      refine ⟨?_, hd _ (List.getElem_mem _)⟩
      show (if at_ ≤ i then _ else _) = _
      rw [if_pos h1]
      simp [bcells, List.getD, show i - at_ < bs.length by omega]
    · have e : (l.take at_ ++ bs ++ l.drop (at_ + bs.length))[i] = l[i] := by
        rw [List.getElem_append_right (by simp; omega), List.getElem_drop]
        congr 1; simp; omega
      rw [e]
      refine ⟨?_, h6i.2⟩
      show (if at_ ≤ i then _ else _) = _
      rw [if_pos h1, List.getD_eq_getElem?_getD, List.getElem?_eq_none (by rw [bcells_length]; omega)]
      exact h6i.1
  · have e : (l.take at_ ++ bs ++ l.drop (at_ + bs.length))[i] = l[i] := by
      rw [List.getElem_append_left (by simp; omega), List.getElem_append_left (by simp; omega), List.getElem_take]
    rw [e]
    refine ⟨?_, h6i.2⟩
    show (if at_ ≤ i then _ else _) = _
    rw [if_neg h1]
    exact h6i.1
section
variable {kk : Nat → Value} {O TM TL : Nat → Prop} {w w' : World} {Y F q n : Nat} {tF : TypeId} {c d : Nat → Value} {W : YW} {start : List (Nat × Nat × Nat)} {st : ASt} {f : AFrame}
/-- The memory is written. -/
theorem YX.keepM (h : YX kk O TM TL w Y F q n tF c d W start st f) (m : Mod TM w w') {l : List Nat} (hm : GRow 5 1 ByC TM w' (d (q + 9)) l) (hok : FOK { f with mem := l }) : YX kk O TM TL w' Y F q n tF c d W start st { f with mem := l } := by
  have hs : ∀ b, ¬ O b → ¬ TM b := fun b hb e => hb (h.tm b e).1
  have hc := h.fc
  exact ⟨h.bY.mod m (fun e => (h.tm _ e).2.1 rfl), h.bF.mod m (fun e => (h.tm _ e).2.2 rfl), h.hq, h.wc.keep m hs, h.lim, TmpL.keep h.st8 m hs, h.sl,
    ⟨hc.kind, hc.pre, hc.static, hc.pc.keep m hs, hc.gas.keep m hs, hc.value.keep m hs, hc.outOff.keep m hs, hc.outLen.keep m hs, NumS.keep hc.stack m hs, hm, hc.code.keep m hs, hc.input.keep m hs, hc.self, hc.caller, hc.mcap⟩,
    hok, h.small.mod m, h.ret.keep m hs, h.env.keep m hs, h.price.keep m hs, h.pLt, h.origin, h.oLt, h.now, h.orig, h.oY, h.oF, h.ne, h.hi, h.tm, h.tl,
    h.lg.imp (fun k => LogL.keep k m hs (fun b hb => (h.tl b hb).2.2.2)) (fun k => ⟨LogL.keep k.1 m hs (fun b hb => hs b hb), k.2⟩)⟩
end
section
variable {kk : Nat → Value} {O TM TL : Nat → Prop} {w : World} {Y F q n : Nat} {tF : TypeId} {c d : Nat → Value} {W : YW} {start : List (Nat × Nat × Nat)} {st : ASt} {f : AFrame}
set_option maxRecDepth 100000 in
set_option maxHeartbeats 6400000 in
theorem xWrite (hX : YX kk O TM TL w Y F q n tF c d W start st f) {O' : Nat → Prop} (off : Nat) (bs : List Nat) {vo vs : Value} (hvo : NV O w vo off) (hvs : NL O' w vs bs) (hok' : FOK { f with mem := writeA f.mem off bs }) : Calls Hvah.prog 151 #[.pointer (some ⟨F, q, none⟩), vo, vs] w fun e w' => e = .returned (.tuple #[]) ∧ YX kk O TM TL w' Y F q n tF c d W start st { f with mem := writeA f.mem off bs } ∧ Mod TM w w' := by
  have hq := hX.hq
  have hml := hX.ok.mLen
  have hmi : (f.mem.length : Int) ≤ 717280 := by omega
  obtain ⟨om, cm, hmd, _⟩ := GRow.slice hX.fc.mem
  have hmem := hX.fc.mem
  have HP := yPlace hvo f.mem.length (by omega)
  have k9 := hX.bF.cell (i := q + 9) (by omega)
  obtain ⟨ob, cb, hbv, hb1, hb2, hb3⟩ := hvs
  have hbi : (bs.length : Int) ≤ 140737488355328 := by omega
  rw [hmd] at k9 hmem
  subst hbv
  by_cases hlt : off < f.mem.length
  · rw [if_pos hlt, decide_eq_true hlt] at HP
    have hne : f.mem ≠ [] := fun e => by rw [e] at hlt; cases hlt
    obtain ⟨M, cap, hom, hcp⟩ : ∃ M cap, om = some ⟨M, 0, none⟩ ∧ f.mem.length ≤ cm := by
      rcases hmem with ⟨h1, _⟩ | ⟨b, cap, cc, h1, h2, _⟩
      · exact absurd h1 hne
      · injection h1 with e1 _ e3
        exact ⟨b, 0, e1, by rw [e3]; exact h2⟩
    subst hom
    have hci : (f.mem.length : Int) ≤ cm := by omega
    have hoi : (off : Int) < f.mem.length := by omega
    have hwa : writeA f.mem off bs = f.mem.take off ++ bs.take (f.mem.length - off) ++ f.mem.drop (off + (bs.take (f.mem.length - off)).length) := by
      unfold writeA
      rw [if_pos hlt]
      congr 1
      rw [List.length_take]
      by_cases h : bs.length ≤ f.mem.length - off
      · rw [Nat.min_eq_right h]
      · rw [Nat.min_eq_left (by omega), List.drop_of_length_le (by omega), List.drop_of_length_le (by omega)]
    have hdig : Digits (bs.take (f.mem.length - off)) := fun x hx => hb3.lt x (List.mem_of_mem_take hx)
    obtain ⟨q1, q2, q3, q4⟩ := ByC.lay (at_ := off) (bs := bs.take (f.mem.length - off)) hmem hdig (by rw [List.length_take]; omega) hne
    rw [← hwa] at q1
    have hlk : (bs.take (f.mem.length - off)).length = min bs.length (f.mem.length - off) := by rw [List.length_take, Nat.min_comm]
    have hmod : Mod TM w (w.setCells M off (bcells (bs.take (f.mem.length - off)))) := setCells_mod (Or.inl q2) _ _ _ (Mod.refl _ _)
    rw [← hmd] at q1
    have hfin := hX.keepM hmod q1 hok'
    by_cases hb0 : bs = []
    · subst hb0
      have hz : Hid ((bcells (([] : List Nat).take (f.mem.length - off))) = []) := by simp [Hid, bcells]
      rw [hz.out] at hfin hmod
      go_enter Hvah.func151, Hvah.ntmps151
      go_wp2_with (first | (go_at_call 145; refine HP.mono ?_; rintro e w1 ⟨rfl, hww⟩; replace hww := hww.symm; subst hww) | ((with_reducible (refine Veil.out ?_; apply wl_copy0 Hvah.underlying23)); (case hd => rfl); (case hs => rfl); (case hl => simp)))
      go_end0
      exact ⟨rfl, hfin, hmod⟩
    · obtain ⟨sb, sof, rfl, _, hsb, hcell⟩ := hb3.spot hb0
      have hsrc : ∀ j v, (bcells (bs.take (f.mem.length - off)))[j]? = some v → w.cell? ((⟨sb, sof, none⟩ : Addr).add j) = some v := fun j v hv => by
        simp only [bcells, List.getElem?_map, Option.map_eq_some_iff] at hv
        obtain ⟨x, hx, rfl⟩ := hv
        rw [List.getElem?_take] at hx
        split at hx
        · obtain ⟨hi, rfl⟩ := List.getElem?_eq_some_iff.1 hx
          rw [add_cell]
          exact hcell _ hi
        · cases hx
      generalize bs.take (f.mem.length - off) = D at *
      clear hcell
      go_enter Hvah.func151, Hvah.ntmps151
      go_wp2_with (first | (go_at_call 145; refine HP.mono ?_; rintro e w1 ⟨rfl, hww⟩; replace hww := hww.symm; subst hww) | ((with_reducible (refine Veil.out ?_; apply wl_copyC Hvah.underlying23 (l := D))); (case hd => rfl); (case hs => rfl); (case hl => exact hlk); (case hsrc => exact hsrc); (case hth => exact q3)))
      go_end0
      exact ⟨rfl, hfin, hmod⟩
  · rw [if_neg hlt, decide_eq_false hlt] at HP
    have hwa : writeA f.mem off bs = f.mem := by unfold writeA; rw [if_neg hlt]
    rw [hwa] at hok' ⊢
    have hfin := hX.keepM (Mod.refl TM w) hX.fc.mem hok'
    go_enter Hvah.func151, Hvah.ntmps151
    go_wp2_with (first | (go_at_call 145; refine HP.mono ?_; rintro e w1 ⟨rfl, hww⟩; replace hww := hww.symm; subst hww))
    go_end0
    exact ⟨rfl, hfin, Mod.refl _ _⟩
end
end Go.Proofs.YgvahwGreat
