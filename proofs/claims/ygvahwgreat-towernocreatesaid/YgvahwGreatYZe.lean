import Derived.Test.YgvahwGreatYZd
import Derived.Test.YgvahwGreatYpQ
namespace Go.Proofs.YgvahwGreat
open Go.RowKit
set_option linter.unusedSimpArgs false
section
variable {O TL : Nat → Prop} {w w' : World} {Y F n : Nat} {c d : Nat → Value} {W W' : YW} {start : List (Nat × Nat × Nat)} {st : ASt} {tot : Nat} {L : List YFrm}
/-- A new block that will be written. -/
theorem YZ.wd {B : Nat} (h : YZ O TL w Y F n c d W start st tot L) (e : Ext w w') (hB : B < w'.heap.size) (hg : w.heap.size ≤ B) : YZ (Wd O B) TL w' Y F n c d W start st tot L := by
  have hr : ∀ b, b < w.heap.size → Wd O B b → O b := fun b hb q => by
    rcases q with q | q
    · exact q
    · omega
  have hnl : ∀ {v : Value} {l : List Nat}, NL O w v l → NL (Wd O B) w' v l := fun k => (k.reo hr).ext e
  have hnv : ∀ {v : Value} {y : Nat}, NV O w v y → NV (Wd O B) w' v y := fun k => (k.reo hr).ext e
  exact
  { bY := h.bY.ext e
    wc := (h.wc.reo hr).ext e
    lim := h.lim
    wf := h.wf
    st8 := TmpL.ext (GRow.reo h.st8 hr (fun _ _ _ k => ⟨k.addr, k.aLt, k.key.reo hr, k.val.reo hr⟩)) e
    sl := h.sl
    fv := h.fv.ext e
    few := h.few
    small := fun b hb => by
      rcases hb with hb | hb
      · exact Nat.lt_of_lt_of_le (h.small b hb) (e.mod (fun _ => False)).size
      · rw [hb]; exact hB
    ret := hnl h.ret
    phase := h.phase
    hLt := h.hLt
    status := h.status
    applied := h.applied
    limit := hnv h.limit
    left := fun q => hnv (h.left q)
    price := hnv h.price
    pLt := h.pLt
    total := hnv h.total
    tg := hnv h.tg
    origin := h.origin
    oLt := h.oLt
    made := h.made
    mLt := h.mLt
    env := (h.env.reo hr).ext e
    now := h.now
    orig := h.orig
    oY := Or.inl h.oY
    oF := Or.inl h.oF
    ne := h.ne
    frs := h.frs
    fl := YFL.ext e (YFL.reo hr h.fl)
    tm := fun y hy b hb => ⟨Or.inl (h.tm y hy b hb).1, (h.tm y hy b hb).2.1, (h.tm y hy b hb).2.2.1, (h.tm y hy b hb).2.2.2⟩
    td := h.td
    tl := fun b hb => ⟨Or.inl (h.tl b hb).1, (h.tl b hb).2.1, (h.tl b hb).2.2⟩
    lg := h.lg.imp (fun k => GRow.ext (k.mono (fun _ _ _ k => k.reo hr) (fun _ _ k => k) (fun _ _ _ _ k _ => k)) e (fun _ _ _ k => k.ext e)) (fun k => ⟨GRow.ext (GRow.reo k.1 hr (fun _ _ _ k => k.reo hr)) e (fun _ _ _ k => k.ext e), k.2⟩) }
/-- Blocks beside the state change. -/
theorem YZ.keepS {S : Nat → Prop} (h : YZ O TL w Y F n c d W start st tot L) (m : Mod S w w') (hs : ∀ b, ¬ O b → ¬ S b) (hY : ¬ S Y) (hF : ¬ S F) (ht : ∀ x ∈ L, ∀ b, x.TM b → ¬ S b) (htl : ∀ b, TL b → ¬ S b) : YZ O TL w' Y F n c d W start st tot L :=
  { bY := h.bY.mod m hY
    wc := h.wc.keep m hs
    lim := h.lim
    wf := h.wf
    st8 := TmpL.keep h.st8 m hs
    sl := h.sl
    fv := h.fv.mod m hF
    few := h.few
    small := fun b hb => Nat.lt_of_lt_of_le (h.small b hb) m.size
    ret := h.ret.keep m hs
    phase := h.phase
    hLt := h.hLt
    status := h.status
    applied := h.applied
    limit := h.limit.keep m hs
    left := fun q => (h.left q).keep m hs
    price := h.price.keep m hs
    pLt := h.pLt
    total := h.total.keep m hs
    tg := h.tg.keep m hs
    origin := h.origin
    oLt := h.oLt
    made := h.made
    mLt := h.mLt
    env := h.env.same (fun _ _ _ => rfl) (fun _ _ q => q.keep m hs)
    now := h.now
    orig := h.orig
    oY := h.oY
    oF := h.oF
    ne := h.ne
    frs := h.frs
    fl := YFL.keep m hs h.fl ht
    tm := h.tm
    td := h.td
    tl := h.tl
    lg := h.lg.imp (fun k => LogL.keep k m hs htl) (fun k => ⟨LogL.keep k.1 m hs hs, k.2⟩) }
/-- The whole of move. -/
theorem zMove (h : YZ O TL w Y F n c d W start st tot L) (a b : Nat) (ha : a < 2 ^ 160) (hb : b < 2 ^ 160) (kv : Value) (k : Nat) (hkv : NV O w kv k) (hk : k < P256) (hl1 : YLim (W.setBal a ((W.acct a).bal - k))) (hl : YLim (W.move a b k)) : Calls Hvah.prog 142 #[.pointer (some ⟨Y, 0, none⟩), .agg (av a), .agg (av b), kv] w fun e w' => ∃ c', e = .returned (.tuple #[]) ∧ YZ O TL w' Y F n c' d (W.move a b k) start { st with now := st.now.move a b k } tot L ∧ Mod (· = Y) w w' := by
  by_cases hz : k = 0 ∨ (W.acct a).bal < k
  · refine (yMove0 h.bY (by decide) h.small W.accts h.wc.accts a b ha hb kv k hkv h.lim.accts hz).mono ?_
    rintro e w1 ⟨rfl, hE⟩
    have e1 : W.move a b k = W := by unfold YW.move; first | rw [if_pos hz] | (rw [if_pos]; exact hz) | (simp only []; split <;> first | rfl | (exfalso; omega))
    have e2 : st.now.move a b k = st.now := by rw [h.now, ← YW.move_abs, e1]
    rw [e1, e2]
    exact ⟨c, rfl, h.ext hE, hE.mod _⟩
  · have hz1 : k ≠ 0 := fun q => hz (Or.inl q)
    have hz2 : k ≤ (W.acct a).bal := Nat.le_of_not_lt (fun q => hz (Or.inr q))
    refine (yMove h.bY (by decide) h.small h.oY W.accts h.wc.accts a b ha hb kv k hkv h.lim.accts hz1 hz2 (Nat.le_trans hl1.accts (by decide)) (Nat.le_trans (dl_P256 (hl1.bal b)) (by decide)) (Nat.le_trans (dl_P256 hk) (by decide))).mono ?_
    rintro e w1 ⟨v', rfl, hB, hL, m⟩
    have kk := h.wc.keep m h.hsY
    have e1 : W.move a b k = (W.setBal a ((W.acct a).bal - k)).setBal b (((W.setBal a ((W.acct a).bal - k)).acct b).bal + k) := by unfold YW.move; first | rw [if_neg hz] | (simp only []; split <;> first | rfl | (exfalso; omega))
    rw [show st.now.move a b k = (W.move a b k).abs from by rw [h.now, YW.move_abs]]
    exact ⟨_, rfl, h.updY (W' := W.move a b k) (j := 0) (by decide) (by decide) m hB ⟨by rw [updv_same, e1]; exact hL, by rw [e1]; rw [show 0 + 1 = 1 from rfl]; rw [updv_ne _ _ (by decide)]; exact kk.warmA, by rw [e1]; rw [show 0 + 2 = 2 from rfl]; rw [updv_ne _ _ (by decide)]; exact kk.warmS, by rw [e1]; rw [show 0 + 3 = 3 from rfl]; rw [updv_ne _ _ (by decide)]; exact kk.refund, by rw [e1]; rw [show 0 + 5 = 5 from rfl]; rw [updv_ne _ _ (by decide)]; exact kk.temps, by rw [e1]; rw [show 0 + 6 = 6 from rfl]; rw [updv_ne _ _ (by decide)]; exact kk.made, by rw [e1]; rw [show 0 + 7 = 7 from rfl]; rw [updv_ne _ _ (by decide)]; exact kk.gone⟩ (by rw [e1]; rfl) hl (YW.move_wf h.wf a b k ha hb) rfl, m⟩
end
end Go.Proofs.YgvahwGreat
