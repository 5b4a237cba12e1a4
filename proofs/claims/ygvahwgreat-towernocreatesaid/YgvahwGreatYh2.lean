import Derived.Test.YgvahwGreatYh1
import Derived.Test.YgvahwGreatEndV
import Derived.Test.YgvahwGreatEx0
import Derived.Test.YgvahwGreatRw0
import Derived.Test.YgvahwGreatNz1
namespace Go.Proofs.YgvahwGreat
open Go.RowKit
set_option linter.unusedVariables false
/-- The specification's world behind payment. -/
def payW (W : YW) (st : ASt) : YW := (W.setBal st.origin ((W.acct st.origin).bal + (st.limit - st.used) * st.price)).setBal st.env.coinbase (((W.setBal st.origin ((W.acct st.origin).bal + (st.limit - st.used) * st.price)).acct st.env.coinbase).bal + (st.used * (st.price - st.env.baseFee)))
theorem payW_abs {W : YW} {st : ASt} (h : st.now = W.abs) : (payW W st).abs = st.paid := by
  unfold payW ASt.paid
  rw [YW.setBal_abs, YW.setBal_abs, h]
  have e : ((W.setBal st.origin ((W.acct st.origin).bal + (st.limit - st.used) * st.price)).acct st.env.coinbase).bal = (W.abs.setBal st.origin ((W.acct st.origin).bal + (st.limit - st.used) * st.price)).bal st.env.coinbase := by rw [← YW.setBal_abs]; rfl
  rw [e]
  rfl
theorem WInv.setUp {T S d : Nat} {og : Nat → Nat → Nat} {w : AW} (h : WInv T S og w) (a : Nat) : WInv (T + d) S og (w.setBal a (w.bal a + d)) := ⟨h.code, h.nonce, h.sum.up a, h.ref, h.clr, h.few⟩
theorem goesL_siz (l : List Nat) : ∀ W : YW, (W.goesL l).siz ≤ W.siz + l.length := by
  induction l with
  | nil => intro W; exact Nat.le_refl _
  | cons a l ih =>
    intro W
    have h1 := ih (W.put ⟨a, 0, (W.acct a).bal, [], []⟩)
    have h2 := (siz_putA W ⟨a, 0, (W.acct a).bal, [], []⟩ a 0 rfl (Nat.zero_le _)).1
    show ((W.put ⟨a, 0, (W.acct a).bal, [], []⟩).goesL l).siz ≤ _
    rw [List.length_cons]
    omega
theorem goesL_lim {W : YW} {l : List Nat} (hs : W.siz + l.length ≤ 90000) (h : YLim W) (hr : (W.goesL l).refund = W.refund) : YLim (W.goesL l) := by
  refine YLim.of (Nat.le_trans (goesL_siz l W) hs) (fun a => ?_) (fun a => ?_) (fun a => ?_) (by rw [hr]; exact h.refund)
  · rw [YW.goesL_acct]; split
    · exact Nat.zero_le _
    · exact h.code a
  · rw [YW.goesL_acct]; split
    · exact (by decide : (0 : Nat) < 18446744073709551616)
    · exact h.nonce a
  · rw [YW.goesL_acct]; split
    · exact h.bal a
    · exact h.bal a
theorem goesL_refund (l : List Nat) : ∀ W : YW, (W.goesL l).refund = W.refund := by
  induction l with
  | nil => intro W; rfl
  | cons a l ih => intro W; exact (ih (W.put ⟨a, 0, (W.acct a).bal, [], []⟩)).trans rfl
section
variable {w : World} {Y tot : Nat} {stE : ASt} {P : Nat → Prop}
/-- The specification behind a transaction. -/
def YR (Y : Nat) (stE : ASt) (P : Nat → Prop) (q : Array Value) (w : World) : Prop :=
  Ones q ∧ ∃ c L, Blk w Y 179 118 c ∧ AccL P w (c 0) L ∧ RecC P w (cf q) stE.receipt ∧ Small P w ∧ P Y ∧ L.length ≤ 90000 ∧ (∀ x ∈ L, x.nonce < 18446744073709551616 ∧ x.bal < P256 ∧ x.slots.length ≤ 90000 ∧ ∀ s ∈ x.slots, s.1 < P256 ∧ s.2 < P256) ∧ ExpOf stE.paid.goes (L.filter fun x => !x.empty)
theorem rise_look {α : Type} {key : α → Nat} : ∀ {l : List α} {x : α}, Rise key l → x ∈ l → look key (key x) l = some x
  | [], x, _, h => absurd h List.not_mem_nil
  | y :: l, x, hr, h => by
    obtain ⟨h1, h2⟩ := List.pairwise_cons.1 hr
    rw [look_cons]
    rcases List.mem_cons.1 h with rfl | q
    · rw [if_pos rfl]
    · have := h1 x q
      rw [if_neg (by omega)]
      exact rise_look h2 q
theorem yFinishGo {K T B : Nat} {start : List (Nat × Nat × Nat)} (hK : K ≤ 1100000) (h : ZN K T B Y start tot stE 0 P w) (hE : EndOK stE) (hV : EndV stE) : Calls Hvah.prog 31 #[.pointer (some ⟨Y, 0, none⟩)] w fun r w' => ∃ P' q, r = .returned (.agg q) ∧ q.size = 25 ∧ Ones q ∧ YR Y stE P' q w' ∧ Kept P P' w w' := by
  obtain ⟨st, ⟨TL, F, n, c, d, W, L, hz, hs, hA, hI, hP⟩, hr, he⟩ := h
  have e : st = stE := he
  subst e
  have hL : L = [] := by
    have := hz.frs
    rw [hE.frames] at this
    cases L with
    | nil => rfl
    | cons x r => simp at this
  subst hL
  have hsz : W.siz ≤ 22000 := by have := hs.now; omega
  obtain ⟨T2, hW, hT2⟩ := hE.winv
  rw [hz.now] at hW
  have hu : st.used ≤ st.limit := by unfold ASt.used; omega
  have hm1 : (st.limit - st.used) * st.price + st.used * st.price = st.limit * st.price := by rw [← Nat.add_mul]; congr 1; omega
  have hm2 : st.used * (st.price - st.env.baseFee) ≤ st.used * st.price := Nat.mul_le_mul_left _ (Nat.sub_le _ _)
  obtain ⟨d1, ed1⟩ : ∃ z, (st.limit - st.used) * st.price = z := ⟨_, rfl⟩
  obtain ⟨d2, ed2⟩ : ∃ z, st.used * (st.price - st.env.baseFee) = z := ⟨_, rfl⟩
  rw [ed1] at hm1
  rw [ed2] at hm2
  obtain ⟨W1, eW1⟩ : ∃ z, W.setBal st.origin ((W.acct st.origin).bal + d1) = z := ⟨_, rfl⟩
  obtain ⟨W2, eW2⟩ : ∃ z, W1.setBal st.env.coinbase ((W1.acct st.env.coinbase).bal + d2) = z := ⟨_, rfl⟩
  have hW1 : WInv (T2 + d1) 1048576 st.orig W1.abs := by
    rw [← eW1, YW.setBal_abs]
    exact WInv.setUp hW st.origin
  have hW2 : WInv (T2 + d1 + d2) 1048576 st.orig W2.abs := by
    rw [← eW2, YW.setBal_abs]
    exact WInv.setUp hW1 st.env.coinbase
  have hs1 : W1.siz ≤ 22001 := by rw [← eW1]; exact Nat.le_trans (siz_setBal W _ _).1 (by omega)
  have hs2 : W2.siz ≤ 22002 := by rw [← eW2]; exact Nat.le_trans (siz_setBal W1 _ _).1 (by omega)
  have hl1 : YLim W1 := YLim.inv (by omega) hW1 (by omega) (by decide)
  have hl2 : YLim W2 := YLim.inv (by omega) hW2 (by omega) (by decide)
  have hgl : W.gone.length ≤ 22000 := Nat.le_trans (siz_all W).2.2.2.2.2.2.1 hsz
  have hlim : ∀ i, i ≤ W.gone.length → YLim (W2.goesL (W.gone.take i)) := fun i hi => goesL_lim (by rw [List.length_take]; omega) hl2 (goesL_refund _ _)
  have hga : ∀ a ∈ W.gone, a < 2 ^ 160 := fun a ha => hV.gone a (by rw [hz.now]; exact decide_eq_true ha)
  have hgone : W2.gone = W.gone := by rw [← eW2, ← eW1]; rfl
  have hwf1 : W1.WF := by rw [← eW1]; exact W.setBal_wf hz.wf _ _ hz.oLt
  have hwf2 : W2.WF := by rw [← eW2]; exact W1.setBal_wf hwf1 _ _ hz.env.cLt
  have hwf3 : (W2.goesL W.gone).WF := YW.goesL_wf _ _ hwf2 hga
  have hl3 : YLim (W2.goesL W.gone) := by have := hlim W.gone.length (Nat.le_refl _); rwa [List.take_length] at this
  have habs : W2.abs = st.paid := by
    have := payW_abs hz.now
    unfold payW at this
    rw [ed1, ed2, eW1, eW2] at this
    exact this
  have hexp : ExpOf st.paid.goes (W2.goesL W.gone).shown := by
    have q1 := goesL_same W2
    rw [hgone, habs] at q1
    exact (YW.shown_exp hwf3).same ⟨q1.nonce.symm, q1.bal.symm, q1.code.symm, q1.slot.symm⟩
  have hslot : ∀ a k, ((W2.goesL W.gone).acct a).load k < P256 := fun a k => by
    rw [YW.goesL_acct]
    split
    · show (0 : Nat) < P256
      rw [P256_eq]; decide
    · have q : (W2.acct a).load k = st.now.slot a k := by
        show W2.abs.slot a k = _
        rw [habs]; rfl
      rw [q]; exact hV.slot a k
  have hall : ∀ x ∈ (W2.goesL W.gone).accts, x.nonce < 18446744073709551616 ∧ x.bal < P256 ∧ x.slots.length ≤ 90000 ∧ ∀ s ∈ x.slots, s.1 < P256 ∧ s.2 < P256 := fun x hx => by
    have ex : (W2.goesL W.gone).acct x.addr = x := by
      unfold YW.acct
      rw [rise_look hwf3.accts hx]; rfl
    have q1 := hl3.nonce x.addr
    have q2 := hl3.bal x.addr
    have q3 := hl3.slots x.addr
    rw [ex] at q1 q2 q3
    obtain ⟨k1, k2⟩ := hwf3.slots x hx
    refine ⟨q1, q2, q3, fun s hs => ⟨?_, ?_⟩⟩
    · have := (k2 s hs).1
      rwa [show Pk = P256 from by unfold Pk; rw [P256_eq]] at this
    · have := hslot x.addr s.1
      rw [ex] at this
      unfold YA.load at this
      rw [rise_look (key := Prod.fst) k1 hs] at this
      exact this
  refine (yFinish hz hE.ph hE.lim (by rw [ed1, eW1]; exact hl1) (by rw [ed1, ed2, eW1, eW2]; exact hl2) (fun a b c => yLogsOf a b c) (by rw [ed1, ed2, eW1, eW2]; exact hlim) hga).mono ?_
  rintro r w' ⟨q, O', rfl, hq1, hq2, hrec, ⟨c', hB, hacc⟩, hO, hm⟩
  rw [ed1, ed2, eW1, eW2] at hacc
  have hYO : O' Y := (hO Y hz.bY.lt).2 hz.oY
  have hsz2 : ∀ b, b < w.heap.size → b < w'.heap.size := fun b hb => Nat.lt_of_lt_of_le hb hm.size
  refine ⟨fun b => O' b ∧ b < w'.heap.size, q, rfl, hq1, hq2, ⟨hq2, c', _, hB, GRow.mono hacc (fun _ _ _ k => k.reon (fun b _ q => q.1)) (fun b _ q k => q k.1) (fun _ _ _ _ k _ => k), hrec.reoW (fun b _ q => q.1), fun b hb => hb.2, ⟨hYO, hB.lt⟩, hl3.accts, hall, hexp⟩, ⟨fun b hb => ⟨fun q => (hO b hb).1 q.1, fun q => ⟨(hO b hb).2 q, hsz2 b hb⟩⟩, hm⟩⟩
end
end Go.Proofs.YgvahwGreat
