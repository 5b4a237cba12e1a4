import Derived.Test.YgvahwGreatYZe
import Derived.Test.YgvahwGreatSz
import Derived.Test.YgvahwGreatRowsJ
import Derived.Test.YgvahwGreatRowsM
import Derived.Test.YgvahwGreatYpI
namespace Go.Proofs.YgvahwGreat
open Go.RowKit
set_option linter.unusedSimpArgs false
/-- Room by what the lists hold. -/
theorem YLim.of {W : YW} (h : W.siz ≤ 90000) (hc : ∀ a, (W.acct a).code.length ≤ 90000) (hn : ∀ a, (W.acct a).nonce < 18446744073709551616) (hb : ∀ a, (W.acct a).bal < P256) (hr : W.refund < 18446744073709551616) : YLim W :=
  have k := siz_all W
  ⟨by omega, by omega, by omega, by omega, by omega, by omega, by omega, fun a => Nat.le_trans (siz_slots W a) h, hc, hn, hb, hr⟩
theorem nv_onez {O : Nat → Prop} {w : World} {v : Value} {x : Nat} (h : NV O w v x) : v.oneCell' = true := by obtain ⟨_, ⟨_, _, rfl, _⟩, _⟩ := h; rfl
theorem nl_onez {O : Nat → Prop} {w : World} {v : Value} {l : List Nat} (h : NL O w v l) : v.oneCell' = true := by obtain ⟨_, _, rfl, _⟩ := h; rfl
theorem grow_onez {α : Type} {ty : TypeId} {sz : Nat} {R : (Nat → Value) → Nat → α → Prop} {T : Nat → Prop} {w : World} {v : Value} {l : List α} (h : GRow ty sz R T w v l) : v.oneCell' = true := by
  obtain ⟨_, _, hv, _⟩ := GRow.slice h
  rw [hv]; rfl
theorem nums_onez {O : Nat → Prop} {w : World} {v : Value} {l : List Nat} (h : NumS O w v l) : v.oneCell' = true := by obtain ⟨_, _, rfl, _⟩ := h; rfl
theorem aat_onez {c : Nat → Value} {o a : Nat} (h : AAt c o a) (ha : a < 2 ^ 160) (q : Nat) (hq : q < 20) : (c (o + q)).oneCell' = true := by
  have hs := av_size ha
  rw [h q _ (get_cf (r := av a) (by rw [hs]; exact hq))]
  exact Ones.get (av_one _) (by rw [hs]; exact hq)
/-- A frame's cells are one cell each. -/
theorem YFr.ones {O : Nat → Prop} {w : World} {d : Nat → Value} {q : Nat} {x : YFrm} (h : YFr O w d q x) : Ones (rowOf d q 60) := by
  refine ones_of (fun j hj => ?_)
  rw [rowOf_size] at hj
  rw [cf_rowOf _ _ _ hj]
  rcases Nat.lt_or_ge j 12 with h1 | h1
  · have e : j = 0 ∨ j = 1 ∨ j = 2 ∨ j = 3 ∨ j = 4 ∨ j = 5 ∨ j = 6 ∨ j = 7 ∨ j = 8 ∨ j = 9 ∨ j = 10 ∨ j = 11 := by omega
    rcases e with rfl | rfl | rfl | rfl | rfl | rfl | rfl | rfl | rfl | rfl | rfl | rfl
    · rw [Nat.add_zero, h.fc.kind]; rfl
    · rw [h.fc.pre]; rfl
    · rw [h.fc.static]; rfl
    · exact nv_onez h.fc.pc
    · exact nv_onez h.fc.gas
    · exact nv_onez h.fc.value
    · exact nv_onez h.fc.outOff
    · exact nv_onez h.fc.outLen
    · exact nums_onez h.fc.stack
    · exact grow_onez h.fc.mem
    · exact nl_onez h.fc.code
    · exact nl_onez h.fc.input
  rcases Nat.lt_or_ge j 32 with h2 | h2
  · have := aat_onez h.fc.self h.ok.self (j - 12) (by omega)
    rwa [show q + 12 + (j - 12) = q + j by omega] at this
  rcases Nat.lt_or_ge j 52 with h3 | h3
  · have := aat_onez h.fc.caller h.ok.caller (j - 32) (by omega)
    rwa [show q + 32 + (j - 32) = q + j by omega] at this
  have e : j = 52 ∨ j = 53 ∨ j = 54 ∨ j = 55 ∨ j = 56 ∨ j = 57 ∨ j = 58 ∨ j = 59 := by omega
  rcases e with rfl | rfl | rfl | rfl | rfl | rfl | rfl | rfl
  · exact grow_onez h.sc.accts
  · exact grow_onez h.sc.warmA
  · exact grow_onez h.sc.warmS
  · exact nv_onez h.sc.refund
  · exact grow_onez h.slg
  · exact grow_onez h.sc.temps
  · exact grow_onez h.sc.made
  · exact grow_onez h.sc.gone
section
variable {O TL : Nat → Prop} {w : World} {Y F n : Nat} {c d : Nat → Value} {W : YW} {start : List (Nat × Nat × Nat)} {st : ASt} {tot : Nat} {L : List YFrm}
/-- put of an account. -/
theorem zPut (h : YZ O TL w Y F n c d W start st tot L) (x : YA) (v : Value) (hx : AcV O w v x) (hl : YLim (W.put x)) (hwf : (W.put x).WF) {A : AW} (hA : (W.put x).abs = A) : Calls Hvah.prog 136 #[.pointer (some ⟨Y, 0, none⟩), v] w fun e w' => ∃ c', e = .returned (.tuple #[]) ∧ YZ O TL w' Y F n c' d (W.put x) start { st with now := A } tot L ∧ Mod (· = Y) w w' := by
  refine (yPut h.bY (by decide) h.small h.oY W.accts h.wc.accts x v hx (Nat.le_trans h.lim.accts (by decide))).mono ?_
  rintro e w1 ⟨v', rfl, hB, hL, m⟩
  have k := h.wc.keep m h.hsY
  exact ⟨_, rfl, h.updY (W' := W.put x) (j := 0) (by decide) (by decide) m hB ⟨by rw [updv_same]; exact hL, by rw [show 0 + 1 = 1 from rfl]; rw [updv_ne _ _ (by decide)]; exact k.warmA, by rw [show 0 + 2 = 2 from rfl]; rw [updv_ne _ _ (by decide)]; exact k.warmS, by rw [show 0 + 3 = 3 from rfl]; rw [updv_ne _ _ (by decide)]; exact k.refund, by rw [show 0 + 5 = 5 from rfl]; rw [updv_ne _ _ (by decide)]; exact k.temps, by rw [show 0 + 6 = 6 from rfl]; rw [updv_ne _ _ (by decide)]; exact k.made, by rw [show 0 + 7 = 7 from rfl]; rw [updv_ne _ _ (by decide)]; exact k.gone⟩ rfl hl hwf hA, m⟩
end
end Go.Proofs.YgvahwGreat
