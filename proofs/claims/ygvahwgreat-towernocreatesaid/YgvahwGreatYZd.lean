import Derived.Test.YgvahwGreatYZc
namespace Go.Proofs.YgvahwGreat
open Go.RowKit
set_option linter.unusedSimpArgs false
section
variable {O TL : Nat → Prop} {w w' : World} {Y F n : Nat} {c d : Nat → Value} {W W' : YW} {start : List (Nat × Nat × Nat)} {st : ASt} {tot : Nat} {L : List YFrm}
theorem YZ.lgY {c' : Nat → Value} (h : YZ O TL w Y F n c d W start st tot L) (m : Mod (· = Y) w w') (h4 : c' 4 = c 4) : LogL TL O w' (c' 4) W.logs ∨ (LogL (fun b => ¬ O b) O w' (c' 4) W.logs ∧ Full (c' 4)) := by
  rw [h4]
  exact h.lg.imp (fun k => LogL.keep k m h.hsY (fun b hb => (h.tl b hb).2.1)) (fun k => ⟨LogL.keep k.1 m h.hsY (fun b hb => h.hsY b hb), k.2⟩)
/-- One cell of the world is written. -/
theorem YZ.updY (h : YZ O TL w Y F n c d W start st tot L) {j : Nat} {v : Value} (hj : j < 8) (hj4 : j ≠ 4) (m : Mod (· = Y) w w') (hB : Blk w' Y 179 118 (updv c j v)) (hwc : YWC O w' (updv c j v) 0 W') (hlog : W'.logs = W.logs) (hl : YLim W') (hwf : W'.WF) {A : AW} (hA : W'.abs = A) : YZ O TL w' Y F n (updv c j v) d W' start { st with now := A } tot L := by
  rw [← hA]
  exact h.keepY m hB (fun i hi => updv_ne _ _ (by omega)) hwc hl hwf (by rw [hlog]; exact h.lgY m (updv_ne _ _ (by omega)))
theorem zWarm (h : YZ O TL w Y F n c d W start st tot L) (a : Nat) (ha : a < 2 ^ 160) (hl : YLim (W.warm a)) (hwf : (W.warm a).WF) : Calls Hvah.prog 61 #[.pointer (some ⟨Y, 0, none⟩), .agg (av a)] w fun e w' => ∃ c', e = .returned (.tuple #[]) ∧ YZ O TL w' Y F n c' d (W.warm a) start { st with now := st.now.warm a } tot L ∧ Mod (· = Y) w w' := by
  refine (yWarm h.bY (by decide) h.small h.oY W.warmA h.wc.warmA a ha (Nat.le_trans h.lim.warmA (by decide))).mono ?_
  rintro e w1 ⟨v', rfl, hB, hL, m⟩
  have k := h.wc.keep m h.hsY
  exact ⟨_, rfl, h.updY (W' := W.warm a) (j := 1) (by decide) (by decide) m hB ⟨by rw [updv_ne _ _ (by decide)]; exact k.accts, by rw [show 0 + 1 = 1 from rfl]; rw [updv_same]; exact hL, by rw [show 0 + 2 = 2 from rfl]; rw [updv_ne _ _ (by decide)]; exact k.warmS, by rw [show 0 + 3 = 3 from rfl]; rw [updv_ne _ _ (by decide)]; exact k.refund, by rw [show 0 + 5 = 5 from rfl]; rw [updv_ne _ _ (by decide)]; exact k.temps, by rw [show 0 + 6 = 6 from rfl]; rw [updv_ne _ _ (by decide)]; exact k.made, by rw [show 0 + 7 = 7 from rfl]; rw [updv_ne _ _ (by decide)]; exact k.gone⟩ rfl hl hwf (by rw [YW.warm_abs, h.now]), m⟩
theorem zSetNonce (h : YZ O TL w Y F n c d W start st tot L) (a : Nat) (ha : a < 2 ^ 160) (kv : Value) (x : Nat) (hkv : NV O w kv x) (hl : YLim (W.setNonce a x)) : Calls Hvah.prog 58 #[.pointer (some ⟨Y, 0, none⟩), .agg (av a), kv] w fun e w' => ∃ c', e = .returned (.tuple #[]) ∧ YZ O TL w' Y F n c' d (W.setNonce a x) start { st with now := st.now.setNonce a x } tot L ∧ Mod (· = Y) w w' := by
  refine (ySetNonce h.bY (by decide) h.small h.oY W.accts h.wc.accts a ha kv x hkv (Nat.le_trans h.lim.accts (by decide))).mono ?_
  rintro e w1 ⟨v', rfl, hB, hL, m⟩
  have k := h.wc.keep m h.hsY
  exact ⟨_, rfl, h.updY (W' := W.setNonce a x) (j := 0) (by decide) (by decide) m hB ⟨by rw [updv_same]; exact hL, by rw [show 0 + 1 = 1 from rfl]; rw [updv_ne _ _ (by decide)]; exact k.warmA, by rw [show 0 + 2 = 2 from rfl]; rw [updv_ne _ _ (by decide)]; exact k.warmS, by rw [show 0 + 3 = 3 from rfl]; rw [updv_ne _ _ (by decide)]; exact k.refund, by rw [show 0 + 5 = 5 from rfl]; rw [updv_ne _ _ (by decide)]; exact k.temps, by rw [show 0 + 6 = 6 from rfl]; rw [updv_ne _ _ (by decide)]; exact k.made, by rw [show 0 + 7 = 7 from rfl]; rw [updv_ne _ _ (by decide)]; exact k.gone⟩ rfl hl (YW.setNonce_wf h.wf a x ha) (by rw [YW.setNonce_abs, h.now]), m⟩
theorem zSetBal (h : YZ O TL w Y F n c d W start st tot L) (a : Nat) (ha : a < 2 ^ 160) (kv : Value) (x : Nat) (hkv : NV O w kv x) (hl : YLim (W.setBal a x)) : Calls Hvah.prog 59 #[.pointer (some ⟨Y, 0, none⟩), .agg (av a), kv] w fun e w' => ∃ c', e = .returned (.tuple #[]) ∧ YZ O TL w' Y F n c' d (W.setBal a x) start { st with now := st.now.setBal a x } tot L ∧ Mod (· = Y) w w' := by
  refine (ySetBalance h.bY (by decide) h.small h.oY W.accts h.wc.accts a ha kv x hkv (Nat.le_trans h.lim.accts (by decide))).mono ?_
  rintro e w1 ⟨v', rfl, hB, hL, m⟩
  have k := h.wc.keep m h.hsY
  exact ⟨_, rfl, h.updY (W' := W.setBal a x) (j := 0) (by decide) (by decide) m hB ⟨by rw [updv_same]; exact hL, by rw [show 0 + 1 = 1 from rfl]; rw [updv_ne _ _ (by decide)]; exact k.warmA, by rw [show 0 + 2 = 2 from rfl]; rw [updv_ne _ _ (by decide)]; exact k.warmS, by rw [show 0 + 3 = 3 from rfl]; rw [updv_ne _ _ (by decide)]; exact k.refund, by rw [show 0 + 5 = 5 from rfl]; rw [updv_ne _ _ (by decide)]; exact k.temps, by rw [show 0 + 6 = 6 from rfl]; rw [updv_ne _ _ (by decide)]; exact k.made, by rw [show 0 + 7 = 7 from rfl]; rw [updv_ne _ _ (by decide)]; exact k.gone⟩ rfl hl (YW.setBal_wf h.wf a x ha) (by rw [YW.setBal_abs, h.now]), m⟩
/-- The accounts made in this transaction. -/
theorem YZ.putMade (h : YZ O TL w Y F n c d W start st tot L) (a : Nat) {v : Value} (m : Mod (· = Y) w w') (hB : Blk w' Y 179 118 (updv c 6 v)) (hL : AddrL O w' v (W.markMade a).made) (hl : YLim (W.markMade a)) (hwf : (W.markMade a).WF) : YZ O TL w' Y F n (updv c 6 v) d (W.markMade a) start { st with now := st.now.markMade a } tot L := by
  have k := h.wc.keep m h.hsY
  exact h.updY (W' := W.markMade a) (j := 6) (by decide) (by decide) m hB ⟨by rw [updv_ne _ _ (by decide)]; exact k.accts, by rw [show 0 + 1 = 1 from rfl]; rw [updv_ne _ _ (by decide)]; exact k.warmA, by rw [show 0 + 2 = 2 from rfl]; rw [updv_ne _ _ (by decide)]; exact k.warmS, by rw [show 0 + 3 = 3 from rfl]; rw [updv_ne _ _ (by decide)]; exact k.refund, by rw [show 0 + 5 = 5 from rfl]; rw [updv_ne _ _ (by decide)]; exact k.temps, by rw [show 0 + 6 = 6 from rfl]; rw [updv_same]; exact hL, by rw [show 0 + 7 = 7 from rfl]; rw [updv_ne _ _ (by decide)]; exact k.gone⟩ rfl hl hwf (by rw [YW.markMade_abs, h.now])
end
end Go.Proofs.YgvahwGreat
