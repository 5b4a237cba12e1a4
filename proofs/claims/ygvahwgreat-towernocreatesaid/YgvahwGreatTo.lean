import Derived.Test.YgvahwGreatTn
import Derived.Test.YgvahwGreatTk
namespace Go.Proofs.YgvahwGreat
open Go.RowKit
set_option linter.unusedSimpArgs false
section
variable {w' : World} {W' : YW}
variable {kk : Nat → Value} {O TM TL : Nat → Prop} {w : World} {Y F q n : Nat} {tF : TypeId} {c d : Nat → Value} {W : YW} {start : List (Nat × Nat × Nat)} {st : ASt} {f : AFrame}
/-- One cell of the world is written. -/
theorem YX.updY (h : YX kk O TM TL w Y F q n tF c d W start st f) {j : Nat} {v : Value} (hj : j < 8) (hj4 : j ≠ 4) (m : Mod (· = Y) w w') (hB : Blk w' Y 179 118 (updv c j v)) (hwc : YWC O w' (updv c j v) 0 W') (hlog : W'.logs = W.logs) (hl : YLim W') {A : AW} (hA : W'.abs = A) : YX kk O TM TL w' Y F q n tF (updv c j v) d W' start { st with now := A } f :=
  h.keepY m hB (fun i hi => updv_ne _ _ (by omega)) hwc hl (by rw [hlog]; exact h.lgY m (updv_ne _ _ (by omega))) (by rw [← hA])
theorem ws_same (W : YW) (a k : Nat) : (W.warmSlot a k).accts = W.accts ∧ (W.warmSlot a k).warmA = W.warmA ∧ (W.warmSlot a k).refund = W.refund ∧ (W.warmSlot a k).temps = W.temps ∧ (W.warmSlot a k).made = W.made ∧ (W.warmSlot a k).gone = W.gone ∧ (W.warmSlot a k).logs = W.logs ∧ (W.warmSlot a k).warmS = (if (a, k) ∈ W.warmS then W.warmS else insG mkS (a, k) false W.warmS) := by
  unfold YW.warmSlot
  split <;> exact ⟨rfl, rfl, rfl, rfl, rfl, rfl, rfl, rfl⟩
theorem xWarmS (h : YX kk O TM TL w Y F q n tF c d W start st f) (hw : W.WF) (a : Nat) (ha : a < 2 ^ 160) (kv : Value) (key : Nat) (hkv : NV O w kv key) (hkey : key < Pk) (hl : YLim (W.warmSlot a key)) : Calls Hvah.prog 62 #[.pointer (some ⟨Y, 0, none⟩), .agg (av a), kv] w fun e w' => ∃ c', e = .returned (.tuple #[]) ∧ YX kk O TM TL w' Y F q n tF c' d (W.warmSlot a key) start { st with now := st.now.warmSlot a key } f ∧ Mod (· = Y) w w' ∧ c' 4 = c 4 := by
  refine (yWarmSlot h.bY (by decide) h.small h.oY W.warmS h.wc.warmS a ha kv key hkv hkey hw.warmS h.lim.warmS).mono ?_
  rintro e w1 ⟨v', rfl, hB, hL, m⟩
  have k := h.wc.keep m h.hsY
  have hab : (W.warmSlot a key).abs = st.now.warmSlot a key := by rw [YW.warmSlot_abs hw a key hkey, h.now]
  refine ⟨_, rfl, h.updY (j := 2) (by decide) (by decide) m hB ⟨by rw [updv_ne _ _ (by decide), (ws_same W a key).1]; exact k.accts, by rw [show 0 + 1 = 1 from rfl, updv_ne _ _ (by decide), (ws_same W a key).2.1]; exact k.warmA, by rw [show 0 + 2 = 2 from rfl, updv_same]; exact (by rw [(ws_same W a key).2.2.2.2.2.2.2]; exact hL), by rw [show 0 + 3 = 3 from rfl, updv_ne _ _ (by decide), (ws_same W a key).2.2.1]; exact k.refund, by rw [show 0 + 5 = 5 from rfl, updv_ne _ _ (by decide), (ws_same W a key).2.2.2.1]; exact k.temps, by rw [show 0 + 6 = 6 from rfl, updv_ne _ _ (by decide), (ws_same W a key).2.2.2.2.1]; exact k.made, by rw [show 0 + 7 = 7 from rfl, updv_ne _ _ (by decide), (ws_same W a key).2.2.2.2.2.1]; exact k.gone⟩ ?_ hl hab, m, updv_ne _ _ (by decide)⟩
  exact (ws_same W a key).2.2.2.2.2.2.1
theorem xTstoreS (h : YX kk O TM TL w Y F q n tF c d W start st f) (hw : W.WF) (a : Nat) (ha : a < 2 ^ 160) (kv vv : Value) (key val : Nat) (hkv : NV O w kv key) (hvv : NV O w vv val) (hkey : key < Pk) (hl : YLim (W.tstore a key val)) : Calls Hvah.prog 245 #[.pointer (some ⟨Y, 0, none⟩), .agg (av a), kv, vv] w fun e w' => ∃ c', e = .returned (.tuple #[]) ∧ YX kk O TM TL w' Y F q n tF c' d (W.tstore a key val) start { st with now := st.now.tstore a key val } f ∧ Mod (· = Y) w w' ∧ c' 4 = c 4 := by
  refine (yTstore h.bY (by decide) h.small h.oY W.temps h.wc.temps a ha kv vv key val hkv hvv hkey (fun m hm => (hw.tkeys m hm).1) h.lim.temps).mono ?_
  rintro e w1 ⟨v', rfl, hB, hL, m⟩
  have k := h.wc.keep m h.hsY
  have hab : (W.tstore a key val).abs = st.now.tstore a key val := by rw [YW.tstore_abs hw a key val hkey, h.now]
  refine ⟨_, rfl, h.updY (j := 5) (by decide) (by decide) m hB ⟨by rw [updv_ne _ _ (by decide)]; exact k.accts, by rw [show 0 + 1 = 1 from rfl, updv_ne _ _ (by decide)]; exact k.warmA, by rw [show 0 + 2 = 2 from rfl, updv_ne _ _ (by decide)]; exact k.warmS, by rw [show 0 + 3 = 3 from rfl, updv_ne _ _ (by decide)]; exact k.refund, by rw [show 0 + 5 = 5 from rfl, updv_same]; exact hL, by rw [show 0 + 6 = 6 from rfl, updv_ne _ _ (by decide)]; exact k.made, by rw [show 0 + 7 = 7 from rfl, updv_ne _ _ (by decide)]; exact k.gone⟩ ?_ hl hab, m, updv_ne _ _ (by decide)⟩
  rfl
theorem xStoreS (h : YX kk O TM TL w Y F q n tF c d W start st f) (a : Nat) (ha : a < 2 ^ 160) (kv vv : Value) (key val : Nat) (hkv : NV O w kv key) (hvv : NV O w vv val) (hl : YLim (W.store a key val)) : Calls Hvah.prog 358 #[.pointer (some ⟨Y, 0, none⟩), .agg (av a), kv, vv] w fun e w' => ∃ c', e = .returned (.tuple #[]) ∧ YX kk O TM TL w' Y F q n tF c' d (W.store a key val) start { st with now := st.now.store a key val } f ∧ Mod (· = Y) w w' ∧ c' 4 = c 4 := by
  refine (yStore h.bY (by decide) h.small h.oY W.accts h.wc.accts a ha kv vv key val hkv hvv (Nat.le_trans h.lim.accts (by decide)) (h.lim.slots a)).mono ?_
  rintro e w1 ⟨v', rfl, hB, hL, m⟩
  have k := h.wc.keep m h.hsY
  have hab : (W.store a key val).abs = st.now.store a key val := by rw [YW.store_abs, h.now]
  refine ⟨_, rfl, h.updY (j := 0) (by decide) (by decide) m hB ⟨by rw [updv_same]; exact hL, by rw [show 0 + 1 = 1 from rfl, updv_ne _ _ (by decide)]; exact k.warmA, by rw [show 0 + 2 = 2 from rfl, updv_ne _ _ (by decide)]; exact k.warmS, by rw [show 0 + 3 = 3 from rfl, updv_ne _ _ (by decide)]; exact k.refund, by rw [show 0 + 5 = 5 from rfl, updv_ne _ _ (by decide)]; exact k.temps, by rw [show 0 + 6 = 6 from rfl, updv_ne _ _ (by decide)]; exact k.made, by rw [show 0 + 7 = 7 from rfl, updv_ne _ _ (by decide)]; exact k.gone⟩ ?_ hl hab, m, updv_ne _ _ (by decide)⟩
  rfl
theorem xSetNonceS (h : YX kk O TM TL w Y F q n tF c d W start st f) (a : Nat) (ha : a < 2 ^ 160) (kv : Value) (x : Nat) (hkv : NV O w kv x) (hl : YLim (W.setNonce a x)) : Calls Hvah.prog 58 #[.pointer (some ⟨Y, 0, none⟩), .agg (av a), kv] w fun e w' => ∃ c', e = .returned (.tuple #[]) ∧ YX kk O TM TL w' Y F q n tF c' d (W.setNonce a x) start { st with now := st.now.setNonce a x } f ∧ Mod (· = Y) w w' ∧ c' 4 = c 4 := by
  refine (ySetNonce h.bY (by decide) h.small h.oY W.accts h.wc.accts a ha kv x hkv (Nat.le_trans h.lim.accts (by decide))).mono ?_
  rintro e w1 ⟨v', rfl, hB, hL, m⟩
  have k := h.wc.keep m h.hsY
  have hab : (W.setNonce a x).abs = st.now.setNonce a x := by rw [YW.setNonce_abs, h.now]
  refine ⟨_, rfl, h.updY (j := 0) (by decide) (by decide) m hB ⟨by rw [updv_same]; exact hL, by rw [show 0 + 1 = 1 from rfl, updv_ne _ _ (by decide)]; exact k.warmA, by rw [show 0 + 2 = 2 from rfl, updv_ne _ _ (by decide)]; exact k.warmS, by rw [show 0 + 3 = 3 from rfl, updv_ne _ _ (by decide)]; exact k.refund, by rw [show 0 + 5 = 5 from rfl, updv_ne _ _ (by decide)]; exact k.temps, by rw [show 0 + 6 = 6 from rfl, updv_ne _ _ (by decide)]; exact k.made, by rw [show 0 + 7 = 7 from rfl, updv_ne _ _ (by decide)]; exact k.gone⟩ ?_ hl hab, m, updv_ne _ _ (by decide)⟩
  rfl
theorem xSetBalS (h : YX kk O TM TL w Y F q n tF c d W start st f) (a : Nat) (ha : a < 2 ^ 160) (kv : Value) (x : Nat) (hkv : NV O w kv x) (hl : YLim (W.setBal a x)) : Calls Hvah.prog 59 #[.pointer (some ⟨Y, 0, none⟩), .agg (av a), kv] w fun e w' => ∃ c', e = .returned (.tuple #[]) ∧ YX kk O TM TL w' Y F q n tF c' d (W.setBal a x) start { st with now := st.now.setBal a x } f ∧ Mod (· = Y) w w' ∧ c' 4 = c 4 := by
  refine (ySetBalance h.bY (by decide) h.small h.oY W.accts h.wc.accts a ha kv x hkv (Nat.le_trans h.lim.accts (by decide))).mono ?_
  rintro e w1 ⟨v', rfl, hB, hL, m⟩
  have k := h.wc.keep m h.hsY
  have hab : (W.setBal a x).abs = st.now.setBal a x := by rw [YW.setBal_abs, h.now]
  refine ⟨_, rfl, h.updY (j := 0) (by decide) (by decide) m hB ⟨by rw [updv_same]; exact hL, by rw [show 0 + 1 = 1 from rfl, updv_ne _ _ (by decide)]; exact k.warmA, by rw [show 0 + 2 = 2 from rfl, updv_ne _ _ (by decide)]; exact k.warmS, by rw [show 0 + 3 = 3 from rfl, updv_ne _ _ (by decide)]; exact k.refund, by rw [show 0 + 5 = 5 from rfl, updv_ne _ _ (by decide)]; exact k.temps, by rw [show 0 + 6 = 6 from rfl, updv_ne _ _ (by decide)]; exact k.made, by rw [show 0 + 7 = 7 from rfl, updv_ne _ _ (by decide)]; exact k.gone⟩ ?_ hl hab, m, updv_ne _ _ (by decide)⟩
  rfl
theorem YX.putRefund (h : YX kk O TM TL w Y F q n tF c d W start st f) {v : Value} {x : Nat} (hv : NV O w v x) (m : Mod (· = Y) w w') (hB : Blk w' Y 179 118 (updv c 3 v)) (hl : YLim { W with refund := x }) : YX kk O TM TL w' Y F q n tF (updv c 3 v) d { W with refund := x } start { st with now := st.now.setRefund x } f := by
  have k := h.wc.keep m h.hsY
  exact h.updY (W' := { W with refund := x }) (j := 3) (by decide) (by decide) m hB ⟨by rw [updv_ne _ _ (by decide)]; exact k.accts, by rw [show 0 + 1 = 1 from rfl, updv_ne _ _ (by decide)]; exact k.warmA, by rw [show 0 + 2 = 2 from rfl, updv_ne _ _ (by decide)]; exact k.warmS, by rw [show 0 + 3 = 3 from rfl, updv_same]; exact (hv.keep m h.hsY), by rw [show 0 + 5 = 5 from rfl, updv_ne _ _ (by decide)]; exact k.temps, by rw [show 0 + 6 = 6 from rfl, updv_ne _ _ (by decide)]; exact k.made, by rw [show 0 + 7 = 7 from rfl, updv_ne _ _ (by decide)]; exact k.gone⟩ rfl hl (by rw [h.now]; rfl)
end
end Go.Proofs.YgvahwGreat
