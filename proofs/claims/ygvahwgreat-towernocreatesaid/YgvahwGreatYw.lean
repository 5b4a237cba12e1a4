import Derived.Test.YgvahwGreatYu2
import Derived.Test.YgvahwGreatYl
import Derived.Test.YgvahwGreatYt
import Derived.Test.YgvahwGreatSj
import Derived.Test.YgvahwGreatSf
import Derived.Test.YgvahwGreatTf
import Derived.Test.YgvahwGreatIvb
namespace Go.Proofs.YgvahwGreat
open Go.RowKit
set_option linter.unusedSimpArgs false
set_option linter.unusedVariables false
/-- The whole state with the instruction paid for and the memory grown. -/
def YGo (O TL : Nat → Prop) (w w' : World) (Y F n : Nat) (c : Nat → Value) (W : YW) (start : List (Nat × Nat × Nat)) (st : ASt) (tot : Nat) (x : YFrm) (r : List YFrm) (pf : AFrame) : Prop :=
  ∃ O' d' TM', YZ O' TL w' Y F n c d' W start { st with frames := pf :: r.map (·.f) } tot (⟨pf, x.sv, TM'⟩ :: r) ∧ (∀ b, b < w.heap.size → (O' b ↔ O b)) ∧ Mod O w w'
section
variable {O TL : Nat → Prop} {w : World} {Y F n : Nat} {c d : Nat → Value} {W : YW} {start : List (Nat × Nat × Nat)} {st : ASt} {tot : Nat} {x : YFrm} {r : List YFrm}
theorem zFr (h : YZ O TL w Y F n c d W start st tot (x :: r)) : ∃ cap, c 9 = .slice (some ⟨F, 0, none⟩) (r.length + 1) cap := by
  rcases h.fv with q | ⟨cap, q, _⟩
  · simp at q
  · exact ⟨cap, q⟩
/-- The gas is paid. -/
def YPd (O TL : Nat → Prop) (w w' : World) (Y F n : Nat) (c d : Nat → Value) (W : YW) (start : List (Nat × Nat × Nat)) (st : ASt) (x : YFrm) (r : List YFrm) (g : Nat) : Prop :=
  ∃ d1, YX c O x.TM TL w' Y F (r.length * 60) n 156 c d1 W start st { x.f with gas := g } ∧ Mod (· = F) w w' ∧ ∀ i, i ≠ r.length * 60 + 4 → d1 i = d i
theorem zPaid (h : YZ O TL w Y F n c d W start st tot (x :: r)) {g : Nat} (hok : FOK { x.f with gas := g }) : ∀ gv W1 W2, NV O W1 gv g → Ext w W1 → Blk W2 F n 156 (updv d (r.length * 60 + 4) gv) → Mod (· = F) W1 W2 → YPd O TL w W2 Y F n c d W start st x r g :=
  fun gv W1 W2 hv e hB m => ⟨_, (h.top.ext e).putGas hv m hB hok, (e.mod _).trans m, fun i hi => updv_ne _ _ hi⟩
theorem zReach {W1 : World} {g : Nat} (k : YPd O TL w W1 Y F n c d W start st x r g) (o : Nat) (ho : o < 256) : Calls Hvah.prog 71 #[.pointer (some ⟨F, r.length * 60, none⟩), .int .u8 o] W1 fun e w' => ∃ rx, e = .returned rx ∧ (YPd O TL w w' Y F n c d W start st x r g ∧ NV O w' rx (x.f.reach o)) := by
  obtain ⟨d1, hX, m, hd⟩ := k
  refine (yReach hX.bF hX.fc hX.hq hX.ok hX.small o ho).mono ?_
  rintro e w2 ⟨rx, rfl, hr, he⟩
  exact ⟨rx, rfl, ⟨d1, hX.ext he, m.trans_ext he, hd⟩, hr⟩
theorem zGrow (h : YZ O TL w Y F n c d W start st tot (x :: r)) {W1 : World} {g t : Nat} {rx : Value} (k : YPd O TL w W1 Y F n c d W start st x r g ∧ NV O W1 rx t) (ht : t ≤ 717280) (hok : FOK { x.f with gas := g, mem := growA x.f.mem t }) : Calls Hvah.prog 70 #[.pointer (some ⟨F, r.length * 60, none⟩), rx] W1 fun e w' => e = .returned (.tuple #[]) ∧ YGo O TL w w' Y F n c W start st tot x r { x.f with gas := g, mem := growA x.f.mem t } := by
  obtain ⟨⟨d1, hX, m, hd⟩, hv⟩ := k
  refine (xGrow hX t hv ht hok).mono ?_
  rintro e w2 ⟨O', TM', d2, rfl, hX2, hO, hT, m2, hd2⟩
  refine ⟨rfl, O', d2, TM', ?_, fun b hb => hO b (Nat.lt_of_lt_of_le hb m.size), (m.trans m2).sub (fun b (hb : b = F) => hb ▸ h.oF)⟩
  have k := h.back hX2 h.wf (fun b hb => hO b (Nat.lt_of_lt_of_le hb m.size)) (fun b hb => (hT b hb).imp id (fun q => Nat.le_trans m.size q)) (fun b hb => Or.inl hb) ((m.trans m2).sub (fun b hb => Or.inr (Or.inl hb))) (fun i hi => by rw [hd2 i (by omega), hd i (by omega)]) rfl (zNow h).symm
  exact k
/-- The refusal of an instruction that is let by. -/
theorem zLet (h : YZ O TL w Y F n c d W start st tot (x :: r)) (o : Nat) (ho : o < 256) (hr : st.refusal x.f o = 0) : ∀ W1, Ext w W1 → Calls Hvah.prog 68 #[.pointer (some ⟨Y, 0, none⟩), .pointer (some ⟨F, r.length * 60, none⟩), .int .u8 o] W1 fun e w' => ∃ rv, e = .returned (.tuple #[.int .u8 0, rv]) ∧ NV O w' rv (st.cost x.f o) ∧ Ext W1 w' := fun W1 e1 => by
  refine (yRefusal (h.top.ext e1) o ho).mono ?_
  rintro e w2 ⟨rv, h1, h2, h3⟩
  rw [hr] at h1
  exact ⟨rv, h1, h2 hr, h3⟩
theorem zLess (h : YZ O TL w Y F n c d W start st tot (x :: r)) (k : Nat) : ∀ rv W1, NV O W1 rv k → Ext w W1 → Calls Hvah.prog 55 #[d (r.length * 60 + 4), rv] W1 fun e w' => ∃ gv, e = .returned gv ∧ gv.oneCell' = true ∧ NV O w' gv (x.f.gas - k) ∧ Ext W1 w' := fun rv W1 hv e1 => by
  refine (nLess O _ _ _ _ _ (h.top.ext e1).small (h.top.ext e1).fc.gas hv).mono ?_
  rintro e w2 ⟨gv, rfl, h1, h2⟩
  exact ⟨gv, rfl, nv_onez h1, h1, h2⟩
theorem zStepPlain (h : YZ O TL w Y F n c d W start st tot (x :: r)) (hph : st.phase = 1) (hpre : x.f.pre = 0) (o : Nat) (ho : o < 256) (hop : x.f.opcode = o) (hr : st.refusal x.f o = 0) (hok1 : FOK { x.f with gas := x.f.gas - st.cost x.f o }) (hre : x.f.reach o ≤ 717280) (hok2 : FOK (st.paidF x.f o)) (Q : World → Prop) (hn0 : o ≠ 0 ∧ o ≠ 243 ∧ o ≠ 253 ∧ o ≠ 255) (hfa : famA o ≠ 16) (HP : ∀ W1, YGo O TL w W1 Y F n c W start st tot x r (st.paidF x.f o) → Calls Hvah.prog 76 #[.pointer (some ⟨Y, 0, none⟩), .pointer (some ⟨F, r.length * 60, none⟩), .int .u8 o] W1 fun e w' => e = .returned (.tuple #[]) ∧ Q w') : Calls Hvah.prog 30 #[.pointer (some ⟨Y, 0, none⟩)] w fun e w' => e = .returned (.bool true) ∧ Q w' := by
  obtain ⟨cap, hc9⟩ := zFr h
  have hk : r.length < 1000 := by have := h.few; simp at this; omega
  have hph2 : c 11 = .int .u8 1 := by rw [h.phase, hph]; rfl
  have hpr : d (r.length * 60 + 1) = .int .u8 0 := by rw [h.top.fc.pre, hpre]; rfl
  have hopH := hop
  exact yStepPlain h.bY hph2 F r.length cap hk hc9 n 156 d h.top.bF h.top.hq hpr o ho (fun rv W1 => NV O W1 rv (st.cost x.f o)) (fun gv W1 => NV O W1 gv (x.f.gas - st.cost x.f o)) (fun W1 => YPd O TL w W1 Y F n c d W start st x r (x.f.gas - st.cost x.f o)) (fun rx W1 => YPd O TL w W1 Y F n c d W start st x r (x.f.gas - st.cost x.f o) ∧ NV O W1 rx (x.f.reach o)) (fun W1 => YGo O TL w W1 Y F n c W start st tot x r (st.paidF x.f o)) Q (fun W1 e1 => by rw [← hopH]; exact yOpcode (h.top.ext e1)) (zLet h o ho hr) (zLess h _) (zPaid h hok1) (fun W1 k => zReach k o ho) (fun rx W1 k => zGrow h k hre hok2) hn0 hfa HP
theorem zStepEnters (h : YZ O TL w Y F n c d W start st tot (x :: r)) (hph : st.phase = 1) (hpre : x.f.pre = 0) (o : Nat) (ho : o < 256) (hop : x.f.opcode = o) (hr : st.refusal x.f o = 0) (hok1 : FOK { x.f with gas := x.f.gas - st.cost x.f o }) (hre : x.f.reach o ≤ 717280) (hok2 : FOK (st.paidF x.f o)) (Q : World → Prop) (hn0 : o ≠ 0 ∧ o ≠ 243 ∧ o ≠ 253 ∧ o ≠ 255) (hfa : famA o = 16) (HP : ∀ W1, YGo O TL w W1 Y F n c W start st tot x r (st.paidF x.f o) → Calls Hvah.prog 75 #[.pointer (some ⟨Y, 0, none⟩), .pointer (some ⟨F, r.length * 60, none⟩), .int .u8 o] W1 fun e w' => e = .returned (.tuple #[]) ∧ Q w') : Calls Hvah.prog 30 #[.pointer (some ⟨Y, 0, none⟩)] w fun e w' => e = .returned (.bool true) ∧ Q w' := by
  obtain ⟨cap, hc9⟩ := zFr h
  have hk : r.length < 1000 := by have := h.few; simp at this; omega
  have hph2 : c 11 = .int .u8 1 := by rw [h.phase, hph]; rfl
  have hpr : d (r.length * 60 + 1) = .int .u8 0 := by rw [h.top.fc.pre, hpre]; rfl
  have hopH := hop
  exact yStepEnters h.bY hph2 F r.length cap hk hc9 n 156 d h.top.bF h.top.hq hpr o ho (fun rv W1 => NV O W1 rv (st.cost x.f o)) (fun gv W1 => NV O W1 gv (x.f.gas - st.cost x.f o)) (fun W1 => YPd O TL w W1 Y F n c d W start st x r (x.f.gas - st.cost x.f o)) (fun rx W1 => YPd O TL w W1 Y F n c d W start st x r (x.f.gas - st.cost x.f o) ∧ NV O W1 rx (x.f.reach o)) (fun W1 => YGo O TL w W1 Y F n c W start st tot x r (st.paidF x.f o)) Q (fun W1 e1 => by rw [← hopH]; exact yOpcode (h.top.ext e1)) (zLet h o ho hr) (zLess h _) (zPaid h hok1) (fun W1 k => zReach k o ho) (fun rx W1 k => zGrow h k hre hok2) hn0 hfa HP
theorem zStepDestroys (h : YZ O TL w Y F n c d W start st tot (x :: r)) (hph : st.phase = 1) (hpre : x.f.pre = 0) (hop : x.f.opcode = 255) (hr : st.refusal x.f 255 = 0) (hok1 : FOK { x.f with gas := x.f.gas - st.cost x.f 255 }) (hre : x.f.reach 255 ≤ 717280) (hok2 : FOK (st.paidF x.f 255)) (Q : World → Prop) (HP : ∀ W1, YGo O TL w W1 Y F n c W start st tot x r (st.paidF x.f 255) → Calls Hvah.prog 74 #[.pointer (some ⟨Y, 0, none⟩), .pointer (some ⟨F, r.length * 60, none⟩)] W1 fun e w' => e = .returned (.tuple #[]) ∧ Q w') : Calls Hvah.prog 30 #[.pointer (some ⟨Y, 0, none⟩)] w fun e w' => e = .returned (.bool true) ∧ Q w' := by
  obtain ⟨cap, hc9⟩ := zFr h
  have hk : r.length < 1000 := by have := h.few; simp at this; omega
  have hph2 : c 11 = .int .u8 1 := by rw [h.phase, hph]; rfl
  have hpr : d (r.length * 60 + 1) = .int .u8 0 := by rw [h.top.fc.pre, hpre]; rfl
  have hopH : ((x.f.opcode : Nat) : Int) = 255 := by rw [hop]; rfl
  exact yStepDestroys h.bY hph2 F r.length cap hk hc9 n 156 d h.top.bF h.top.hq hpr (fun rv W1 => NV O W1 rv (st.cost x.f 255)) (fun gv W1 => NV O W1 gv (x.f.gas - st.cost x.f 255)) (fun W1 => YPd O TL w W1 Y F n c d W start st x r (x.f.gas - st.cost x.f 255)) (fun rx W1 => YPd O TL w W1 Y F n c d W start st x r (x.f.gas - st.cost x.f 255) ∧ NV O W1 rx (x.f.reach 255)) (fun W1 => YGo O TL w W1 Y F n c W start st tot x r (st.paidF x.f 255)) Q (fun W1 e1 => by rw [← hopH]; exact yOpcode (h.top.ext e1)) (zLet h 255 (by decide) hr) (zLess h _) (zPaid h hok1) (fun W1 k => zReach k 255 (by decide)) (fun rx W1 k => zGrow h k hre hok2) HP
theorem zStepStop (h : YZ O TL w Y F n c d W start st tot (x :: r)) (hph : st.phase = 1) (hpre : x.f.pre = 0) (hop : x.f.opcode = 0) (hr : st.refusal x.f 0 = 0) (hok1 : FOK { x.f with gas := x.f.gas - st.cost x.f 0 }) (hre : x.f.reach 0 ≤ 717280) (hok2 : FOK (st.paidF x.f 0)) (Q : World → Prop) (HP : ∀ W1, YGo O TL w W1 Y F n c W start st tot x r (st.paidF x.f 0) → Calls Hvah.prog 69 #[.pointer (some ⟨Y, 0, none⟩), .int .u8 0, .slice none 0 0] W1 fun e w' => e = .returned (.tuple #[]) ∧ Q w') : Calls Hvah.prog 30 #[.pointer (some ⟨Y, 0, none⟩)] w fun e w' => e = .returned (.bool true) ∧ Q w' := by
  obtain ⟨cap, hc9⟩ := zFr h
  have hk : r.length < 1000 := by have := h.few; simp at this; omega
  have hph2 : c 11 = .int .u8 1 := by rw [h.phase, hph]; rfl
  have hpr : d (r.length * 60 + 1) = .int .u8 0 := by rw [h.top.fc.pre, hpre]; rfl
  have hopH : ((x.f.opcode : Nat) : Int) = 0 := by rw [hop]; rfl
  exact yStepStop h.bY hph2 F r.length cap hk hc9 n 156 d h.top.bF h.top.hq hpr (fun rv W1 => NV O W1 rv (st.cost x.f 0)) (fun gv W1 => NV O W1 gv (x.f.gas - st.cost x.f 0)) (fun W1 => YPd O TL w W1 Y F n c d W start st x r (x.f.gas - st.cost x.f 0)) (fun rx W1 => YPd O TL w W1 Y F n c d W start st x r (x.f.gas - st.cost x.f 0) ∧ NV O W1 rx (x.f.reach 0)) (fun W1 => YGo O TL w W1 Y F n c W start st tot x r (st.paidF x.f 0)) Q (fun W1 e1 => by rw [← hopH]; exact yOpcode (h.top.ext e1)) (zLet h 0 (by decide) hr) (zLess h _) (zPaid h hok1) (fun W1 k => zReach k 0 (by decide)) (fun rx W1 k => zGrow h k hre hok2) HP
theorem zStepRefused (h : YZ O TL w Y F n c d W start st tot (x :: r)) (hph : st.phase = 1) (hpre : x.f.pre = 0) (o : Nat) (ho : o < 256) (hop : x.f.opcode = o) (hr : st.refusal x.f o ≠ 0) (Q : World → Prop) (HP : ∀ W1, Ext w W1 → Calls Hvah.prog 69 #[.pointer (some ⟨Y, 0, none⟩), .int .u8 (st.refusal x.f o : Nat), .slice none 0 0] W1 fun e w' => e = .returned (.tuple #[]) ∧ Q w') : Calls Hvah.prog 30 #[.pointer (some ⟨Y, 0, none⟩)] w fun e w' => e = .returned (.bool true) ∧ Q w' := by
  obtain ⟨cap, hc9⟩ := zFr h
  have hk : r.length < 1000 := by have := h.few; simp at this; omega
  have hph2 : c 11 = .int .u8 1 := by rw [h.phase, hph]; rfl
  have hpr : d (r.length * 60 + 1) = .int .u8 0 := by rw [h.top.fc.pre, hpre]; rfl
  refine yStepRefused h.bY hph2 F r.length cap hk hc9 n 156 d h.top.bF h.top.hq hpr o (st.refusal x.f o) hr Q (fun W1 e1 => by rw [← hop]; exact yOpcode (h.top.ext e1)) (fun W1 e1 => ?_) HP
  refine (yRefusal (h.top.ext e1) o ho).mono ?_
  rintro e w2 ⟨rv, h1, _, h3⟩
  exact ⟨rv, h1, h3⟩
theorem zStepRet243 (h : YZ O TL w Y F n c d W start st tot (x :: r)) (hph : st.phase = 1) (hpre : x.f.pre = 0) (hop : x.f.opcode = 243) (hr : st.refusal x.f 243 = 0) (hok1 : FOK { x.f with gas := x.f.gas - st.cost x.f 243 }) (hre : x.f.reach 243 ≤ 717280) (hok2 : FOK (st.paidF x.f 243)) (Q : World → Prop) (hn1 : x.f.arg 1 ≤ 717280) (HP : ∀ u W1, (∃ O' d' TM', (YZ O' TL W1 Y F n c d' W start { st with frames := st.paidF x.f 243 :: r.map (·.f) } tot (⟨st.paidF x.f 243, x.sv, TM'⟩ :: r) ∧ (∀ b, b < w.heap.size → (O' b ↔ O b)) ∧ Mod O w W1) ∧ NL O' W1 u (readA (st.paidF x.f 243).mem ((st.paidF x.f 243).arg 0) ((st.paidF x.f 243).arg 1))) → Calls Hvah.prog 69 #[.pointer (some ⟨Y, 0, none⟩), .int .u8 0, u] W1 fun e w' => e = .returned (.tuple #[]) ∧ Q w') : Calls Hvah.prog 30 #[.pointer (some ⟨Y, 0, none⟩)] w fun e w' => e = .returned (.bool true) ∧ Q w' := by
  obtain ⟨cap, hc9⟩ := zFr h
  have hk : r.length < 1000 := by have := h.few; simp at this; omega
  have hph2 : c 11 = .int .u8 1 := by rw [h.phase, hph]; rfl
  have hpr : d (r.length * 60 + 1) = .int .u8 0 := by rw [h.top.fc.pre, hpre]; rfl
  have hopH : ((x.f.opcode : Nat) : Int) = 243 := by rw [hop]; rfl
  refine yStepRet243 h.bY hph2 F r.length cap hk hc9 n 156 d h.top.bF h.top.hq hpr (fun rv W1 => NV O W1 rv (st.cost x.f 243)) (fun gv W1 => NV O W1 gv (x.f.gas - st.cost x.f 243)) (fun W1 => YPd O TL w W1 Y F n c d W start st x r (x.f.gas - st.cost x.f 243)) (fun rx W1 => YPd O TL w W1 Y F n c d W start st x r (x.f.gas - st.cost x.f 243) ∧ NV O W1 rx (x.f.reach 243)) (fun W1 => YGo O TL w W1 Y F n c W start st tot x r (st.paidF x.f 243)) Q (fun W1 e1 => by rw [← hopH]; exact yOpcode (h.top.ext e1)) (zLet h 243 (by decide) hr) (zLess h _) (zPaid h hok1) (fun W1 k => zReach k 243 (by decide)) (fun rx W1 k => zGrow h k hre hok2) (fun a W1 => (∃ O' d' TM', (YZ O' TL W1 Y F n c d' W start { st with frames := st.paidF x.f 243 :: r.map (·.f) } tot (⟨st.paidF x.f 243, x.sv, TM'⟩ :: r) ∧ (∀ b, b < w.heap.size → (O' b ↔ O b)) ∧ Mod O w W1) ∧ NV O' W1 a ((st.paidF x.f 243).arg 0))) (fun a b W1 => (∃ O' d' TM', (YZ O' TL W1 Y F n c d' W start { st with frames := st.paidF x.f 243 :: r.map (·.f) } tot (⟨st.paidF x.f 243, x.sv, TM'⟩ :: r) ∧ (∀ q, q < w.heap.size → (O' q ↔ O q)) ∧ Mod O w W1) ∧ NV O' W1 a ((st.paidF x.f 243).arg 0) ∧ NV O' W1 b ((st.paidF x.f 243).arg 1))) (fun u W1 => (∃ O' d' TM', (YZ O' TL W1 Y F n c d' W start { st with frames := st.paidF x.f 243 :: r.map (·.f) } tot (⟨st.paidF x.f 243, x.sv, TM'⟩ :: r) ∧ (∀ b, b < w.heap.size → (O' b ↔ O b)) ∧ Mod O w W1) ∧ NL O' W1 u (readA (st.paidF x.f 243).mem ((st.paidF x.f 243).arg 0) ((st.paidF x.f 243).arg 1)))) (fun W1 k => ?_) (fun a W1 k => ?_) (fun a b W1 k => ?_) HP
  · obtain ⟨O', d', TM', hZ, hO, hM⟩ := k
    refine (xArg hZ.top 0 (by decide)).mono ?_
    rintro e w2 ⟨a, rfl, ha, he⟩
    exact ⟨a, rfl, O', d', TM', ⟨hZ.ext he, hO, hM.trans_ext he⟩, ha⟩
  · obtain ⟨O', d', TM', ⟨hZ, hO, hM⟩, ha⟩ := k
    refine (xArg hZ.top 1 (by decide)).mono ?_
    rintro e w2 ⟨b, rfl, hb, he⟩
    exact ⟨b, rfl, O', d', TM', ⟨hZ.ext he, hO, hM.trans_ext he⟩, ha.ext he, hb⟩
  · obtain ⟨O', d', TM', ⟨hZ, hO, hM⟩, ha, hb⟩ := k
    have hmn := hZ.top.fc.memNL
    refine (yRead hZ.top.bF hZ.top.hq hZ.top.small hmn ha hb hn1).mono ?_
    rintro e w2 ⟨u, rfl, hu, he⟩
    exact ⟨u, rfl, O', d', TM', ⟨hZ.ext he, hO, hM.trans_ext he⟩, hu⟩
theorem zStepRet253 (h : YZ O TL w Y F n c d W start st tot (x :: r)) (hph : st.phase = 1) (hpre : x.f.pre = 0) (hop : x.f.opcode = 253) (hr : st.refusal x.f 253 = 0) (hok1 : FOK { x.f with gas := x.f.gas - st.cost x.f 253 }) (hre : x.f.reach 253 ≤ 717280) (hok2 : FOK (st.paidF x.f 253)) (Q : World → Prop) (hn1 : x.f.arg 1 ≤ 717280) (HP : ∀ u W1, (∃ O' d' TM', (YZ O' TL W1 Y F n c d' W start { st with frames := st.paidF x.f 253 :: r.map (·.f) } tot (⟨st.paidF x.f 253, x.sv, TM'⟩ :: r) ∧ (∀ b, b < w.heap.size → (O' b ↔ O b)) ∧ Mod O w W1) ∧ NL O' W1 u (readA (st.paidF x.f 253).mem ((st.paidF x.f 253).arg 0) ((st.paidF x.f 253).arg 1))) → Calls Hvah.prog 69 #[.pointer (some ⟨Y, 0, none⟩), .int .u8 1, u] W1 fun e w' => e = .returned (.tuple #[]) ∧ Q w') : Calls Hvah.prog 30 #[.pointer (some ⟨Y, 0, none⟩)] w fun e w' => e = .returned (.bool true) ∧ Q w' := by
  obtain ⟨cap, hc9⟩ := zFr h
  have hk : r.length < 1000 := by have := h.few; simp at this; omega
  have hph2 : c 11 = .int .u8 1 := by rw [h.phase, hph]; rfl
  have hpr : d (r.length * 60 + 1) = .int .u8 0 := by rw [h.top.fc.pre, hpre]; rfl
  have hopH : ((x.f.opcode : Nat) : Int) = 253 := by rw [hop]; rfl
  refine yStepRet253 h.bY hph2 F r.length cap hk hc9 n 156 d h.top.bF h.top.hq hpr (fun rv W1 => NV O W1 rv (st.cost x.f 253)) (fun gv W1 => NV O W1 gv (x.f.gas - st.cost x.f 253)) (fun W1 => YPd O TL w W1 Y F n c d W start st x r (x.f.gas - st.cost x.f 253)) (fun rx W1 => YPd O TL w W1 Y F n c d W start st x r (x.f.gas - st.cost x.f 253) ∧ NV O W1 rx (x.f.reach 253)) (fun W1 => YGo O TL w W1 Y F n c W start st tot x r (st.paidF x.f 253)) Q (fun W1 e1 => by rw [← hopH]; exact yOpcode (h.top.ext e1)) (zLet h 253 (by decide) hr) (zLess h _) (zPaid h hok1) (fun W1 k => zReach k 253 (by decide)) (fun rx W1 k => zGrow h k hre hok2) (fun a W1 => (∃ O' d' TM', (YZ O' TL W1 Y F n c d' W start { st with frames := st.paidF x.f 253 :: r.map (·.f) } tot (⟨st.paidF x.f 253, x.sv, TM'⟩ :: r) ∧ (∀ b, b < w.heap.size → (O' b ↔ O b)) ∧ Mod O w W1) ∧ NV O' W1 a ((st.paidF x.f 253).arg 0))) (fun a b W1 => (∃ O' d' TM', (YZ O' TL W1 Y F n c d' W start { st with frames := st.paidF x.f 253 :: r.map (·.f) } tot (⟨st.paidF x.f 253, x.sv, TM'⟩ :: r) ∧ (∀ q, q < w.heap.size → (O' q ↔ O q)) ∧ Mod O w W1) ∧ NV O' W1 a ((st.paidF x.f 253).arg 0) ∧ NV O' W1 b ((st.paidF x.f 253).arg 1))) (fun u W1 => (∃ O' d' TM', (YZ O' TL W1 Y F n c d' W start { st with frames := st.paidF x.f 253 :: r.map (·.f) } tot (⟨st.paidF x.f 253, x.sv, TM'⟩ :: r) ∧ (∀ b, b < w.heap.size → (O' b ↔ O b)) ∧ Mod O w W1) ∧ NL O' W1 u (readA (st.paidF x.f 253).mem ((st.paidF x.f 253).arg 0) ((st.paidF x.f 253).arg 1)))) (fun W1 k => ?_) (fun a W1 k => ?_) (fun a b W1 k => ?_) HP
  · obtain ⟨O', d', TM', hZ, hO, hM⟩ := k
    refine (xArg hZ.top 0 (by decide)).mono ?_
    rintro e w2 ⟨a, rfl, ha, he⟩
    exact ⟨a, rfl, O', d', TM', ⟨hZ.ext he, hO, hM.trans_ext he⟩, ha⟩
  · obtain ⟨O', d', TM', ⟨hZ, hO, hM⟩, ha⟩ := k
    refine (xArg hZ.top 1 (by decide)).mono ?_
    rintro e w2 ⟨b, rfl, hb, he⟩
    exact ⟨b, rfl, O', d', TM', ⟨hZ.ext he, hO, hM.trans_ext he⟩, ha.ext he, hb⟩
  · obtain ⟨O', d', TM', ⟨hZ, hO, hM⟩, ha, hb⟩ := k
    have hmn := hZ.top.fc.memNL
    refine (yRead hZ.top.bF hZ.top.hq hZ.top.small hmn ha hb hn1).mono ?_
    rintro e w2 ⟨u, rfl, hu, he⟩
    exact ⟨u, rfl, O', d', TM', ⟨hZ.ext he, hO, hM.trans_ext he⟩, hu⟩
end
end Go.Proofs.YgvahwGreat
