import Derived.Test.YgvahwGreatYp0
import Derived.Test.YgvahwGreatYw
namespace Go.Proofs.YgvahwGreat
open Go.RowKit
set_option linter.unusedSimpArgs false
set_option linter.unusedVariables false
section
variable {O TL : Nat → Prop} {w : World} {Y F n : Nat} {c d : Nat → Value} {W : YW} {start : List (Nat × Nat × Nat)} {st : ASt} {tot : Nat} {x : YFrm} {r : List YFrm}

theorem ynxTr {O' : Nat → Prop} {W1 W2 w3 : World} {W' : YW} {st' : ASt} {S S' : YW → Prop} (hO : ∀ b, b < w.heap.size → (O' b ↔ O b)) (hM : Mod O w W1) (hYO : O Y) (m2 : Mod (· = Y) W1 W2) (k : YNx O' W2 w3 Y W' start st' tot S) (hS : ∀ v, S v → S' v) : YNx O w w3 Y W' start st' tot S' := by
  obtain ⟨O2, TL2, F2, n2, c2, d2, L2, hY, h2, hm, hs⟩ := k
  have hM2 : Mod O w W2 := hM.trans (m2.sub (fun b hb => by have hb2 : b = Y := hb; rw [hb2]; exact hYO))
  refine ⟨O2, TL2, F2, n2, c2, d2, L2, hY, fun b hb => (h2 b (Nat.lt_of_lt_of_le hb hM2.size)).trans (hO b hb), hM2.trans' hm (fun b hb => ?_), fun y hy => hS _ (hs y hy)⟩
  rcases Nat.lt_or_ge b w.heap.size with q | q
  · exact Or.inl ((hO b q).1 hb)
  · exact Or.inr q
theorem nl_nil0 {O : Nat → Prop} {w : World} : NL O w (.slice none 0 0) [] := ⟨none, 0, rfl, Nat.le_refl _, by decide, ⟨fun x hx => by simp at hx, fun q => absurd rfl q⟩⟩
theorem sv_mem {pf : AFrame} {TM' : Nat → Prop} {V v : YW} (k : v = V ∨ ∃ z ∈ (⟨pf, x.sv, TM'⟩ :: r : List YFrm), v = z.sv) : v = V ∨ ∃ z ∈ x :: r, v = z.sv := by
  rcases k with k | ⟨z, hz, e⟩
  · exact Or.inl k
  · rcases List.mem_cons.1 hz with q | q
    · exact Or.inr ⟨x, by simp, by rw [e, q]⟩
    · exact Or.inr ⟨z, by simp [q], e⟩
/-- A call: HC is one of zCall_o. -/
theorem zsCall (h : YZ O TL w Y F n c d W start st tot (x :: r)) (hph : st.phase = 1) (hpre : x.f.pre = 0) (o : Nat) (ho : o < 256) (h0 : o ≠ 240) (h1 : o ≠ 245) (hop : x.f.opcode = o) (hr : st.refusal x.f x.f.opcode = 0) (hok1 : FOK { x.f with gas := x.f.gas - st.cost x.f o }) (hre : x.f.reach o ≤ 717280) (hok2 : FOK (st.paidF x.f o)) (hn0 : o ≠ 0 ∧ o ≠ 243 ∧ o ≠ 253 ∧ o ≠ 255) (hfa : famA o = 16) (W' V : YW)
    (HC : ∀ O' W1 c' d' TM', YZ O' TL W1 Y F n c' d' W start { st with frames := st.paidF x.f o :: r.map (·.f), ret := [] } tot (⟨st.paidF x.f o, x.sv, TM'⟩ :: r) → Calls Hvah.prog 159 #[.pointer (some ⟨Y, 0, none⟩), .pointer (some ⟨F, r.length * 60, none⟩), .int .u8 (o : Nat)] W1 fun e w' => e = .returned (.tuple #[]) ∧ YNx O' W1 w' Y W' start (({ st with frames := st.paidF x.f o :: r.map (·.f), ret := [] } : ASt).enterCall (st.paidF x.f o) (r.map (·.f)) o) tot (fun v => v = V ∨ ∃ z ∈ (⟨st.paidF x.f o, x.sv, TM'⟩ :: r : List YFrm), v = z.sv)) :
    Calls Hvah.prog 30 #[.pointer (some ⟨Y, 0, none⟩)] w fun e w' => e = .returned (.bool true) ∧ YNx O w w' Y W' start (st.stepF x.f (r.map (·.f))) tot (fun v => v = V ∨ ∃ z ∈ x :: r, v = z.sv) := by
  have hr0 : st.refusal x.f o = 0 := by have := hr; rwa [hop] at this
  refine zStepEnters h hph hpre o ho hop hr0 hok1 hre hok2 _ hn0 hfa (fun W1 k => ?_)
  obtain ⟨O', d', TM', hZ, hO, hM⟩ := k
  refine yEntersCall hZ.bY o h0 h1 (fun W2 => ∃ c2, YZ O' TL W2 Y F n c2 d' W start { st with frames := st.paidF x.f o :: r.map (·.f), ret := [] } tot (⟨st.paidF x.f o, x.sv, TM'⟩ :: r) ∧ Mod (· = Y) W1 W2) _ (fun W2 b m => ⟨_, hZ.putRet m nl_nil0 b, m⟩) (fun W2 k2 => ?_)
  obtain ⟨c2, hz2, m2⟩ := k2
  refine (HC O' W2 c2 d' TM' hz2).mono ?_
  rintro e w3 ⟨rfl, k⟩
  refine ⟨rfl, ?_⟩
  rw [enterCall_ret] at k
  have h5 : ¬ (o = 240 ∨ o = 245) := fun q => q.elim h0 h1
  have e3 : st.stepF x.f (r.map (·.f)) = st.enterCall (st.paidF x.f o) (r.map (·.f)) o := by
    rw [stepF_go hpre hr, hop, if_neg hn0.1, if_neg hn0.2.1, if_neg hn0.2.2.1, if_neg hn0.2.2.2, if_neg h5, if_pos hfa]
  rw [e3]
  exact ynxTr hO hM h.oY m2 k (fun v hv => sv_mem hv)
/-- A creation: HC is zCreate240. -/
theorem zsCreate240 (h : YZ O TL w Y F n c d W start st tot (x :: r)) (hph : st.phase = 1) (hpre : x.f.pre = 0) (hop : x.f.opcode = 240) (hr : st.refusal x.f x.f.opcode = 0) (hok1 : FOK { x.f with gas := x.f.gas - st.cost x.f 240 }) (hre : x.f.reach 240 ≤ 717280) (hok2 : FOK (st.paidF x.f 240)) (W' V : YW)
    (HC : ∀ O' W1 c' d' TM', YZ O' TL W1 Y F n c' d' W start { st with frames := st.paidF x.f 240 :: r.map (·.f), ret := [] } tot (⟨st.paidF x.f 240, x.sv, TM'⟩ :: r) → Calls Hvah.prog 158 #[.pointer (some ⟨Y, 0, none⟩), .pointer (some ⟨F, r.length * 60, none⟩), .int .u8 240] W1 fun e w' => e = .returned (.tuple #[]) ∧ YNx O' W1 w' Y W' start (({ st with frames := st.paidF x.f 240 :: r.map (·.f), ret := [] } : ASt).enterCreate (st.paidF x.f 240) (r.map (·.f)) 240) tot (fun v => v = V ∨ ∃ z ∈ (⟨st.paidF x.f 240, x.sv, TM'⟩ :: r : List YFrm), v = z.sv)) :
    Calls Hvah.prog 30 #[.pointer (some ⟨Y, 0, none⟩)] w fun e w' => e = .returned (.bool true) ∧ YNx O w w' Y W' start (st.stepF x.f (r.map (·.f))) tot (fun v => v = V ∨ ∃ z ∈ x :: r, v = z.sv) := by
  have hr0 : st.refusal x.f 240 = 0 := by have := hr; rwa [hop] at this
  refine zStepEnters h hph hpre 240 (by decide) hop hr0 hok1 hre hok2 _ (by decide) rfl (fun W1 k => ?_)
  obtain ⟨O', d', TM', hZ, hO, hM⟩ := k
  refine yEnters240 hZ.bY (fun W2 => ∃ c2, YZ O' TL W2 Y F n c2 d' W start { st with frames := st.paidF x.f 240 :: r.map (·.f), ret := [] } tot (⟨st.paidF x.f 240, x.sv, TM'⟩ :: r) ∧ Mod (· = Y) W1 W2) _ (fun W2 b m => ⟨_, hZ.putRet m nl_nil0 b, m⟩) (fun W2 k2 => ?_)
  obtain ⟨c2, hz2, m2⟩ := k2
  refine (HC O' W2 c2 d' TM' hz2).mono ?_
  rintro e w3 ⟨rfl, k⟩
  refine ⟨rfl, ?_⟩
  rw [enterCreate_ret] at k
  have e3 : st.stepF x.f (r.map (·.f)) = st.enterCreate (st.paidF x.f 240) (r.map (·.f)) 240 := by
    rw [stepF_go hpre hr, hop, if_neg (by decide), if_neg (by decide), if_neg (by decide), if_neg (by decide), if_pos (by decide)]
  rw [e3]
  exact ynxTr hO hM h.oY m2 k (fun v hv => sv_mem hv)
/-- A creation: HC is zCreate245. -/
theorem zsCreate245 (h : YZ O TL w Y F n c d W start st tot (x :: r)) (hph : st.phase = 1) (hpre : x.f.pre = 0) (hop : x.f.opcode = 245) (hr : st.refusal x.f x.f.opcode = 0) (hok1 : FOK { x.f with gas := x.f.gas - st.cost x.f 245 }) (hre : x.f.reach 245 ≤ 717280) (hok2 : FOK (st.paidF x.f 245)) (W' V : YW)
    (HC : ∀ O' W1 c' d' TM', YZ O' TL W1 Y F n c' d' W start { st with frames := st.paidF x.f 245 :: r.map (·.f), ret := [] } tot (⟨st.paidF x.f 245, x.sv, TM'⟩ :: r) → Calls Hvah.prog 158 #[.pointer (some ⟨Y, 0, none⟩), .pointer (some ⟨F, r.length * 60, none⟩), .int .u8 245] W1 fun e w' => e = .returned (.tuple #[]) ∧ YNx O' W1 w' Y W' start (({ st with frames := st.paidF x.f 245 :: r.map (·.f), ret := [] } : ASt).enterCreate (st.paidF x.f 245) (r.map (·.f)) 245) tot (fun v => v = V ∨ ∃ z ∈ (⟨st.paidF x.f 245, x.sv, TM'⟩ :: r : List YFrm), v = z.sv)) :
    Calls Hvah.prog 30 #[.pointer (some ⟨Y, 0, none⟩)] w fun e w' => e = .returned (.bool true) ∧ YNx O w w' Y W' start (st.stepF x.f (r.map (·.f))) tot (fun v => v = V ∨ ∃ z ∈ x :: r, v = z.sv) := by
  have hr0 : st.refusal x.f 245 = 0 := by have := hr; rwa [hop] at this
  refine zStepEnters h hph hpre 245 (by decide) hop hr0 hok1 hre hok2 _ (by decide) rfl (fun W1 k => ?_)
  obtain ⟨O', d', TM', hZ, hO, hM⟩ := k
  refine yEnters245 hZ.bY (fun W2 => ∃ c2, YZ O' TL W2 Y F n c2 d' W start { st with frames := st.paidF x.f 245 :: r.map (·.f), ret := [] } tot (⟨st.paidF x.f 245, x.sv, TM'⟩ :: r) ∧ Mod (· = Y) W1 W2) _ (fun W2 b m => ⟨_, hZ.putRet m nl_nil0 b, m⟩) (fun W2 k2 => ?_)
  obtain ⟨c2, hz2, m2⟩ := k2
  refine (HC O' W2 c2 d' TM' hz2).mono ?_
  rintro e w3 ⟨rfl, k⟩
  refine ⟨rfl, ?_⟩
  rw [enterCreate_ret] at k
  have e3 : st.stepF x.f (r.map (·.f)) = st.enterCreate (st.paidF x.f 245) (r.map (·.f)) 245 := by
    rw [stepF_go hpre hr, hop, if_neg (by decide), if_neg (by decide), if_neg (by decide), if_neg (by decide), if_pos (by decide)]
  rw [e3]
  exact ynxTr hO hM h.oY m2 k (fun v hv => sv_mem hv)
end
end Go.Proofs.YgvahwGreat
