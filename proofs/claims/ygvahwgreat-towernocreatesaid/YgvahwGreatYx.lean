import Derived.Test.YgvahwGreatYw
import Derived.Test.YgvahwGreatYg
import Derived.Test.YgvahwGreatZp
namespace Go.Proofs.YgvahwGreat
open Go.RowKit
set_option linter.unusedSimpArgs false
set_option linter.unusedVariables false
/-- The specification's state behind a step; S is what holds of the worlds that frames put back. -/
def YNx (O : Nat → Prop) (w w' : World) (Y : Nat) (W' : YW) (start : List (Nat × Nat × Nat)) (st' : ASt) (tot : Nat) (S : YW → Prop) : Prop :=
  ∃ O' TL' F' n' c' d' L', YZ O' TL' w' Y F' n' c' d' W' start st' tot L' ∧ (∀ b, b < w.heap.size → (O' b ↔ O b)) ∧ Mod O w w' ∧ ∀ y ∈ L', S y.sv
theorem leave_frx (st : ASt) (l : List AFrame) (f : AFrame) (rest : List AFrame) (s : Nat) (out : List Nat) : ({ st with frames := l } : ASt).leave f rest s out = st.leave f rest s out := by
  cases rest <;> rfl
theorem plain_fr (st : ASt) (l : List AFrame) (f : AFrame) (rest : List AFrame) (o : Nat) : ({ st with frames := l } : ASt).plain f rest o = st.plain f rest o := by
  unfold ASt.plain; rfl
theorem destroys_fr (st : ASt) (l : List AFrame) (f : AFrame) (rest : List AFrame) : ({ st with frames := l } : ASt).destroys f rest = st.destroys f rest := by
  unfold ASt.destroys; cases rest <;> rfl
section
variable {O TL : Nat → Prop} {w : World} {Y F n : Nat} {c d : Nat → Value} {W : YW} {start : List (Nat × Nat × Nat)} {st : ASt} {tot : Nat} {x : YFrm} {r : List YFrm}
/-- A frame's end, behind the part of a step that pays. -/
theorem ynx_lv {O' : Nat → Prop} {W1 w' : World} {W' : YW} {st' : ASt} (hO : ∀ b, b < w.heap.size → (O' b ↔ O b)) (m : Mod O w W1) (k : YLv O' TL W1 w' Y F n W' start st' tot r) : YNx O w w' Y W' start st' tot (fun v => ∃ z ∈ x :: r, v = z.sv) := by
  obtain ⟨c2, d2, L2, hZ, m2, hL⟩ := k
  refine ⟨O', TL, F, n, c2, d2, L2, hZ, hO, m.trans' m2 (fun i hi => ?_), fun y hy => ?_⟩
  · rcases Nat.lt_or_ge i w.heap.size with q | q
    · exact Or.inl ((hO i q).1 hi)
    · exact Or.inr q
  · obtain ⟨z, hz, e⟩ := hL y hy
    exact ⟨z, by simp [hz], e⟩
theorem ynx_pl {O' : Nat → Prop} {W1 w' : World} {W' : YW} {st' : ASt} {y : YFrm} (hy : y.sv = x.sv) (hO : ∀ b, b < w.heap.size → (O' b ↔ O b)) (m : Mod O w W1) (k : YPl O' TL W1 w' Y F n W' start st' tot y r) : YNx O w w' Y W' start st' tot (fun v => ∃ z ∈ x :: r, v = z.sv) := by
  obtain ⟨O2, TL2, c2, d2, f2, TM2, hZ, hO2, m2⟩ := k
  refine ⟨O2, TL2, F, n, c2, d2, _, hZ, fun b hb => (hO2 b (Nat.lt_of_lt_of_le hb m.size)).trans (hO b hb), m.trans' m2 (fun i hi => ?_), fun z hz => ?_⟩
  · rcases Nat.lt_or_ge i w.heap.size with q | q
    · exact Or.inl ((hO i q).1 hi)
    · exact Or.inr q
  · rcases List.mem_cons.1 hz with rfl | hz
    · exact ⟨x, by simp, hy⟩
    · exact ⟨z, by simp [hz], rfl⟩
theorem zsRefused (h : YZ O TL w Y F n c d W start st tot (x :: r)) (hph : st.phase = 1) (hpre : x.f.pre = 0) (hr : st.refusal x.f x.f.opcode ≠ 0) (hr2 : st.refusal x.f x.f.opcode < 256) (ho : x.f.opcode < 256) (hpar : ∀ p r', r = p :: r' → p.f.gas + x.f.gas ≤ 1048576 ∧ p.f.stack.length < 64 ∧ p.f.pc < 60000) : Calls Hvah.prog 30 #[.pointer (some ⟨Y, 0, none⟩)] w fun e w' => e = .returned (.bool true) ∧ YNx O w w' Y (lvW W x (st.refusal x.f x.f.opcode) []) start (st.stepF x.f (r.map (·.f))) tot (fun v => ∃ z ∈ x :: r, v = z.sv) := by
  refine zStepRefused h hph hpre x.f.opcode ho rfl hr _ (fun W1 e1 => ?_)
  refine (zLeave (h.ext e1) (st.refusal x.f x.f.opcode) hr2 (.slice none 0 0) [] NL.nil (by simp) (fun q _ => ?_) hpar).mono ?_
  · have q2 : (createsA x.f.kind && decide (st.refusal x.f x.f.opcode = 0)) = true := q
    simp [hr] at q2
  rintro e w2 ⟨rfl, k⟩
  refine ⟨rfl, ?_⟩
  rw [stepF_ref hpre hr]
  exact ynx_lv (fun b _ => Iff.rfl) (e1.mod _) k
theorem lvW_tm (W : YW) (x y : YFrm) (s : Nat) (out : List Nat) (h1 : y.f = x.f) (h2 : y.sv = x.sv) : lvW W y s out = lvW W x s out := by unfold lvW; rw [h1, h2]
theorem zsStop (h : YZ O TL w Y F n c d W start st tot (x :: r)) (hph : st.phase = 1) (hpre : x.f.pre = 0) (hop : x.f.opcode = 0) (hr : st.refusal x.f x.f.opcode = 0) (hok1 : FOK { x.f with gas := x.f.gas - st.cost x.f 0 }) (hre : x.f.reach 0 ≤ 717280) (hok2 : FOK (st.paidF x.f 0)) (hcode : lvDep (st.paidF x.f 0) 0 = true → lvS (st.paidF x.f 0) 0 [] = 0 → YLim (W.setCode x.f.self [])) (hpar : ∀ p r', r = p :: r' → p.f.gas + (st.paidF x.f 0).gas ≤ 1048576 ∧ p.f.stack.length < 64 ∧ p.f.pc < 60000) : Calls Hvah.prog 30 #[.pointer (some ⟨Y, 0, none⟩)] w fun e w' => e = .returned (.bool true) ∧ YNx O w w' Y (lvW W ({ x with f := st.paidF x.f 0 } : YFrm) 0 []) start (st.stepF x.f (r.map (·.f))) tot (fun v => ∃ z ∈ x :: r, v = z.sv) := by
  have hr0 : st.refusal x.f 0 = 0 := by have := hr; rwa [hop] at this
  refine zStepStop h hph hpre hop hr0 hok1 hre hok2 _ (fun W1 k => ?_)
  obtain ⟨O', d', TM', hZ, hO, hM⟩ := k
  refine (zLeave hZ 0 (by decide) (.slice none 0 0) [] NL.nil (by simp) hcode hpar).mono ?_
  rintro e w2 ⟨rfl, k⟩
  refine ⟨rfl, ?_⟩
  rw [leave_frx] at k
  rw [stepF_go hpre hr, if_pos hop, hop]
  rw [lvW_tm W ({ x with f := st.paidF x.f 0 } : YFrm) ⟨st.paidF x.f 0, x.sv, TM'⟩ 0 [] rfl rfl] at k
  exact ynx_lv hO hM k
theorem zsRet243 (h : YZ O TL w Y F n c d W start st tot (x :: r)) (hph : st.phase = 1) (hpre : x.f.pre = 0) (hop : x.f.opcode = 243) (hr : st.refusal x.f x.f.opcode = 0) (hok1 : FOK { x.f with gas := x.f.gas - st.cost x.f 243 }) (hre : x.f.reach 243 ≤ 717280) (hok2 : FOK (st.paidF x.f 243)) (hn1 : x.f.arg 1 ≤ 717280) (hlen : (readA (st.paidF x.f 243).mem (x.f.arg 0) (x.f.arg 1)).length ≤ 717280) (hcode : lvDep (st.paidF x.f 243) 0 = true → lvS (st.paidF x.f 243) 0 (readA (st.paidF x.f 243).mem (x.f.arg 0) (x.f.arg 1)) = 0 → YLim (W.setCode x.f.self (readA (st.paidF x.f 243).mem (x.f.arg 0) (x.f.arg 1)))) (hpar : ∀ p r', r = p :: r' → p.f.gas + (st.paidF x.f 243).gas ≤ 1048576 ∧ p.f.stack.length < 64 ∧ p.f.pc < 60000) : Calls Hvah.prog 30 #[.pointer (some ⟨Y, 0, none⟩)] w fun e w' => e = .returned (.bool true) ∧ YNx O w w' Y (lvW W ({ x with f := st.paidF x.f 243 } : YFrm) 0 (readA (st.paidF x.f 243).mem (x.f.arg 0) (x.f.arg 1))) start (st.stepF x.f (r.map (·.f))) tot (fun v => ∃ z ∈ x :: r, v = z.sv) := by
  have hr0 : st.refusal x.f 243 = 0 := by have := hr; rwa [hop] at this
  refine zStepRet243 h hph hpre hop hr0 hok1 hre hok2 _ hn1 (fun u W1 k => ?_)
  obtain ⟨O', d', TM', ⟨hZ, hO, hM⟩, hu⟩ := k
  refine (zLeave hZ 0 (by decide) u (readA (st.paidF x.f 243).mem (x.f.arg 0) (x.f.arg 1)) hu hlen hcode hpar).mono ?_
  rintro e w2 ⟨rfl, k⟩
  refine ⟨rfl, ?_⟩
  rw [leave_frx] at k
  have e3 : st.stepF x.f (r.map (·.f)) = st.leave (st.paidF x.f 243) (r.map (·.f)) 0 (readA (st.paidF x.f 243).mem (x.f.arg 0) (x.f.arg 1)) := by
    rw [stepF_go hpre hr, hop]; simp
  rw [e3]
  rw [lvW_tm W ({ x with f := st.paidF x.f 243 } : YFrm) ⟨st.paidF x.f 243, x.sv, TM'⟩ 0 (readA (st.paidF x.f 243).mem (x.f.arg 0) (x.f.arg 1)) rfl rfl] at k
  exact ynx_lv hO hM k
theorem zsRet253 (h : YZ O TL w Y F n c d W start st tot (x :: r)) (hph : st.phase = 1) (hpre : x.f.pre = 0) (hop : x.f.opcode = 253) (hr : st.refusal x.f x.f.opcode = 0) (hok1 : FOK { x.f with gas := x.f.gas - st.cost x.f 253 }) (hre : x.f.reach 253 ≤ 717280) (hok2 : FOK (st.paidF x.f 253)) (hn1 : x.f.arg 1 ≤ 717280) (hlen : (readA (st.paidF x.f 253).mem (x.f.arg 0) (x.f.arg 1)).length ≤ 717280) (hcode : lvDep (st.paidF x.f 253) 1 = true → lvS (st.paidF x.f 253) 1 (readA (st.paidF x.f 253).mem (x.f.arg 0) (x.f.arg 1)) = 0 → YLim (W.setCode x.f.self (readA (st.paidF x.f 253).mem (x.f.arg 0) (x.f.arg 1)))) (hpar : ∀ p r', r = p :: r' → p.f.gas + (st.paidF x.f 253).gas ≤ 1048576 ∧ p.f.stack.length < 64 ∧ p.f.pc < 60000) : Calls Hvah.prog 30 #[.pointer (some ⟨Y, 0, none⟩)] w fun e w' => e = .returned (.bool true) ∧ YNx O w w' Y (lvW W ({ x with f := st.paidF x.f 253 } : YFrm) 1 (readA (st.paidF x.f 253).mem (x.f.arg 0) (x.f.arg 1))) start (st.stepF x.f (r.map (·.f))) tot (fun v => ∃ z ∈ x :: r, v = z.sv) := by
  have hr0 : st.refusal x.f 253 = 0 := by have := hr; rwa [hop] at this
  refine zStepRet253 h hph hpre hop hr0 hok1 hre hok2 _ hn1 (fun u W1 k => ?_)
  obtain ⟨O', d', TM', ⟨hZ, hO, hM⟩, hu⟩ := k
  refine (zLeave hZ 1 (by decide) u (readA (st.paidF x.f 253).mem (x.f.arg 0) (x.f.arg 1)) hu hlen hcode hpar).mono ?_
  rintro e w2 ⟨rfl, k⟩
  refine ⟨rfl, ?_⟩
  rw [leave_frx] at k
  have e3 : st.stepF x.f (r.map (·.f)) = st.leave (st.paidF x.f 253) (r.map (·.f)) 1 (readA (st.paidF x.f 253).mem (x.f.arg 0) (x.f.arg 1)) := by
    rw [stepF_go hpre hr, hop]; simp
  rw [e3]
  rw [lvW_tm W ({ x with f := st.paidF x.f 253 } : YFrm) ⟨st.paidF x.f 253, x.sv, TM'⟩ 1 (readA (st.paidF x.f 253).mem (x.f.arg 0) (x.f.arg 1)) rfl rfl] at k
  exact ynx_lv hO hM k
/-- A plain instruction: HP is one of zp_*. -/
theorem zsPlain (h : YZ O TL w Y F n c d W start st tot (x :: r)) (hph : st.phase = 1) (hpre : x.f.pre = 0) (o : Nat) (ho : o < 256) (hop : x.f.opcode = o) (hr : st.refusal x.f x.f.opcode = 0) (hok1 : FOK { x.f with gas := x.f.gas - st.cost x.f o }) (hre : x.f.reach o ≤ 717280) (hok2 : FOK (st.paidF x.f o)) (hn0 : o ≠ 0 ∧ o ≠ 243 ∧ o ≠ 253 ∧ o ≠ 255) (hfa : famA o ≠ 16) (W' : YW)
    (HP : ∀ O' W1 d' TM', YZ O' TL W1 Y F n c d' W start { st with frames := st.paidF x.f o :: r.map (·.f) } tot (⟨st.paidF x.f o, x.sv, TM'⟩ :: r) → Calls Hvah.prog 76 #[.pointer (some ⟨Y, 0, none⟩), .pointer (some ⟨F, r.length * 60, none⟩), .int .u8 o] W1 fun e w' => e = .returned (.tuple #[]) ∧ YPl O' TL W1 w' Y F n W' start (({ st with frames := st.paidF x.f o :: r.map (·.f) } : ASt).plain (st.paidF x.f o) (r.map (·.f)) o) tot ⟨st.paidF x.f o, x.sv, TM'⟩ r) : Calls Hvah.prog 30 #[.pointer (some ⟨Y, 0, none⟩)] w fun e w' => e = .returned (.bool true) ∧ YNx O w w' Y W' start (st.stepF x.f (r.map (·.f))) tot (fun v => ∃ z ∈ x :: r, v = z.sv) := by
  have hr0 : st.refusal x.f o = 0 := by have := hr; rwa [hop] at this
  refine zStepPlain h hph hpre o ho hop hr0 hok1 hre hok2 _ hn0 hfa (fun W1 k => ?_)
  obtain ⟨O', d', TM', hZ, hO, hM⟩ := k
  refine (HP O' W1 d' TM' hZ).mono ?_
  rintro e w2 ⟨rfl, k⟩
  refine ⟨rfl, ?_⟩
  rw [plain_fr] at k
  have h5 : ¬ (o = 240 ∨ o = 245) := fun q => hfa (by rcases q with q | q <;> rw [q] <;> rfl)
  have e3 : st.stepF x.f (r.map (·.f)) = st.plain (st.paidF x.f o) (r.map (·.f)) o := by
    rw [stepF_go hpre hr, hop, if_neg hn0.1, if_neg hn0.2.1, if_neg hn0.2.2.1, if_neg hn0.2.2.2, if_neg h5, if_neg hfa]
  rw [e3]
  exact ynx_pl (y := ⟨st.paidF x.f o, x.sv, TM'⟩) rfl hO hM k
end
end Go.Proofs.YgvahwGreat
