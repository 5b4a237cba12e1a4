import Derived.Test.YgvahwGreatYx
namespace Go.Proofs.YgvahwGreat
open Go.RowKit
set_option linter.unusedSimpArgs false
set_option linter.unusedVariables false
section
variable {O TL : Nat → Prop} {w : World} {Y F n : Nat} {c d : Nat → Value} {W : YW} {start : List (Nat × Nat × Nat)} {st : ASt} {tot : Nat} {x : YFrm} {r : List YFrm}
theorem zsDestroys00 (h : YZ O TL w Y F n c d W start st tot (x :: r)) (hph : st.phase = 1) (hpre : x.f.pre = 0) (hop : x.f.opcode = 255) (hr : st.refusal x.f x.f.opcode = 0) (hok1 : FOK { x.f with gas := x.f.gas - st.cost x.f 255 }) (hre : x.f.reach 255 ≤ 717280) (hok2 : FOK (st.paidF x.f 255)) (t : Nat) (ht : addrA (x.f.arg 0) = t) (hl0 : YLim (W.warm t)) (hne : t = x.f.self) (hli : ¬ x.f.self ∈ (W.warm t).made) (hcode : lvDep (st.paidF x.f 255) 0 = true → lvS (st.paidF x.f 255) 0 [] = 0 → YLim ((W.warm t).setCode x.f.self [])) (hpar : ∀ p r', r = p :: r' → p.f.gas + (st.paidF x.f 255).gas ≤ 1048576 ∧ p.f.stack.length < 64 ∧ p.f.pc < 60000) : Calls Hvah.prog 30 #[.pointer (some ⟨Y, 0, none⟩)] w fun e w' => e = .returned (.bool true) ∧ YNx O w w' Y (lvW (W.warm t) ({ x with f := st.paidF x.f 255 } : YFrm) 0 []) start (st.stepF x.f (r.map (·.f))) tot (fun v => ∃ z ∈ x :: r, v = z.sv) := by
  have hr0 : st.refusal x.f 255 = 0 := by have := hr; rwa [hop] at this
  have ewa : (W.warm t).abs = st.now.warm t := by rw [YW.warm_abs, h.now]
  have ewu : (W.warm t).abs = (st.now.warm t) := ewa
  have emd : ((st.now.warm t)).made x.f.self = false := by rw [← ewu]; simp [YW.abs, hli]
  have e3 : st.stepF x.f (r.map (·.f)) = ({ st with now := (st.now.warm t) } : ASt).leave (st.paidF x.f 255) (r.map (·.f)) 0 [] := by
    rw [stepF_go hpre hr, hop]
    simp only [show ¬ (255 = 0) by decide, show ¬ (255 = 243) by decide, show ¬ (255 = 253) by decide, if_false, if_true]
    unfold ASt.destroys
    have ha : addrA ((st.paidF x.f 255).arg 0) = t := ht
    have hs : (st.paidF x.f 255).self = x.f.self := rfl
    simp only [ha, hs, if_pos hne, emd, Bool.false_eq_true, if_false]
  refine zStepDestroys h hph hpre hop hr0 hok1 hre hok2 _ (fun W1 k => ?_)
  obtain ⟨O', d', TM', hZ, hO, hM⟩ := k
  refine zDestroys00 hZ t ht hl0 hne hli _ (fun w' c' hZ2 m2 => ?_)
  refine (zLeave hZ2 0 (by decide) (.slice none 0 0) [] NL.nil (by simp) hcode hpar).mono ?_
  rintro e w3 ⟨rfl, k⟩
  refine ⟨rfl, ?_⟩
  rw [e3]
  have k2 : YLv O' TL w' w3 Y F n (lvW (W.warm t) ({ x with f := st.paidF x.f 255 } : YFrm) 0 []) start (({ st with now := (st.now.warm t) } : ASt).leave (st.paidF x.f 255) (r.map (·.f)) 0 []) tot r := by
    rw [← leave_frx _ (st.paidF x.f 255 :: r.map (·.f))]
    rw [← lvW_tm (W.warm t) ({ x with f := st.paidF x.f 255 } : YFrm) ⟨st.paidF x.f 255, x.sv, TM'⟩ 0 [] rfl rfl]
    exact k
  exact ynx_lv hO (hM.trans' m2 (fun i (hi : i = Y) => Or.inl (hi ▸ h.oY))) k2
theorem zsDestroys01 (h : YZ O TL w Y F n c d W start st tot (x :: r)) (hph : st.phase = 1) (hpre : x.f.pre = 0) (hop : x.f.opcode = 255) (hr : st.refusal x.f x.f.opcode = 0) (hok1 : FOK { x.f with gas := x.f.gas - st.cost x.f 255 }) (hre : x.f.reach 255 ≤ 717280) (hok2 : FOK (st.paidF x.f 255)) (t : Nat) (ht : addrA (x.f.arg 0) = t) (hl0 : YLim (W.warm t)) (hne : t = x.f.self) (hli : x.f.self ∈ (W.warm t).made) (hl3 : YLim ((W.warm t).markGone x.f.self)) (hcode : lvDep (st.paidF x.f 255) 0 = true → lvS (st.paidF x.f 255) 0 [] = 0 → YLim (((W.warm t).markGone x.f.self).setCode x.f.self [])) (hpar : ∀ p r', r = p :: r' → p.f.gas + (st.paidF x.f 255).gas ≤ 1048576 ∧ p.f.stack.length < 64 ∧ p.f.pc < 60000) : Calls Hvah.prog 30 #[.pointer (some ⟨Y, 0, none⟩)] w fun e w' => e = .returned (.bool true) ∧ YNx O w w' Y (lvW ((W.warm t).markGone x.f.self) ({ x with f := st.paidF x.f 255 } : YFrm) 0 []) start (st.stepF x.f (r.map (·.f))) tot (fun v => ∃ z ∈ x :: r, v = z.sv) := by
  have hr0 : st.refusal x.f 255 = 0 := by have := hr; rwa [hop] at this
  have ewa : (W.warm t).abs = st.now.warm t := by rw [YW.warm_abs, h.now]
  have ewu : (W.warm t).abs = (st.now.warm t) := ewa
  have emd : ((st.now.warm t)).made x.f.self = true := by rw [← ewu]; simp [YW.abs, hli]
  have e3 : st.stepF x.f (r.map (·.f)) = ({ st with now := ((st.now.warm t).markGone x.f.self) } : ASt).leave (st.paidF x.f 255) (r.map (·.f)) 0 [] := by
    rw [stepF_go hpre hr, hop]
    simp only [show ¬ (255 = 0) by decide, show ¬ (255 = 243) by decide, show ¬ (255 = 253) by decide, if_false, if_true]
    unfold ASt.destroys
    have ha : addrA ((st.paidF x.f 255).arg 0) = t := ht
    have hs : (st.paidF x.f 255).self = x.f.self := rfl
    simp only [ha, hs, if_pos hne, emd, if_true]
  refine zStepDestroys h hph hpre hop hr0 hok1 hre hok2 _ (fun W1 k => ?_)
  obtain ⟨O', d', TM', hZ, hO, hM⟩ := k
  refine zDestroys01 hZ t ht hl0 hne hli hl3 _ (fun w' c' hZ2 m2 => ?_)
  refine (zLeave hZ2 0 (by decide) (.slice none 0 0) [] NL.nil (by simp) hcode hpar).mono ?_
  rintro e w3 ⟨rfl, k⟩
  refine ⟨rfl, ?_⟩
  rw [e3]
  have k2 : YLv O' TL w' w3 Y F n (lvW ((W.warm t).markGone x.f.self) ({ x with f := st.paidF x.f 255 } : YFrm) 0 []) start (({ st with now := ((st.now.warm t).markGone x.f.self) } : ASt).leave (st.paidF x.f 255) (r.map (·.f)) 0 []) tot r := by
    rw [← leave_frx _ (st.paidF x.f 255 :: r.map (·.f))]
    rw [← lvW_tm ((W.warm t).markGone x.f.self) ({ x with f := st.paidF x.f 255 } : YFrm) ⟨st.paidF x.f 255, x.sv, TM'⟩ 0 [] rfl rfl]
    exact k
  exact ynx_lv hO (hM.trans' m2 (fun i (hi : i = Y) => Or.inl (hi ▸ h.oY))) k2
theorem zsDestroys10 (h : YZ O TL w Y F n c d W start st tot (x :: r)) (hph : st.phase = 1) (hpre : x.f.pre = 0) (hop : x.f.opcode = 255) (hr : st.refusal x.f x.f.opcode = 0) (hok1 : FOK { x.f with gas := x.f.gas - st.cost x.f 255 }) (hre : x.f.reach 255 ≤ 717280) (hok2 : FOK (st.paidF x.f 255)) (t : Nat) (ht : addrA (x.f.arg 0) = t) (hl0 : YLim (W.warm t)) (hne : ¬ t = x.f.self) (hl1 : YLim ((W.warm t).setBal x.f.self (((W.warm t).acct x.f.self).bal - ((W.warm t).acct x.f.self).bal))) (hl2 : YLim ((W.warm t).move x.f.self t ((W.warm t).acct x.f.self).bal)) (hli : ¬ x.f.self ∈ ((W.warm t).move x.f.self t ((W.warm t).acct x.f.self).bal).made) (hcode : lvDep (st.paidF x.f 255) 0 = true → lvS (st.paidF x.f 255) 0 [] = 0 → YLim (((W.warm t).move x.f.self t ((W.warm t).acct x.f.self).bal).setCode x.f.self [])) (hpar : ∀ p r', r = p :: r' → p.f.gas + (st.paidF x.f 255).gas ≤ 1048576 ∧ p.f.stack.length < 64 ∧ p.f.pc < 60000) : Calls Hvah.prog 30 #[.pointer (some ⟨Y, 0, none⟩)] w fun e w' => e = .returned (.bool true) ∧ YNx O w w' Y (lvW ((W.warm t).move x.f.self t ((W.warm t).acct x.f.self).bal) ({ x with f := st.paidF x.f 255 } : YFrm) 0 []) start (st.stepF x.f (r.map (·.f))) tot (fun v => ∃ z ∈ x :: r, v = z.sv) := by
  have hr0 : st.refusal x.f 255 = 0 := by have := hr; rwa [hop] at this
  have ewa : (W.warm t).abs = st.now.warm t := by rw [YW.warm_abs, h.now]
  have ebal : (st.now.warm t).bal x.f.self = ((W.warm t).acct x.f.self).bal := by rw [← ewa]; rfl
  have ewu : ((W.warm t).move x.f.self t ((W.warm t).acct x.f.self).bal).abs = ((st.now.warm t).move x.f.self t ((W.warm t).acct x.f.self).bal) := by rw [YW.move_abs, ewa]
  have emd : (((st.now.warm t).move x.f.self t ((W.warm t).acct x.f.self).bal)).made x.f.self = false := by rw [← ewu]; simp [YW.abs, hli]
  have e3 : st.stepF x.f (r.map (·.f)) = ({ st with now := ((st.now.warm t).move x.f.self t ((W.warm t).acct x.f.self).bal) } : ASt).leave (st.paidF x.f 255) (r.map (·.f)) 0 [] := by
    rw [stepF_go hpre hr, hop]
    simp only [show ¬ (255 = 0) by decide, show ¬ (255 = 243) by decide, show ¬ (255 = 253) by decide, if_false, if_true]
    unfold ASt.destroys
    have ha : addrA ((st.paidF x.f 255).arg 0) = t := ht
    have hs : (st.paidF x.f 255).self = x.f.self := rfl
    simp only [ha, hs, if_neg hne, ebal, emd, Bool.false_eq_true, if_false]
  refine zStepDestroys h hph hpre hop hr0 hok1 hre hok2 _ (fun W1 k => ?_)
  obtain ⟨O', d', TM', hZ, hO, hM⟩ := k
  refine zDestroys10 hZ t ht hl0 hne hl1 hl2 hli _ (fun w' c' hZ2 m2 => ?_)
  refine (zLeave hZ2 0 (by decide) (.slice none 0 0) [] NL.nil (by simp) hcode hpar).mono ?_
  rintro e w3 ⟨rfl, k⟩
  refine ⟨rfl, ?_⟩
  rw [e3]
  have k2 : YLv O' TL w' w3 Y F n (lvW ((W.warm t).move x.f.self t ((W.warm t).acct x.f.self).bal) ({ x with f := st.paidF x.f 255 } : YFrm) 0 []) start (({ st with now := ((st.now.warm t).move x.f.self t ((W.warm t).acct x.f.self).bal) } : ASt).leave (st.paidF x.f 255) (r.map (·.f)) 0 []) tot r := by
    rw [← leave_frx _ (st.paidF x.f 255 :: r.map (·.f))]
    rw [← lvW_tm ((W.warm t).move x.f.self t ((W.warm t).acct x.f.self).bal) ({ x with f := st.paidF x.f 255 } : YFrm) ⟨st.paidF x.f 255, x.sv, TM'⟩ 0 [] rfl rfl]
    exact k
  exact ynx_lv hO (hM.trans' m2 (fun i (hi : i = Y) => Or.inl (hi ▸ h.oY))) k2
theorem zsDestroys11 (h : YZ O TL w Y F n c d W start st tot (x :: r)) (hph : st.phase = 1) (hpre : x.f.pre = 0) (hop : x.f.opcode = 255) (hr : st.refusal x.f x.f.opcode = 0) (hok1 : FOK { x.f with gas := x.f.gas - st.cost x.f 255 }) (hre : x.f.reach 255 ≤ 717280) (hok2 : FOK (st.paidF x.f 255)) (t : Nat) (ht : addrA (x.f.arg 0) = t) (hl0 : YLim (W.warm t)) (hne : ¬ t = x.f.self) (hl1 : YLim ((W.warm t).setBal x.f.self (((W.warm t).acct x.f.self).bal - ((W.warm t).acct x.f.self).bal))) (hl2 : YLim ((W.warm t).move x.f.self t ((W.warm t).acct x.f.self).bal)) (hli : x.f.self ∈ ((W.warm t).move x.f.self t ((W.warm t).acct x.f.self).bal).made) (hl3 : YLim (((W.warm t).move x.f.self t ((W.warm t).acct x.f.self).bal).markGone x.f.self)) (hcode : lvDep (st.paidF x.f 255) 0 = true → lvS (st.paidF x.f 255) 0 [] = 0 → YLim ((((W.warm t).move x.f.self t ((W.warm t).acct x.f.self).bal).markGone x.f.self).setCode x.f.self [])) (hpar : ∀ p r', r = p :: r' → p.f.gas + (st.paidF x.f 255).gas ≤ 1048576 ∧ p.f.stack.length < 64 ∧ p.f.pc < 60000) : Calls Hvah.prog 30 #[.pointer (some ⟨Y, 0, none⟩)] w fun e w' => e = .returned (.bool true) ∧ YNx O w w' Y (lvW (((W.warm t).move x.f.self t ((W.warm t).acct x.f.self).bal).markGone x.f.self) ({ x with f := st.paidF x.f 255 } : YFrm) 0 []) start (st.stepF x.f (r.map (·.f))) tot (fun v => ∃ z ∈ x :: r, v = z.sv) := by
  have hr0 : st.refusal x.f 255 = 0 := by have := hr; rwa [hop] at this
  have ewa : (W.warm t).abs = st.now.warm t := by rw [YW.warm_abs, h.now]
  have ebal : (st.now.warm t).bal x.f.self = ((W.warm t).acct x.f.self).bal := by rw [← ewa]; rfl
  have ewu : ((W.warm t).move x.f.self t ((W.warm t).acct x.f.self).bal).abs = ((st.now.warm t).move x.f.self t ((W.warm t).acct x.f.self).bal) := by rw [YW.move_abs, ewa]
  have emd : (((st.now.warm t).move x.f.self t ((W.warm t).acct x.f.self).bal)).made x.f.self = true := by rw [← ewu]; simp [YW.abs, hli]
  have e3 : st.stepF x.f (r.map (·.f)) = ({ st with now := (((st.now.warm t).move x.f.self t ((W.warm t).acct x.f.self).bal).markGone x.f.self) } : ASt).leave (st.paidF x.f 255) (r.map (·.f)) 0 [] := by
    rw [stepF_go hpre hr, hop]
    simp only [show ¬ (255 = 0) by decide, show ¬ (255 = 243) by decide, show ¬ (255 = 253) by decide, if_false, if_true]
    unfold ASt.destroys
    have ha : addrA ((st.paidF x.f 255).arg 0) = t := ht
    have hs : (st.paidF x.f 255).self = x.f.self := rfl
    simp only [ha, hs, if_neg hne, ebal, emd, if_true]
  refine zStepDestroys h hph hpre hop hr0 hok1 hre hok2 _ (fun W1 k => ?_)
  obtain ⟨O', d', TM', hZ, hO, hM⟩ := k
  refine zDestroys11 hZ t ht hl0 hne hl1 hl2 hli hl3 _ (fun w' c' hZ2 m2 => ?_)
  refine (zLeave hZ2 0 (by decide) (.slice none 0 0) [] NL.nil (by simp) hcode hpar).mono ?_
  rintro e w3 ⟨rfl, k⟩
  refine ⟨rfl, ?_⟩
  rw [e3]
  have k2 : YLv O' TL w' w3 Y F n (lvW (((W.warm t).move x.f.self t ((W.warm t).acct x.f.self).bal).markGone x.f.self) ({ x with f := st.paidF x.f 255 } : YFrm) 0 []) start (({ st with now := (((st.now.warm t).move x.f.self t ((W.warm t).acct x.f.self).bal).markGone x.f.self) } : ASt).leave (st.paidF x.f 255) (r.map (·.f)) 0 []) tot r := by
    rw [← leave_frx _ (st.paidF x.f 255 :: r.map (·.f))]
    rw [← lvW_tm (((W.warm t).move x.f.self t ((W.warm t).acct x.f.self).bal).markGone x.f.self) ({ x with f := st.paidF x.f 255 } : YFrm) ⟨st.paidF x.f 255, x.sv, TM'⟩ 0 [] rfl rfl]
    exact k
  exact ynx_lv hO (hM.trans' m2 (fun i (hi : i = Y) => Or.inl (hi ▸ h.oY))) k2
end
end Go.Proofs.YgvahwGreat
