import Derived.Test.YgvahwGreatYx
import Derived.Test.YgvahwGreatNf
import Derived.Test.YgvahwGreatNd
import Derived.Test.YgvahwGreatYn
namespace Go.Proofs.YgvahwGreat
open Go.RowKit
set_option linter.unusedSimpArgs false
set_option linter.unusedVariables false
section
variable {O O' : Nat → Prop} {w : World} {v : Value} {L : List Nat} {pr : Nat}
theorem yCostS (hO : Small O w) (h : NL O' w v L) (hl : L.length ≤ 717280) (hpr : pr = 4 ∨ pr = 5) {k : Nat} (hc : natCost pr L = some k) : Calls Hvah.prog 143 #[.int .u8 (pr : Nat), v] w fun e w' => ∃ r, e = .returned (.tuple #[r, .bool true]) ∧ NV O w' r k ∧ Ext w w' := by
  rcases hpr with rfl | rfl
  · have e : 15 + 3 * ((L.length + 31) / 32) = k := by
      unfold natCost at hc; simp at hc; rw [← hc]; unfold wordsA; rfl
    rw [← e]
    exact yNatCost4 hO h hl
  · cases hn : natLens L with
    | none => unfold natCost at hc; rw [hn] at hc; simp at hc
    | some t =>
      obtain ⟨b, e, m⟩ := t
      have ek : max 200 ((max b m + 7) / 8 * ((max b m + 7) / 8) * max (nbits (natPart L (96 + b) (min e 32)) - 1 + 8 * (e - 32)) 1 / 3) = k := by
        unfold natCost at hc; rw [hn] at hc; simpa using hc
      rw [← ek]
      exact yNatCost5 hO h hn
theorem yCostN (hO : Small O w) (h : NL O' w v L) (hpr : pr = 4 ∨ pr = 5) (hc : natCost pr L = none) : Calls Hvah.prog 143 #[.int .u8 (pr : Nat), v] w fun e w' => ∃ r, e = .returned (.tuple #[r, .bool false]) ∧ Ext w w' := by
  rcases hpr with rfl | rfl
  · unfold natCost at hc; simp at hc
  · cases hn : natLens L with
    | none => exact yNatCost5n hO h hn
    | some t => unfold natCost at hc; rw [hn] at hc; simp at hc
theorem yRunS (hO : Small O w) (h : NL O' w v L) (hpr : pr = 4 ∨ pr = 5) : Calls Hvah.prog 144 #[.int .u8 (pr : Nat), v] w fun e w' => ∃ r, e = .returned r ∧ NL O w' r (natRun pr L) ∧ Ext w w' := by
  rcases hpr with rfl | rfl
  · have e : natRun 4 L = L := by unfold natRun; simp
    rw [e]; exact yNatRun4 hO h
  · cases hn : natLens L with
    | none =>
      have e : natRun 5 L = [] := by unfold natRun; simp [hn]
      rw [e]; exact yNatRun5n hO h hn
    | some t =>
      obtain ⟨b, e, m⟩ := t
      have ek : natRun 5 L = beL m (dmod (natPart L 96 b ^ natPart L (96 + b) e) (natPart L (96 + b + e) m)) := by unfold natRun; simp [hn]
      rw [ek]; exact yNatRun5 hO h hn
end
section
variable {O TL : Nat → Prop} {w : World} {Y F n : Nat} {c d : Nat → Value} {W : YW} {start : List (Nat × Nat × Nat)} {st : ASt} {tot : Nat} {x : YFrm} {r : List YFrm}
theorem zsNatNone (h : YZ O TL w Y F n c d W start st tot (x :: r)) (hph : st.phase = 1) (hpre : x.f.pre = 4 ∨ x.f.pre = 5) (hil : x.f.input.length ≤ 717280) (hc : natCost x.f.pre x.f.input = none) (hpar : ∀ p r', r = p :: r' → p.f.gas + x.f.gas ≤ 1048576 ∧ p.f.stack.length < 64 ∧ p.f.pc < 60000) : Calls Hvah.prog 30 #[.pointer (some ⟨Y, 0, none⟩)] w fun e w' => e = .returned (.bool true) ∧ YNx O w w' Y (lvW W x 2 []) start (st.stepF x.f (r.map (·.f))) tot (fun v => ∃ z ∈ x :: r, v = z.sv) := by
  obtain ⟨cap, hc9⟩ := zFr h
  have hk : r.length < 1000 := by have := h.few; simp at this; omega
  have hph2 : c 11 = .int .u8 1 := by rw [h.phase, hph]; rfl
  have hpr := h.top.fc.pre
  have hne : x.f.pre ≠ 0 := by rcases hpre with q | q <;> rw [q] <;> decide
  refine yStepNat h.bY hph2 F r.length cap hk hc9 n 156 d h.top.bF h.top.hq x.f.pre hpr hne _ (fun W1 e1 => ?_)
  have h1 := h.ext e1
  refine yNatNone h1.top.bF h1.top.hq x.f.pre h1.top.fc.pre (fun _ _ => True) _ (fun W2 e2 => ?_) (fun W2 e2 => ?_)
  · refine (yCostN (h1.top.ext e2).small (h1.top.ext e2).fc.input hpre hc).mono ?_
    rintro e w3 ⟨rv, rfl, he⟩
    exact ⟨rv, rfl, trivial, he⟩
  refine (zLeave (h1.ext e2) 2 (by decide) (.slice none 0 0) [] NL.nil (by simp) (fun q _ => ?_) hpar).mono ?_
  · have q2 : (createsA x.f.kind && decide (2 = 0)) = true := q
    simp at q2
  rintro e w3 ⟨rfl, k⟩
  refine ⟨rfl, ?_⟩
  have e3 : st.stepF x.f (r.map (·.f)) = st.leave x.f (r.map (·.f)) 2 [] := by unfold ASt.stepF; rw [if_pos hne, hc]
  rw [e3]
  exact ynx_lv (fun b _ => Iff.rfl) ((e1.trans e2).mod _) k
theorem zsNatPoor (h : YZ O TL w Y F n c d W start st tot (x :: r)) (hph : st.phase = 1) (hpre : x.f.pre = 4 ∨ x.f.pre = 5) (hil : x.f.input.length ≤ 717280) (k : Nat) (hc : natCost x.f.pre x.f.input = some k) (hg : x.f.gas < k) (hpar : ∀ p r', r = p :: r' → p.f.gas + x.f.gas ≤ 1048576 ∧ p.f.stack.length < 64 ∧ p.f.pc < 60000) : Calls Hvah.prog 30 #[.pointer (some ⟨Y, 0, none⟩)] w fun e w' => e = .returned (.bool true) ∧ YNx O w w' Y (lvW W x 2 []) start (st.stepF x.f (r.map (·.f))) tot (fun v => ∃ z ∈ x :: r, v = z.sv) := by
  obtain ⟨cap, hc9⟩ := zFr h
  have hk : r.length < 1000 := by have := h.few; simp at this; omega
  have hph2 : c 11 = .int .u8 1 := by rw [h.phase, hph]; rfl
  have hpr := h.top.fc.pre
  have hne : x.f.pre ≠ 0 := by rcases hpre with q | q <;> rw [q] <;> decide
  refine yStepNat h.bY hph2 F r.length cap hk hc9 n 156 d h.top.bF h.top.hq x.f.pre hpr hne _ (fun W1 e1 => ?_)
  have h1 := h.ext e1
  refine yNatPoor h1.top.bF h1.top.hq x.f.pre h1.top.fc.pre (fun cv W2 => NV O W2 cv k) _ (fun W2 e2 => yCostS (h1.top.ext e2).small (h1.top.ext e2).fc.input hil hpre hc) (cmpI k x.f.gas) (fun cv W2 hv e2 => ?_) (by unfold cmpI; rw [if_neg (by omega), if_pos hg]; decide) (fun W2 e2 => ?_)
  · refine (nCmp O _ _ _ _ _ hv (h1.top.ext e2).fc.gas).mono ?_
    rintro e w3 ⟨rfl, hdr⟩
    have he := drew_ext hdr
    exact ⟨rfl, hv.ext he, he⟩
  refine (zLeave (h1.ext e2) 2 (by decide) (.slice none 0 0) [] NL.nil (by simp) (fun q _ => ?_) hpar).mono ?_
  · have q2 : (createsA x.f.kind && decide (2 = 0)) = true := q
    simp at q2
  rintro e w3 ⟨rfl, k3⟩
  refine ⟨rfl, ?_⟩
  have e3 : st.stepF x.f (r.map (·.f)) = st.leave x.f (r.map (·.f)) 2 [] := by unfold ASt.stepF; rw [if_pos hne, hc]; simp [hg]
  rw [e3]
  exact ynx_lv (fun b _ => Iff.rfl) ((e1.trans e2).mod _) k3
theorem zsNatRun (h : YZ O TL w Y F n c d W start st tot (x :: r)) (hph : st.phase = 1) (hpre : x.f.pre = 4 ∨ x.f.pre = 5) (hil : x.f.input.length ≤ 717280) (k : Nat) (hc : natCost x.f.pre x.f.input = some k) (hg : ¬ x.f.gas < k) (hok1 : FOK ({ x.f with gas := x.f.gas - k } : AFrame)) (hlen : (natRun x.f.pre x.f.input).length ≤ 717280) (hcode : lvDep ({ x.f with gas := x.f.gas - k } : AFrame) 0 = true → lvS ({ x.f with gas := x.f.gas - k } : AFrame) 0 (natRun x.f.pre x.f.input) = 0 → YLim (W.setCode x.f.self (natRun x.f.pre x.f.input))) (hpar : ∀ p r', r = p :: r' → p.f.gas + ({ x.f with gas := x.f.gas - k } : AFrame).gas ≤ 1048576 ∧ p.f.stack.length < 64 ∧ p.f.pc < 60000) : Calls Hvah.prog 30 #[.pointer (some ⟨Y, 0, none⟩)] w fun e w' => e = .returned (.bool true) ∧ YNx O w w' Y (lvW W { x with f := ({ x.f with gas := x.f.gas - k } : AFrame) } 0 (natRun x.f.pre x.f.input)) start (st.stepF x.f (r.map (·.f))) tot (fun v => ∃ z ∈ x :: r, v = z.sv) := by
  obtain ⟨cap, hc9⟩ := zFr h
  have hk : r.length < 1000 := by have := h.few; simp at this; omega
  have hph2 : c 11 = .int .u8 1 := by rw [h.phase, hph]; rfl
  have hpr := h.top.fc.pre
  have hne : x.f.pre ≠ 0 := by rcases hpre with q | q <;> rw [q] <;> decide
  refine yStepNat h.bY hph2 F r.length cap hk hc9 n 156 d h.top.bF h.top.hq x.f.pre hpr hne _ (fun W1 e1 => ?_)
  have h1 := h.ext e1
  refine yNatRun h1.top.bF h1.top.hq x.f.pre h1.top.fc.pre (fun cv W2 => NV O W2 cv k) _ (fun W2 e2 => yCostS (h1.top.ext e2).small (h1.top.ext e2).fc.input hil hpre hc) (cmpI k x.f.gas) (fun cv W2 hv e2 => ?_) (by unfold cmpI; rw [if_neg hg]; split <;> decide) (fun gv W2 => NV O W2 gv (x.f.gas - k)) (fun W2 => YPd O TL w W2 Y F n c d W start st x r (x.f.gas - k)) (fun ov W2 => YPd O TL w W2 Y F n c d W start st x r (x.f.gas - k) ∧ NL O W2 ov (natRun x.f.pre x.f.input)) (zLess h1 k) (fun gv W2 W3 hv e2 hB m => zPaid h hok1 gv W2 W3 hv (e1.trans e2) hB m) (fun W2 W3 q e2 => ?_) (fun W2 q => ?_) (fun ov W2 q => ?_)
  · refine (nCmp O _ _ _ _ _ hv (h1.top.ext e2).fc.gas).mono ?_
    rintro e w3 ⟨rfl, hdr⟩
    have he := drew_ext hdr
    exact ⟨rfl, hv.ext he, he⟩
  · obtain ⟨d1, hX, m, hd⟩ := q
    exact ⟨d1, hX.ext e2, m.trans_ext e2, hd⟩
  · obtain ⟨d1, hX, m, hd⟩ := q
    have hin : NL O W2 (d (r.length * 60 + 11)) x.f.input := by
      rw [← hd _ (by omega)]; exact hX.fc.input
    refine (yRunS hX.small hin hpre).mono ?_
    rintro e w3 ⟨rv, rfl, hr, he⟩
    exact ⟨rv, rfl, ⟨d1, hX.ext he, m.trans_ext he, hd⟩, hr⟩
  · obtain ⟨⟨d1, hX, m, hd⟩, hr⟩ := q
    have hZ := h.back hX h.wf (fun b _ => Iff.rfl) (fun b hb => Or.inl hb) (fun b hb => Or.inl hb) (m.sub (fun b hb => Or.inr (Or.inl hb))) (fun i hi => hd i (by omega)) rfl (zNow h).symm
    refine (zLeave hZ 0 (by decide) ov _ hr hlen hcode hpar).mono ?_
    rintro e w3 ⟨rfl, k3⟩
    refine ⟨rfl, ?_⟩
    have e3 : st.stepF x.f (r.map (·.f)) = st.leave ({ x.f with gas := x.f.gas - k } : AFrame) (r.map (·.f)) 0 (natRun x.f.pre x.f.input) := by unfold ASt.stepF; rw [if_pos hne, hc]; simp [hg]
    rw [e3]
    rw [leave_frx] at k3
    exact ynx_lv (fun b _ => Iff.rfl) (m.sub (fun b (hb : b = F) => hb ▸ h.oF)) k3
end
end Go.Proofs.YgvahwGreat
