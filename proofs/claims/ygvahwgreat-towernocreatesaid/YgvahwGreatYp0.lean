import Derived.Test.YgvahwGreatYe
import Derived.Test.YgvahwGreatYx
import Derived.Test.YgvahwGreatYq
import Derived.Test.YgvahwGreatYm2
import Derived.Test.YgvahwGreatYm3
namespace Go.Proofs.YgvahwGreat
open Go.RowKit
set_option linter.unusedSimpArgs false
set_option linter.unusedVariables false
section
variable {O TL : Nat → Prop} {w : World} {Y F n : Nat} {c d : Nat → Value} {W : YW} {start : List (Nat × Nat × Nat)} {st : ASt} {tot : Nat} {x : YFrm} {r : List YFrm}

theorem zBackC {B : Nat} {W1 : World} {c1 d1 : Nat → Value} {W' : YW} {A : AW} {f' : AFrame} (h : YZ O TL w Y F n c d W start st tot (x :: r)) (hB : w.heap.size ≤ B) (hX : YX c (Wd O B) x.TM TL W1 Y F (r.length * 60) n 156 c1 d1 W' start { st with now := A } f') (hA : A = W'.abs) (hwf : W'.WF) (m : Mod (fun b => b = Y ∨ b = F) w W1) (hd : ∀ i, i < r.length * 60 ∨ r.length * 60 + 52 ≤ i → d1 i = d i) (hsv : f'.saved = x.f.saved) :
    YZ (Wd O B) TL W1 Y F n c1 d1 W' start { st with now := A, frames := f' :: r.map (·.f) } tot (⟨f', x.sv, x.TM⟩ :: r) ∧ (∀ b, b < w.heap.size → (Wd O B b ↔ O b)) ∧ Mod O w W1 := by
  have hO : ∀ b, b < w.heap.size → (Wd O B b ↔ O b) := fun b hb => ⟨fun q => q.elim id (fun e => by omega), Or.inl⟩
  refine ⟨h.back hX hwf hO (fun _ q => Or.inl q) (fun _ q => Or.inl q) (m.sub (fun b hb => hb.elim Or.inl (fun q => Or.inr (Or.inl q)))) hd hsv (by rw [hA]), hO, m.sub (fun b hb => ?_)⟩
  rcases hb with rfl | rfl
  · exact h.oY
  · exact h.oF
theorem zBackN {W1 : World} {c1 d1 : Nat → Value} {W' : YW} {A : AW} {f' : AFrame} (h : YZ O TL w Y F n c d W start st tot (x :: r)) (hX : YX c O x.TM TL W1 Y F (r.length * 60) n 156 c1 d1 W' start { st with now := A } f') (hA : A = W'.abs) (hwf : W'.WF) (m : Mod (fun b => b = Y ∨ b = F) w W1) (hd : ∀ i, i < r.length * 60 ∨ r.length * 60 + 52 ≤ i → d1 i = d i) (hsv : f'.saved = x.f.saved) :
    YZ O TL W1 Y F n c1 d1 W' start { st with now := A, frames := f' :: r.map (·.f) } tot (⟨f', x.sv, x.TM⟩ :: r) ∧ Mod O w W1 := by
  refine ⟨h.back hX hwf (fun _ _ => Iff.rfl) (fun _ q => Or.inl q) (fun _ q => Or.inl q) (m.sub (fun b hb => hb.elim Or.inl (fun q => Or.inr (Or.inl q)))) hd hsv (by rw [hA]), m.sub (fun b hb => ?_)⟩
  rcases hb with rfl | rfl
  · exact h.oY
  · exact h.oF
theorem ynxEnt {O1 : Nat → Prop} {W1 w2 : World} {n1 : Nat} {c1 d1 : Nat → Value} {W1' W2 V : YW} {st1 st2 : ASt} {f' g : AFrame} {S : YW → Prop} (hz : YZ O1 TL W1 Y F n1 c1 d1 W1' start st1 tot (⟨f', x.sv, x.TM⟩ :: r)) (hO : ∀ b, b < w.heap.size → (O1 b ↔ O b)) (hM : Mod O w W1) (hE : YEnt O1 TL W1 w2 Y F W2 start st2 tot (⟨g, V, fun _ => False⟩ :: ⟨f', x.sv, x.TM⟩ :: r)) (hS : S V) (hS2 : ∀ z ∈ x :: r, S z.sv) (hYO : O Y) (hFO : O F) : YNx O w w2 Y W2 start st2 tot S := by
  obtain ⟨O', F', n', c', d', hY, hO2, hm⟩ := hE
  refine ⟨O', TL, F', n', c', d', _, hY, fun b hb => (hO2 b (Nat.lt_of_lt_of_le hb hM.size)).trans (hO b hb), hM.trans (hm.sub (fun b hb => ?_)), fun y hy => ?_⟩
  · rcases hb with rfl | rfl
    · exact hYO
    · exact hFO
  · rcases List.mem_cons.1 hy with e | hy
    · rw [e]; exact hS
    · rcases List.mem_cons.1 hy with e | hy
      · rw [e]; exact hS2 x (by simp)
      · exact hS2 y (by simp [hy])
theorem ynxBack {O1 : Nat → Prop} {W1 : World} {c1 d1 : Nat → Value} {W1' : YW} {st1 : ASt} {f' : AFrame} {S : YW → Prop} (hz : YZ O1 TL W1 Y F n c1 d1 W1' start st1 tot (⟨f', x.sv, x.TM⟩ :: r)) (hO : ∀ b, b < w.heap.size → (O1 b ↔ O b)) (hM : Mod O w W1) (hS2 : ∀ z ∈ x :: r, S z.sv) : YNx O w W1 Y W1' start st1 tot S :=
  ⟨O1, TL, F, n, c1, d1, _, hz, hO, hM, fun y hy => by
    rcases List.mem_cons.1 hy with e | hy
    · rw [e]; exact hS2 x (by simp)
    · exact hS2 y (by simp [hy])⟩
theorem zFr9 (h : YZ O TL w Y F n c d W start st tot (x :: r)) : ∃ cap, c 9 = .slice (some ⟨F, 0, none⟩) (r.length + 1) cap := by
  rcases h.fv with q | ⟨cap, q, _⟩
  · simp at q
  · exact ⟨cap, q⟩
theorem ret_nil {st : ASt} (hret : st.ret = []) (A : AW) (l : List AFrame) : ({ st with now := A, frames := l } : ASt) = { st with now := A, ret := [], frames := l } := by
  cases st; simp only at hret; subst hret; rfl
end
section
variable {st : ASt} {f : AFrame} {rest : List AFrame}
theorem enterCall_poor (o : Nat) (hc : 6 ≤ rest.length ∨ st.now.bal f.self < callV f o) : st.enterCall f rest o = { st with now := st.now.warm (addrA (f.arg 1)), ret := [], frames := ({ f with gas := f.gas - sentA f.gas (f.arg 0) + callG f o }).settle (takesA o) [0] 1 :: rest } := by
  unfold ASt.enterCall; exact if_pos hc
theorem enterCall_go (o : Nat) (hc : ¬ (6 ≤ rest.length ∨ st.now.bal f.self < callV f o)) : st.enterCall f rest o = ({ st with now := st.now.warm (addrA (f.arg 1)), frames := callP f o :: rest } : ASt).enter (callC (st.now.warm (addrA (f.arg 1))) f o (st.now.code (addrA (f.arg 1)))) := by
  unfold ASt.enterCall; exact if_neg hc
theorem enterCall_ret (o : Nat) (l : List AFrame) : ({ st with frames := l, ret := [] } : ASt).enterCall f rest o = st.enterCall f rest o := by
  unfold ASt.enterCall
  simp only
  split <;> rfl
theorem enterCreate_poor (o : Nat) (hc : 6 ≤ rest.length ∨ st.now.bal f.self < f.arg 0 ∨ 18446744073709551615 ≤ st.now.nonce f.self) : st.enterCreate f rest o = { st with ret := [], frames := f.settle (takesA o) [0] 1 :: rest } := by
  unfold ASt.enterCreate; exact if_pos hc
/-- The world of a creation. -/
def makeNow (now : AW) (f : AFrame) (o : Nat) : AW := (now.setNonce f.self (now.nonce f.self + 1)).warm (makeS f o (now.nonce f.self))
theorem enterCreate_taken (o : Nat) (hc : ¬ (6 ≤ rest.length ∨ st.now.bal f.self < f.arg 0 ∨ 18446744073709551615 ≤ st.now.nonce f.self)) (ht : (makeNow st.now f o).nonce (makeS f o (st.now.nonce f.self)) ≠ 0 ∨ (makeNow st.now f o).code (makeS f o (st.now.nonce f.self)) ≠ []) : st.enterCreate f rest o = { st with now := makeNow st.now f o, ret := [], frames := ({ f with gas := f.gas - sentA f.gas f.gas }).settle (takesA o) [0] 1 :: rest } := by
  unfold ASt.enterCreate; exact (if_neg hc).trans (if_pos ht)
theorem enterCreate_go (o : Nat) (hc : ¬ (6 ≤ rest.length ∨ st.now.bal f.self < f.arg 0 ∨ 18446744073709551615 ≤ st.now.nonce f.self)) (ht : ¬ ((makeNow st.now f o).nonce (makeS f o (st.now.nonce f.self)) ≠ 0 ∨ (makeNow st.now f o).code (makeS f o (st.now.nonce f.self)) ≠ [])) : st.enterCreate f rest o = ({ st with now := makeNow st.now f o, ret := [], frames := makeP f o :: rest } : ASt).enter (makeC (makeNow st.now f o) f o (st.now.nonce f.self)) := by
  unfold ASt.enterCreate; exact (if_neg hc).trans (if_neg ht)
theorem enterCreate_ret (o : Nat) (l : List AFrame) : ({ st with frames := l, ret := [] } : ASt).enterCreate f rest o = st.enterCreate f rest o := by
  unfold ASt.enterCreate
  rfl
end
end Go.Proofs.YgvahwGreat
