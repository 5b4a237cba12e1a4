import Derived.Test.YgvahwGreatYu
namespace Go.Proofs.YgvahwGreat
open Go.RowKit
set_option linter.unusedSimpArgs false
set_option linter.unusedVariables false
section
variable {kk : Nat → Value} {O TM TL : Nat → Prop} {w : World} {Y F q n : Nat} {tF : TypeId} {c d : Nat → Value} {W : YW} {start : List (Nat × Nat × Nat)} {st : ASt} {f : AFrame}
set_option maxRecDepth 100000 in
set_option maxHeartbeats 6400000 in
theorem yEffN80 {vg : Value} {args : List Nat} (hA : NumL O w vg args) : Calls Hvah.prog 162 #[.pointer (some ⟨Y, 0, none⟩), .pointer (some ⟨F, q, none⟩), .int .u8 80, vg] w fun e w' => e = .returned (.bool true) ∧ Ext w w' := by
  go_enter Hvah.func162, Hvah.ntmps162
  go_wp2_with (go_at_call 237; refine (yOperand _ (NumL.ext hA (by (repeat (first | with_reducible exact Ext.refl _ | with_reducible assumption | refine Ext.trans ?_ (by with_reducible assumption) | refine Ext.alloc ?_ _ _ | refine Ext.drew ?_ | refine Ext.drewN ?_ _)))) _).mono ?_; rintro e w1 ⟨r, rfl, hr, hww⟩; replace hww := hww.symm; subst hww)
  go_ret
  exact ⟨rfl, Ext.refl _⟩
set_option maxRecDepth 100000 in
set_option maxHeartbeats 6400000 in
theorem yEffN87 {vg : Value} {args : List Nat} (hA : NumL O w vg args) : Calls Hvah.prog 162 #[.pointer (some ⟨Y, 0, none⟩), .pointer (some ⟨F, q, none⟩), .int .u8 87, vg] w fun e w' => e = .returned (.bool true) ∧ Ext w w' := by
  go_enter Hvah.func162, Hvah.ntmps162
  go_wp2_with (go_at_call 237; refine (yOperand _ (NumL.ext hA (by (repeat (first | with_reducible exact Ext.refl _ | with_reducible assumption | refine Ext.trans ?_ (by with_reducible assumption) | refine Ext.alloc ?_ _ _ | refine Ext.drew ?_ | refine Ext.drewN ?_ _)))) _).mono ?_; rintro e w1 ⟨r, rfl, hr, hww⟩; replace hww := hww.symm; subst hww)
  go_ret
  exact ⟨rfl, Ext.refl _⟩
set_option maxRecDepth 100000 in
set_option maxHeartbeats 6400000 in
theorem yEffN91 {vg : Value} {args : List Nat} (hA : NumL O w vg args) : Calls Hvah.prog 162 #[.pointer (some ⟨Y, 0, none⟩), .pointer (some ⟨F, q, none⟩), .int .u8 91, vg] w fun e w' => e = .returned (.bool true) ∧ Ext w w' := by
  go_enter Hvah.func162, Hvah.ntmps162
  go_wp2_with (go_at_call 237; refine (yOperand _ (NumL.ext hA (by (repeat (first | with_reducible exact Ext.refl _ | with_reducible assumption | refine Ext.trans ?_ (by with_reducible assumption) | refine Ext.alloc ?_ _ _ | refine Ext.drew ?_ | refine Ext.drewN ?_ _)))) _).mono ?_; rintro e w1 ⟨r, rfl, hr, hww⟩; replace hww := hww.symm; subst hww)
  go_ret
  exact ⟨rfl, Ext.refl _⟩
end
section
variable {O TL : Nat → Prop} {w : World} {Y F n : Nat} {c d : Nat → Value} {W : YW} {start : List (Nat × Nat × Nat)} {st : ASt} {tot : Nat} {x : YFrm} {r : List YFrm}
theorem zPlF {w' : World} {d' : Nat → Value} {f' : AFrame} (h : YZ O TL w Y F n c d W start st tot (x :: r)) (hX : YX c O x.TM TL w' Y F (r.length * 60) n 156 c d' W start st f') (m : Mod (· = F) w w') (hd : ∀ i, i ≠ r.length * 60 + 8 → i ≠ r.length * 60 + 3 → d' i = d i) (hsv : f'.saved = x.f.saved) : YPl O TL w w' Y F n W start { st with frames := f' :: r.map (·.f) } tot x r := by
  rw [← zNow h] at hX
  have k := zPlOf h hX h.wf (m.sub (fun b hb => Or.inr (Or.inl hb))) hd hsv
  have e3 : ({ st with now := W.abs, frames := f' :: r.map (·.f) } : ASt) = { st with frames := f' :: r.map (·.f) } := by rw [← h.now]
  rw [e3] at k
  exact k
theorem zp_80 (h : YZ O TL w Y F n c d W start st tot (x :: r)) (hT : takesA 80 ≤ x.f.stack.length) (hok1 : FOK { x.f with stack := x.f.stack.drop (takesA 80) }) (hok' : FOK (x.f.settle (takesA 80) [] 1)) : Calls Hvah.prog 76 #[.pointer (some ⟨Y, 0, none⟩), .pointer (some ⟨F, r.length * 60, none⟩), .int .u8 80] w fun e w' => e = .returned (.tuple #[]) ∧ YPl O TL w w' Y F n W start (st.plain x.f (r.map (·.f)) 80) tot x r := by
  have ew : W.abs = st.now := h.now.symm
  exact zPlE1 h 80 (by decide) (by decide) (by decide) (by decide) rfl hT W h.wf x.f rfl rfl rfl (fun W1 vg hX hN => by
    rw [ew]
    refine (yEffN80 hN).mono ?_
    rintro e w2 ⟨h1, h2⟩
    exact ⟨c, h1, hX.ext h2, h2.mod _⟩) hok1 hok' rfl (by unfold ASt.plain ASt.effectMem ASt.effectWorld; simp [show givesA 80 = 0 from rfl, show takesA 80 = 1 from rfl, ew])
theorem zp_91 (h : YZ O TL w Y F n c d W start st tot (x :: r)) (hT : takesA 91 ≤ x.f.stack.length) (hok1 : FOK { x.f with stack := x.f.stack.drop (takesA 91) }) (hok' : FOK (x.f.settle (takesA 91) [] 1)) : Calls Hvah.prog 76 #[.pointer (some ⟨Y, 0, none⟩), .pointer (some ⟨F, r.length * 60, none⟩), .int .u8 91] w fun e w' => e = .returned (.tuple #[]) ∧ YPl O TL w w' Y F n W start (st.plain x.f (r.map (·.f)) 91) tot x r := by
  have ew : W.abs = st.now := h.now.symm
  exact zPlE1 h 91 (by decide) (by decide) (by decide) (by decide) rfl hT W h.wf x.f rfl rfl rfl (fun W1 vg hX hN => by
    rw [ew]
    refine (yEffN91 hN).mono ?_
    rintro e w2 ⟨h1, h2⟩
    exact ⟨c, h1, hX.ext h2, h2.mod _⟩) hok1 hok' rfl (by unfold ASt.plain ASt.effectMem ASt.effectWorld; simp [show givesA 91 = 0 from rfl, show takesA 91 = 0 from rfl, ew])
theorem zp_86 (h : YZ O TL w Y F n c d W start st tot (x :: r)) (hT : takesA 86 ≤ x.f.stack.length) (hok1 : FOK { x.f with stack := x.f.stack.drop (takesA 86) }) (hok' : FOK { x.f with stack := x.f.stack.drop (takesA 86), pc := x.f.arg 0 }) : Calls Hvah.prog 76 #[.pointer (some ⟨Y, 0, none⟩), .pointer (some ⟨F, r.length * 60, none⟩), .int .u8 86] w fun e w' => e = .returned (.tuple #[]) ∧ YPl O TL w w' Y F n W start (st.plain x.f (r.map (·.f)) 86) tot x r := by
  refine (xPlainJ86 h.top hT hok1 hok').mono ?_
  rintro e w2 ⟨h1, d', hX, m, hd⟩
  refine ⟨h1, ?_⟩
  have k := zPlF h hX m hd rfl
  have e3 : st.plain x.f (r.map (·.f)) 86 = { st with frames := { x.f with stack := x.f.stack.drop (takesA 86), pc := x.f.arg 0 } :: r.map (·.f) } := by unfold ASt.plain; rw [if_pos (Or.inl rfl)]
  rw [e3]; exact k
theorem zp_87t (h : YZ O TL w Y F n c d W start st tot (x :: r)) (hT : takesA 87 ≤ x.f.stack.length) (harg : x.f.arg 1 ≠ 0) (hok1 : FOK { x.f with stack := x.f.stack.drop (takesA 87) }) (hok' : FOK { x.f with stack := x.f.stack.drop (takesA 87), pc := x.f.arg 0 }) : Calls Hvah.prog 76 #[.pointer (some ⟨Y, 0, none⟩), .pointer (some ⟨F, r.length * 60, none⟩), .int .u8 87] w fun e w' => e = .returned (.tuple #[]) ∧ YPl O TL w w' Y F n W start (st.plain x.f (r.map (·.f)) 87) tot x r := by
  refine (xPlainJ87 h.top hT harg hok1 hok').mono ?_
  rintro e w2 ⟨h1, d', hX, m, hd⟩
  refine ⟨h1, ?_⟩
  have k := zPlF h hX m hd rfl
  have e3 : st.plain x.f (r.map (·.f)) 87 = { st with frames := { x.f with stack := x.f.stack.drop (takesA 87), pc := x.f.arg 0 } :: r.map (·.f) } := by unfold ASt.plain; rw [if_pos (Or.inr ⟨rfl, harg⟩)]
  rw [e3]; exact k
theorem zp_87n (h : YZ O TL w Y F n c d W start st tot (x :: r)) (hT : takesA 87 ≤ x.f.stack.length) (harg : x.f.arg 1 = 0) (hok1 : FOK { x.f with stack := x.f.stack.drop (takesA 87) }) (hok' : FOK (x.f.settle (takesA 87) [] 1)) : Calls Hvah.prog 76 #[.pointer (some ⟨Y, 0, none⟩), .pointer (some ⟨F, r.length * 60, none⟩), .int .u8 87] w fun e w' => e = .returned (.tuple #[]) ∧ YPl O TL w w' Y F n W start (st.plain x.f (r.map (·.f)) 87) tot x r := by
  refine (xPlainE87 h.top hT harg (fun W1 vg e1 hN => yEffN87 hN) hok1 hok').mono ?_
  rintro e w2 ⟨h1, d', hX, m, hd⟩
  refine ⟨h1, ?_⟩
  have k := zPlF h hX m hd rfl
  have e3 : st.plain x.f (r.map (·.f)) 87 = { st with frames := x.f.settle (takesA 87) [] 1 :: r.map (·.f) } := by
    unfold ASt.plain ASt.effectMem ASt.effectWorld
    simp [harg, show givesA 87 = 0 from rfl]
  rw [e3]; exact k
theorem zpDup (h : YZ O TL w Y F n c d W start st tot (x :: r)) (o : Nat) (h1 : 128 ≤ o) (h2 : o ≤ 143) (hT : takesA o ≤ x.f.stack.length) (hok' : FOK (x.f.settle 0 [x.f.arg (takesA o - 1)] 1)) : Calls Hvah.prog 76 #[.pointer (some ⟨Y, 0, none⟩), .pointer (some ⟨F, r.length * 60, none⟩), .int .u8 o] w fun e w' => e = .returned (.tuple #[]) ∧ YPl O TL w w' Y F n W start (st.plain x.f (r.map (·.f)) o) tot x r := by
  have ho : o < 256 := by omega
  have hTo : takesA o = o - 127 := (show ∀ q : Fin 256, 128 ≤ q.1 → q.1 ≤ 143 → takesA q.1 = q.1 - 127 by decide +kernel) ⟨o, ho⟩ h1 h2
  refine (xPlainD h.top o ho h1 h2 hTo hT hok').mono ?_
  rintro e w2 ⟨e1, d', hX, m, hd⟩
  refine ⟨e1, ?_⟩
  have k := zPlF h hX m hd rfl
  have e3 : st.plain x.f (r.map (·.f)) o = { st with frames := x.f.settle 0 [x.f.arg (takesA o - 1)] 1 :: r.map (·.f) } := by
    unfold ASt.plain
    rw [if_neg (by omega), if_pos ⟨h1, h2⟩, hTo, show o - 127 - 1 = o - 128 by omega]
  rw [e3]; exact k
theorem zpSwap (h : YZ O TL w Y F n c d W start st tot (x :: r)) (o : Nat) (h1 : 144 ≤ o) (h2 : o ≤ 159) (hT : takesA o ≤ x.f.stack.length) (hok' : FOK { x.f with stack := x.f.arg (takesA o - 1) :: (x.f.stack.drop 1).take (takesA o - 2) ++ x.f.arg 0 :: x.f.stack.drop (takesA o), pc := x.f.pc + 1 }) : Calls Hvah.prog 76 #[.pointer (some ⟨Y, 0, none⟩), .pointer (some ⟨F, r.length * 60, none⟩), .int .u8 o] w fun e w' => e = .returned (.tuple #[]) ∧ YPl O TL w w' Y F n W start (st.plain x.f (r.map (·.f)) o) tot x r := by
  have ho : o < 256 := by omega
  have hTo : takesA o = o - 142 := (show ∀ q : Fin 256, 144 ≤ q.1 → q.1 ≤ 159 → takesA q.1 = q.1 - 142 by decide +kernel) ⟨o, ho⟩ h1 h2
  refine (xPlainS h.top o ho h1 h2 hTo hT hok').mono ?_
  rintro e w2 ⟨e1, d', hX, m, hd⟩
  refine ⟨e1, ?_⟩
  have k := zPlF h hX m hd rfl
  have e3 : st.plain x.f (r.map (·.f)) o = { st with frames := { x.f with stack := x.f.arg (takesA o - 1) :: (x.f.stack.drop 1).take (takesA o - 2) ++ x.f.arg 0 :: x.f.stack.drop (takesA o), pc := x.f.pc + 1 } :: r.map (·.f) } := by
    unfold ASt.plain
    rw [if_neg (by omega), if_neg (by omega), if_pos ⟨h1, h2⟩, hTo, show o - 142 - 1 = o - 143 by omega, show o - 142 - 2 = o - 144 by omega]
  rw [e3]; exact k
theorem zp_60 (h : YZ O TL w Y F n c d W start st tot (x :: r)) (hT : takesA 60 ≤ x.f.stack.length) (hl : YLim (W.warm (addrA (x.f.arg 0)))) (hn : x.f.arg 3 ≤ 717280) (hokM : FOK ({ x.f with mem := copyA x.f.mem (x.f.arg 1) (st.now.code (addrA (x.f.arg 0))) (x.f.arg 2) (x.f.arg 3) } : AFrame)) (hok1 : FOK { ({ x.f with mem := copyA x.f.mem (x.f.arg 1) (st.now.code (addrA (x.f.arg 0))) (x.f.arg 2) (x.f.arg 3) } : AFrame) with stack := x.f.stack.drop (takesA 60) }) (hok' : FOK (({ x.f with mem := copyA x.f.mem (x.f.arg 1) (st.now.code (addrA (x.f.arg 0))) (x.f.arg 2) (x.f.arg 3) } : AFrame).settle (takesA 60) [] 1)) : Calls Hvah.prog 76 #[.pointer (some ⟨Y, 0, none⟩), .pointer (some ⟨F, r.length * 60, none⟩), .int .u8 60] w fun e w' => e = .returned (.tuple #[]) ∧ YPl O TL w w' Y F n (W.warm (addrA (x.f.arg 0))) start (st.plain x.f (r.map (·.f)) 60) tot x r := by
  have ew : (W.warm (addrA (x.f.arg 0))).abs = st.now.warm (addrA (x.f.arg 0)) := by rw [YW.warm_abs, h.now]
  have eb : (W.acct (addrA (x.f.arg 0))).code = st.now.code (addrA (x.f.arg 0)) := by rw [h.now]; rfl
  exact zPlE1 h 60 (by decide) (by decide) (by decide) (by decide) rfl hT (W.warm (addrA (x.f.arg 0))) (YW.warm_wf h.wf _) ({ x.f with mem := copyA x.f.mem (x.f.arg 1) (st.now.code (addrA (x.f.arg 0))) (x.f.arg 2) (x.f.arg 3) } : AFrame) rfl rfl rfl (fun W1 vg hX hN => by
    rw [ew]
    rw [← eb] at hokM ⊢
    exact yEff60 (args := (List.range (takesA 60)).map x.f.arg) hX hN hl hn hokM) hok1 hok' rfl (by unfold ASt.plain ASt.effectMem ASt.effectWorld; simp [show givesA 60 = 0 from rfl, show takesA 60 = 4 from rfl, ew])
theorem zp_93 (h : YZ O TL w Y F n c d W start st tot (x :: r)) (hT : takesA 93 ≤ x.f.stack.length) (hl : YLim (W.tstore x.f.self (x.f.arg 0) (x.f.arg 1))) (hok1 : FOK { x.f with stack := x.f.stack.drop (takesA 93) }) (hok' : FOK (x.f.settle (takesA 93) [] 1)) : Calls Hvah.prog 76 #[.pointer (some ⟨Y, 0, none⟩), .pointer (some ⟨F, r.length * 60, none⟩), .int .u8 93] w fun e w' => e = .returned (.tuple #[]) ∧ YPl O TL w w' Y F n (W.tstore x.f.self (x.f.arg 0) (x.f.arg 1)) start (st.plain x.f (r.map (·.f)) 93) tot x r := by
  have hk : x.f.arg 0 < Pk := by rw [Pk_eqP]; exact arg_ltu h.top.ok 0
  have ew : (W.tstore x.f.self (x.f.arg 0) (x.f.arg 1)).abs = st.now.tstore x.f.self (x.f.arg 0) (x.f.arg 1) := by rw [YW.tstore_abs h.wf _ _ _ hk, h.now]
  exact zPlE1 h 93 (by decide) (by decide) (by decide) (by decide) rfl hT (W.tstore x.f.self (x.f.arg 0) (x.f.arg 1)) (YW.tstore_wf h.wf _ _ _ hk) x.f rfl rfl rfl (fun W1 vg hX hN => by
    rw [ew]
    refine (yEff93 (args := (List.range (takesA 93)).map x.f.arg) hX hN h.wf hk hl).mono ?_
    rintro e w2 ⟨c', h1, h2, h3, _⟩
    exact ⟨c', h1, h2, h3.sub (fun b hb => Or.inl hb)⟩) hok1 hok' rfl (by unfold ASt.plain ASt.effectMem ASt.effectWorld; simp [show givesA 93 = 0 from rfl, show takesA 93 = 2 from rfl, ew])
theorem zp_85 (h : YZ O TL w Y F n c d W start st tot (x :: r)) (hT : takesA 85 ≤ x.f.stack.length) (hle : sstoreMinus (st.orig x.f.self (x.f.arg 0)) (st.now.slot x.f.self (x.f.arg 0)) (x.f.arg 1) ≤ st.now.refund) (hl1 : YLim ({ W with refund := (st.now.refund - sstoreMinus (st.orig x.f.self (x.f.arg 0)) (st.now.slot x.f.self (x.f.arg 0)) (x.f.arg 1) + sstorePlus (st.orig x.f.self (x.f.arg 0)) (st.now.slot x.f.self (x.f.arg 0)) (x.f.arg 1)) } : YW)) (hl2 : YLim (({ W with refund := (st.now.refund - sstoreMinus (st.orig x.f.self (x.f.arg 0)) (st.now.slot x.f.self (x.f.arg 0)) (x.f.arg 1) + sstorePlus (st.orig x.f.self (x.f.arg 0)) (st.now.slot x.f.self (x.f.arg 0)) (x.f.arg 1)) } : YW).warmSlot x.f.self (x.f.arg 0))) (hl3 : YLim ((({ W with refund := (st.now.refund - sstoreMinus (st.orig x.f.self (x.f.arg 0)) (st.now.slot x.f.self (x.f.arg 0)) (x.f.arg 1) + sstorePlus (st.orig x.f.self (x.f.arg 0)) (st.now.slot x.f.self (x.f.arg 0)) (x.f.arg 1)) } : YW).warmSlot x.f.self (x.f.arg 0)).store x.f.self (x.f.arg 0) (x.f.arg 1))) (hok1 : FOK { x.f with stack := x.f.stack.drop (takesA 85) }) (hok' : FOK (x.f.settle (takesA 85) [] 1)) : Calls Hvah.prog 76 #[.pointer (some ⟨Y, 0, none⟩), .pointer (some ⟨F, r.length * 60, none⟩), .int .u8 85] w fun e w' => e = .returned (.tuple #[]) ∧ YPl O TL w w' Y F n ((({ W with refund := (st.now.refund - sstoreMinus (st.orig x.f.self (x.f.arg 0)) (st.now.slot x.f.self (x.f.arg 0)) (x.f.arg 1) + sstorePlus (st.orig x.f.self (x.f.arg 0)) (st.now.slot x.f.self (x.f.arg 0)) (x.f.arg 1)) } : YW).warmSlot x.f.self (x.f.arg 0)).store x.f.self (x.f.arg 0) (x.f.arg 1)) start (st.plain x.f (r.map (·.f)) 85) tot x r := by
  have hk : x.f.arg 0 < Pk := by rw [Pk_eqP]; exact arg_ltu h.top.ok 0
  have w1 : ({ W with refund := (st.now.refund - sstoreMinus (st.orig x.f.self (x.f.arg 0)) (st.now.slot x.f.self (x.f.arg 0)) (x.f.arg 1) + sstorePlus (st.orig x.f.self (x.f.arg 0)) (st.now.slot x.f.self (x.f.arg 0)) (x.f.arg 1)) } : YW).WF := ⟨h.wf.accts, h.wf.slots, h.wf.addrs, h.wf.warmS, h.wf.temps, h.wf.tkeys, h.wf.gone⟩
  have w2 := YW.warmSlot_wf w1 x.f.self (x.f.arg 0) hk
  have ea : ({ W with refund := (st.now.refund - sstoreMinus (st.orig x.f.self (x.f.arg 0)) (st.now.slot x.f.self (x.f.arg 0)) (x.f.arg 1) + sstorePlus (st.orig x.f.self (x.f.arg 0)) (st.now.slot x.f.self (x.f.arg 0)) (x.f.arg 1)) } : YW).abs = st.now.setRefund (st.now.refund - sstoreMinus (st.orig x.f.self (x.f.arg 0)) (st.now.slot x.f.self (x.f.arg 0)) (x.f.arg 1) + sstorePlus (st.orig x.f.self (x.f.arg 0)) (st.now.slot x.f.self (x.f.arg 0)) (x.f.arg 1)) := by rw [h.now]; rfl
  have ew : ((({ W with refund := (st.now.refund - sstoreMinus (st.orig x.f.self (x.f.arg 0)) (st.now.slot x.f.self (x.f.arg 0)) (x.f.arg 1) + sstorePlus (st.orig x.f.self (x.f.arg 0)) (st.now.slot x.f.self (x.f.arg 0)) (x.f.arg 1)) } : YW).warmSlot x.f.self (x.f.arg 0)).store x.f.self (x.f.arg 0) (x.f.arg 1)).abs = ((st.now.setRefund (st.now.refund - sstoreMinus (st.orig x.f.self (x.f.arg 0)) (st.now.slot x.f.self (x.f.arg 0)) (x.f.arg 1) + sstorePlus (st.orig x.f.self (x.f.arg 0)) (st.now.slot x.f.self (x.f.arg 0)) (x.f.arg 1))).warmSlot x.f.self (x.f.arg 0)).store x.f.self (x.f.arg 0) (x.f.arg 1) := by rw [YW.store_abs, YW.warmSlot_abs w1 _ _ hk, ea]
  exact zPlE1 h 85 (by decide) (by decide) (by decide) (by decide) rfl hT ((({ W with refund := (st.now.refund - sstoreMinus (st.orig x.f.self (x.f.arg 0)) (st.now.slot x.f.self (x.f.arg 0)) (x.f.arg 1) + sstorePlus (st.orig x.f.self (x.f.arg 0)) (st.now.slot x.f.self (x.f.arg 0)) (x.f.arg 1)) } : YW).warmSlot x.f.self (x.f.arg 0)).store x.f.self (x.f.arg 0) (x.f.arg 1)) (YW.store_wf w2 _ _ _ h.top.ok.self hk) x.f rfl rfl rfl (fun W1 vg hX hN => by
    rw [ew]
    refine (yEff85 (args := (List.range (takesA 85)).map x.f.arg) hX hN h.wf rfl rfl hk hle hl1 hl2 hl3).mono ?_
    rintro e w2 ⟨c', h1, h2, h3, _⟩
    exact ⟨c', h1, h2, h3.sub (fun b hb => Or.inl hb)⟩) hok1 hok' rfl (by unfold ASt.plain ASt.effectMem ASt.effectWorld; simp [show givesA 85 = 0 from rfl, show takesA 85 = 2 from rfl, ew])
end
end Go.Proofs.YgvahwGreat
