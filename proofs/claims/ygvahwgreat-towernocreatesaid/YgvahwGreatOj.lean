import Derived.Test.YgvahwGreatOin0T0
import Derived.Test.YgvahwGreatOin0T1x
import Derived.Test.YgvahwGreatOin0T1y
import Derived.Test.YgvahwGreatOin0T2x
import Derived.Test.YgvahwGreatOin0T2y
import Derived.Test.YgvahwGreatOin1tT0
import Derived.Test.YgvahwGreatOin1tT1x
import Derived.Test.YgvahwGreatOin1tT1y
import Derived.Test.YgvahwGreatOin1tT2x
import Derived.Test.YgvahwGreatOin1tT2y
import Derived.Test.YgvahwGreatOin1fT0
import Derived.Test.YgvahwGreatOin1fT1x
import Derived.Test.YgvahwGreatOin1fT1y
import Derived.Test.YgvahwGreatOin1fT2x
import Derived.Test.YgvahwGreatOin1fT2y
import Derived.Test.YgvahwGreatOinFtT0
import Derived.Test.YgvahwGreatOinFtT1x
import Derived.Test.YgvahwGreatOinFtT1y
import Derived.Test.YgvahwGreatOinFfT0
import Derived.Test.YgvahwGreatOinFfT1x
import Derived.Test.YgvahwGreatOinFfT1y
import Derived.Test.YgvahwGreatOimCT0
import Derived.Test.YgvahwGreatOimCT1x
import Derived.Test.YgvahwGreatOimCT1y
import Derived.Test.YgvahwGreatOimET0
import Derived.Test.YgvahwGreatOimET1x
import Derived.Test.YgvahwGreatOimET1y
import Derived.Test.YgvahwGreatOimFT0
import Derived.Test.YgvahwGreatOimFT1x
import Derived.Test.YgvahwGreatOimFT1y
namespace Go.Proofs.YgvahwGreat
open Go.RowKit
set_option linter.unusedSimpArgs false
set_option linter.unusedVariables false
/-- The vault behind a frame's end. -/
def EV.ends (V : EV) (s : Nat) (f : AFrame) (status : Nat) (out : List Nat) : EV :=
  if createsA f.kind = true ∧ status = 0 then (if (depositA f.gas out).2 = 0 then (if out = [] then V else V.putCode f.self out) else V.revertTo s)
  else (if status = 0 then V else V.revertTo s)
theorem deposit_ok {g : Nat} {out : List Nat} (h : (depositA g out).2 = 0) : (depositA g out).1 ≤ g ∧ out.length ≤ 256 := by
  unfold depositA at *
  split at h
  · cases h
  · split at h
    · cases h
    · split at h
      · cases h
      · rename_i h1 h2 h3
        rw [if_neg h1, if_neg h2, if_neg h3]
        exact ⟨Nat.sub_le _ _, by omega⟩
theorem deposit_bad {g : Nat} {out : List Nat} (h : (depositA g out).2 ≠ 0) : (depositA g out).1 = 0 ∧ 1 < (depositA g out).2 ∧ (depositA g out).2 < 256 := by
  unfold depositA at *
  split at h
  · rename_i h1; rw [if_pos h1]; exact ⟨rfl, by decide, by decide⟩
  · rename_i h1
    rw [if_neg h1]
    split at h
    · rename_i h2; rw [if_pos h2]; exact ⟨rfl, by decide, by decide⟩
    · rename_i h2
      rw [if_neg h2]
      split at h
      · rename_i h3; rw [if_pos h3]; exact ⟨rfl, by decide, by decide⟩
      · exact absurd rfl h
section
variable {own : Nat → Nat} {w : World} {g : Nat} {c : Nat → Value} {V : EV} {st : ASt} {sn stale : List Nat} {s : Nat} {f : AFrame} {rest : List AFrame}
theorem mEnd_n0_A {out : List Nat} {v : Value} (h : MRep own w g c V st (s :: sn) stale) (hst : st.frames = f :: []) (hph : st.phase = 1) (hv : NL (Mu own) w v out) (hmd : createsA f.kind = false) : Calls Hvah.prog 195 #[.pointer (some ⟨g, 0, none⟩), .int .u8 (0 : Nat), v] w fun e w' => e = .returned (.tuple #[]) ∧ ∃ own' c', MRep own' w' g c' (V.ends s f 0 out) (st.leave f [] 0 out) sn (f.mem ++ stale) ∧ MStep own w own' w' := by
  refine (mEnd_n0_T0 h hst hph hv hmd).mono ?_
  rintro e w1 ⟨rfl, own', c', h1, m1⟩
  refine ⟨rfl, own', c', ?_, m1⟩
  have hV : V.ends s f 0 out = V := by unfold EV.ends; simp [hmd]
  rw [hV]
  have hE : st.leave f [] 0 out = { st with now := st.now, ret := out, frames := [], phase := 2, status := 0, left := f.gas } := by
    unfold ASt.leave
    simp [hmd]
  rw [hE]; exact h1
theorem mEnd_n0_B {out : List Nat} {p : AFrame} {v : Value} (h : MRep own w g c V st (s :: sn) stale) (hst : st.frames = f :: (p :: rest)) (hph : st.phase = 1) (hv : NL (Mu own) w v out) (hmd : createsA f.kind = false) (hpg : p.gas + f.gas ≤ 1048576) (hps : p.stack.length < 64) (hpp : p.pc ≤ 50000) : Calls Hvah.prog 195 #[.pointer (some ⟨g, 0, none⟩), .int .u8 (0 : Nat), v] w fun e w' => e = .returned (.tuple #[]) ∧ ∃ own' c', MRep own' w' g c' (V.ends s f 0 out) (st.leave f (p :: rest) 0 out) sn (f.mem ++ stale) ∧ MStep own w own' w' := by
  by_cases hn1 : out.length < p.outLen
  · by_cases hlo : out.length = 0
    · have hmin : min p.outLen out.length = 0 := by omega
      refine (mEnd_n0_T1x h hst hph hv hmd hn1 hlo hpg hps hpp).mono ?_
      rintro e w1 ⟨rfl, own', c', h1, m1⟩
      refine ⟨rfl, own', c', ?_, m1⟩
      have hV : V.ends s f 0 out = V := by unfold EV.ends; simp [hmd]
      rw [hV]
      have hE : st.leave f (p :: rest) 0 out = { st with now := st.now, ret := out, frames := ({ p with gas := p.gas + f.gas, mem := p.mem } : AFrame).settle 0 [1] 1 :: rest } := by
        unfold ASt.leave
        simp [hmd, hmin]
      rw [hE]; exact h1
    · have hmin : min p.outLen out.length = out.length := by omega
      have hne0 : out ≠ [] := fun q => hlo (by rw [q]; rfl)
      refine (mEnd_n0_T2x h hst hph hv hmd hn1 hlo hpg hps hpp).mono ?_
      rintro e w1 ⟨rfl, own', c', h1, m1⟩
      refine ⟨rfl, own', c', ?_, m1⟩
      have hV : V.ends s f 0 out = V := by unfold EV.ends; simp [hmd]
      rw [hV]
      have hE : st.leave f (p :: rest) 0 out = { st with now := st.now, ret := out, frames := ({ p with gas := p.gas + f.gas, mem := writeA p.mem p.outOff (out.take out.length) } : AFrame).settle 0 [1] 1 :: rest } := by
        unfold ASt.leave
        simp [hmd, hmin, hne0]
      rw [hE]; exact h1
  · by_cases hlo : p.outLen = 0
    · have hmin : min p.outLen out.length = 0 := by omega
      refine (mEnd_n0_T1y h hst hph hv hmd hlo hpg hps hpp).mono ?_
      rintro e w1 ⟨rfl, own', c', h1, m1⟩
      refine ⟨rfl, own', c', ?_, m1⟩
      have hV : V.ends s f 0 out = V := by unfold EV.ends; simp [hmd]
      rw [hV]
      have hE : st.leave f (p :: rest) 0 out = { st with now := st.now, ret := out, frames := ({ p with gas := p.gas + f.gas, mem := p.mem } : AFrame).settle 0 [1] 1 :: rest } := by
        unfold ASt.leave
        simp [hmd, hmin]
      rw [hE]; exact h1
    · have hmin : min p.outLen out.length = p.outLen := by omega
      refine (mEnd_n0_T2y h hst hph hv hmd (by omega) hlo hpg hps hpp).mono ?_
      rintro e w1 ⟨rfl, own', c', h1, m1⟩
      refine ⟨rfl, own', c', ?_, m1⟩
      have hV : V.ends s f 0 out = V := by unfold EV.ends; simp [hmd]
      rw [hV]
      have hE : st.leave f (p :: rest) 0 out = { st with now := st.now, ret := out, frames := ({ p with gas := p.gas + f.gas, mem := writeA p.mem p.outOff (out.take p.outLen) } : AFrame).settle 0 [1] 1 :: rest } := by
        unfold ASt.leave
        simp [hmd, hmin, hlo]
      rw [hE]; exact h1
theorem mEnd_n1t_A {out : List Nat} {v : Value} (h : MRep own w g c V st (s :: sn) stale) (hst : st.frames = f :: []) (hph : st.phase = 1) (hv : NL (Mu own) w v out) (hmd : createsA f.kind = true) : Calls Hvah.prog 195 #[.pointer (some ⟨g, 0, none⟩), .int .u8 (1 : Nat), v] w fun e w' => e = .returned (.tuple #[]) ∧ ∃ own' c', MRep own' w' g c' (V.ends s f 1 out) (st.leave f [] 1 out) sn (f.mem ++ stale) ∧ MStep own w own' w' := by
  refine (mEnd_n1t_T0 h hst hph hv hmd).mono ?_
  rintro e w1 ⟨rfl, own', c', h1, m1⟩
  refine ⟨rfl, own', c', ?_, m1⟩
  have hV : V.ends s f 1 out = (V.revertTo s) := by unfold EV.ends; simp [hmd]
  rw [hV]
  have hE : st.leave f [] 1 out = { st with now := f.saved, ret := out, frames := [], phase := 2, status := 1, left := f.gas } := by
    unfold ASt.leave
    simp [hmd]
  rw [hE]; exact h1
theorem mEnd_n1t_B {out : List Nat} {p : AFrame} {v : Value} (h : MRep own w g c V st (s :: sn) stale) (hst : st.frames = f :: (p :: rest)) (hph : st.phase = 1) (hv : NL (Mu own) w v out) (hmd : createsA f.kind = true) (hpg : p.gas + f.gas ≤ 1048576) (hps : p.stack.length < 64) (hpp : p.pc ≤ 50000) : Calls Hvah.prog 195 #[.pointer (some ⟨g, 0, none⟩), .int .u8 (1 : Nat), v] w fun e w' => e = .returned (.tuple #[]) ∧ ∃ own' c', MRep own' w' g c' (V.ends s f 1 out) (st.leave f (p :: rest) 1 out) sn (f.mem ++ stale) ∧ MStep own w own' w' := by
  by_cases hn1 : out.length < p.outLen
  · by_cases hlo : out.length = 0
    · have hmin : min p.outLen out.length = 0 := by omega
      refine (mEnd_n1t_T1x h hst hph hv hmd hn1 hlo hpg hps hpp).mono ?_
      rintro e w1 ⟨rfl, own', c', h1, m1⟩
      refine ⟨rfl, own', c', ?_, m1⟩
      have hV : V.ends s f 1 out = (V.revertTo s) := by unfold EV.ends; simp [hmd]
      rw [hV]
      have hE : st.leave f (p :: rest) 1 out = { st with now := f.saved, ret := out, frames := ({ p with gas := p.gas + f.gas, mem := p.mem } : AFrame).settle 0 [0] 1 :: rest } := by
        unfold ASt.leave
        simp [hmd, hmin]
      rw [hE]; exact h1
    · have hmin : min p.outLen out.length = out.length := by omega
      have hne0 : out ≠ [] := fun q => hlo (by rw [q]; rfl)
      refine (mEnd_n1t_T2x h hst hph hv hmd hn1 hlo hpg hps hpp).mono ?_
      rintro e w1 ⟨rfl, own', c', h1, m1⟩
      refine ⟨rfl, own', c', ?_, m1⟩
      have hV : V.ends s f 1 out = (V.revertTo s) := by unfold EV.ends; simp [hmd]
      rw [hV]
      have hE : st.leave f (p :: rest) 1 out = { st with now := f.saved, ret := out, frames := ({ p with gas := p.gas + f.gas, mem := writeA p.mem p.outOff (out.take out.length) } : AFrame).settle 0 [0] 1 :: rest } := by
        unfold ASt.leave
        simp [hmd, hmin, hne0]
      rw [hE]; exact h1
  · by_cases hlo : p.outLen = 0
    · have hmin : min p.outLen out.length = 0 := by omega
      refine (mEnd_n1t_T1y h hst hph hv hmd hlo hpg hps hpp).mono ?_
      rintro e w1 ⟨rfl, own', c', h1, m1⟩
      refine ⟨rfl, own', c', ?_, m1⟩
      have hV : V.ends s f 1 out = (V.revertTo s) := by unfold EV.ends; simp [hmd]
      rw [hV]
      have hE : st.leave f (p :: rest) 1 out = { st with now := f.saved, ret := out, frames := ({ p with gas := p.gas + f.gas, mem := p.mem } : AFrame).settle 0 [0] 1 :: rest } := by
        unfold ASt.leave
        simp [hmd, hmin]
      rw [hE]; exact h1
    · have hmin : min p.outLen out.length = p.outLen := by omega
      refine (mEnd_n1t_T2y h hst hph hv hmd (by omega) hlo hpg hps hpp).mono ?_
      rintro e w1 ⟨rfl, own', c', h1, m1⟩
      refine ⟨rfl, own', c', ?_, m1⟩
      have hV : V.ends s f 1 out = (V.revertTo s) := by unfold EV.ends; simp [hmd]
      rw [hV]
      have hE : st.leave f (p :: rest) 1 out = { st with now := f.saved, ret := out, frames := ({ p with gas := p.gas + f.gas, mem := writeA p.mem p.outOff (out.take p.outLen) } : AFrame).settle 0 [0] 1 :: rest } := by
        unfold ASt.leave
        simp [hmd, hmin, hlo]
      rw [hE]; exact h1
theorem mEnd_n1f_A {out : List Nat} {v : Value} (h : MRep own w g c V st (s :: sn) stale) (hst : st.frames = f :: []) (hph : st.phase = 1) (hv : NL (Mu own) w v out) (hmd : createsA f.kind = false) : Calls Hvah.prog 195 #[.pointer (some ⟨g, 0, none⟩), .int .u8 (1 : Nat), v] w fun e w' => e = .returned (.tuple #[]) ∧ ∃ own' c', MRep own' w' g c' (V.ends s f 1 out) (st.leave f [] 1 out) sn (f.mem ++ stale) ∧ MStep own w own' w' := by
  refine (mEnd_n1f_T0 h hst hph hv hmd).mono ?_
  rintro e w1 ⟨rfl, own', c', h1, m1⟩
  refine ⟨rfl, own', c', ?_, m1⟩
  have hV : V.ends s f 1 out = (V.revertTo s) := by unfold EV.ends; simp [hmd]
  rw [hV]
  have hE : st.leave f [] 1 out = { st with now := f.saved, ret := out, frames := [], phase := 2, status := 1, left := f.gas } := by
    unfold ASt.leave
    simp [hmd]
  rw [hE]; exact h1
theorem mEnd_n1f_B {out : List Nat} {p : AFrame} {v : Value} (h : MRep own w g c V st (s :: sn) stale) (hst : st.frames = f :: (p :: rest)) (hph : st.phase = 1) (hv : NL (Mu own) w v out) (hmd : createsA f.kind = false) (hpg : p.gas + f.gas ≤ 1048576) (hps : p.stack.length < 64) (hpp : p.pc ≤ 50000) : Calls Hvah.prog 195 #[.pointer (some ⟨g, 0, none⟩), .int .u8 (1 : Nat), v] w fun e w' => e = .returned (.tuple #[]) ∧ ∃ own' c', MRep own' w' g c' (V.ends s f 1 out) (st.leave f (p :: rest) 1 out) sn (f.mem ++ stale) ∧ MStep own w own' w' := by
  by_cases hn1 : out.length < p.outLen
  · by_cases hlo : out.length = 0
    · have hmin : min p.outLen out.length = 0 := by omega
      refine (mEnd_n1f_T1x h hst hph hv hmd hn1 hlo hpg hps hpp).mono ?_
      rintro e w1 ⟨rfl, own', c', h1, m1⟩
      refine ⟨rfl, own', c', ?_, m1⟩
      have hV : V.ends s f 1 out = (V.revertTo s) := by unfold EV.ends; simp [hmd]
      rw [hV]
      have hE : st.leave f (p :: rest) 1 out = { st with now := f.saved, ret := out, frames := ({ p with gas := p.gas + f.gas, mem := p.mem } : AFrame).settle 0 [0] 1 :: rest } := by
        unfold ASt.leave
        simp [hmd, hmin]
      rw [hE]; exact h1
    · have hmin : min p.outLen out.length = out.length := by omega
      have hne0 : out ≠ [] := fun q => hlo (by rw [q]; rfl)
      refine (mEnd_n1f_T2x h hst hph hv hmd hn1 hlo hpg hps hpp).mono ?_
      rintro e w1 ⟨rfl, own', c', h1, m1⟩
      refine ⟨rfl, own', c', ?_, m1⟩
      have hV : V.ends s f 1 out = (V.revertTo s) := by unfold EV.ends; simp [hmd]
      rw [hV]
      have hE : st.leave f (p :: rest) 1 out = { st with now := f.saved, ret := out, frames := ({ p with gas := p.gas + f.gas, mem := writeA p.mem p.outOff (out.take out.length) } : AFrame).settle 0 [0] 1 :: rest } := by
        unfold ASt.leave
        simp [hmd, hmin, hne0]
      rw [hE]; exact h1
  · by_cases hlo : p.outLen = 0
    · have hmin : min p.outLen out.length = 0 := by omega
      refine (mEnd_n1f_T1y h hst hph hv hmd hlo hpg hps hpp).mono ?_
      rintro e w1 ⟨rfl, own', c', h1, m1⟩
      refine ⟨rfl, own', c', ?_, m1⟩
      have hV : V.ends s f 1 out = (V.revertTo s) := by unfold EV.ends; simp [hmd]
      rw [hV]
      have hE : st.leave f (p :: rest) 1 out = { st with now := f.saved, ret := out, frames := ({ p with gas := p.gas + f.gas, mem := p.mem } : AFrame).settle 0 [0] 1 :: rest } := by
        unfold ASt.leave
        simp [hmd, hmin]
      rw [hE]; exact h1
    · have hmin : min p.outLen out.length = p.outLen := by omega
      refine (mEnd_n1f_T2y h hst hph hv hmd (by omega) hlo hpg hps hpp).mono ?_
      rintro e w1 ⟨rfl, own', c', h1, m1⟩
      refine ⟨rfl, own', c', ?_, m1⟩
      have hV : V.ends s f 1 out = (V.revertTo s) := by unfold EV.ends; simp [hmd]
      rw [hV]
      have hE : st.leave f (p :: rest) 1 out = { st with now := f.saved, ret := out, frames := ({ p with gas := p.gas + f.gas, mem := writeA p.mem p.outOff (out.take p.outLen) } : AFrame).settle 0 [0] 1 :: rest } := by
        unfold ASt.leave
        simp [hmd, hmin, hlo]
      rw [hE]; exact h1
theorem mEnd_nFt_A {out : List Nat} {v : Value} (h : MRep own w g c V st (s :: sn) stale) (hst : st.frames = f :: []) (hph : st.phase = 1) (hv : NL (Mu own) w v out) (hmd : createsA f.kind = true) (sx : Nat) (hsx : 1 < sx) (hsx2 : sx < 256) : Calls Hvah.prog 195 #[.pointer (some ⟨g, 0, none⟩), .int .u8 (sx : Nat), v] w fun e w' => e = .returned (.tuple #[]) ∧ ∃ own' c', MRep own' w' g c' (V.ends s f sx out) (st.leave f [] sx out) sn (f.mem ++ stale) ∧ MStep own w own' w' := by
  have hsx0 : ¬ sx = 0 := by omega
  have hsx00 : ¬ sx ≤ 1 := by omega
  refine (mEnd_nFt_T0 h hst hph hv hmd sx hsx hsx2).mono ?_
  rintro e w1 ⟨rfl, own', c', h1, m1⟩
  refine ⟨rfl, own', c', ?_, m1⟩
  have hV : V.ends s f sx out = (V.revertTo s) := by unfold EV.ends; simp [hmd, hsx, hsx0, hsx00]
  rw [hV]
  have hE : st.leave f [] sx out = { st with now := f.saved, ret := [], frames := [], phase := 2, status := sx, left := 0 } := by
    unfold ASt.leave
    simp [hmd, hsx, hsx0, hsx00]
  rw [hE]; exact h1
theorem mEnd_nFt_B {out : List Nat} {p : AFrame} {v : Value} (h : MRep own w g c V st (s :: sn) stale) (hst : st.frames = f :: (p :: rest)) (hph : st.phase = 1) (hv : NL (Mu own) w v out) (hmd : createsA f.kind = true) (sx : Nat) (hsx : 1 < sx) (hsx2 : sx < 256) (hpg : p.gas + 0 ≤ 1048576) (hps : p.stack.length < 64) (hpp : p.pc ≤ 50000) : Calls Hvah.prog 195 #[.pointer (some ⟨g, 0, none⟩), .int .u8 (sx : Nat), v] w fun e w' => e = .returned (.tuple #[]) ∧ ∃ own' c', MRep own' w' g c' (V.ends s f sx out) (st.leave f (p :: rest) sx out) sn (f.mem ++ stale) ∧ MStep own w own' w' := by
  have hsx0 : ¬ sx = 0 := by omega
  have hsx00 : ¬ sx ≤ 1 := by omega
  by_cases hn1 : 0 < p.outLen
  · have hmin : min p.outLen 0 = 0 := by omega
    refine (mEnd_nFt_T1x h hst hph hv hmd sx hsx hsx2 hn1 hpg hps hpp).mono ?_
    rintro e w1 ⟨rfl, own', c', h1, m1⟩
    refine ⟨rfl, own', c', ?_, m1⟩
    have hV : V.ends s f sx out = (V.revertTo s) := by unfold EV.ends; simp [hmd, hsx, hsx0, hsx00]
    rw [hV]
    have hE : st.leave f (p :: rest) sx out = { st with now := f.saved, ret := [], frames := ({ p with gas := p.gas + 0, mem := p.mem } : AFrame).settle 0 [0] 1 :: rest } := by
      unfold ASt.leave
      simp [hmd, hsx, hsx0, hsx00]
    rw [hE]; exact h1
  · have hn2 : p.outLen = 0 := by omega
    refine (mEnd_nFt_T1y h hst hph hv hmd sx hsx hsx2 hn2 hpg hps hpp).mono ?_
    rintro e w1 ⟨rfl, own', c', h1, m1⟩
    refine ⟨rfl, own', c', ?_, m1⟩
    have hV : V.ends s f sx out = (V.revertTo s) := by unfold EV.ends; simp [hmd, hsx, hsx0, hsx00]
    rw [hV]
    have hE : st.leave f (p :: rest) sx out = { st with now := f.saved, ret := [], frames := ({ p with gas := p.gas + 0, mem := p.mem } : AFrame).settle 0 [0] 1 :: rest } := by
      unfold ASt.leave
      simp [hmd, hsx, hsx0, hsx00, hn2]
    rw [hE]; exact h1
theorem mEnd_nFf_A {out : List Nat} {v : Value} (h : MRep own w g c V st (s :: sn) stale) (hst : st.frames = f :: []) (hph : st.phase = 1) (hv : NL (Mu own) w v out) (hmd : createsA f.kind = false) (sx : Nat) (hsx : 1 < sx) (hsx2 : sx < 256) : Calls Hvah.prog 195 #[.pointer (some ⟨g, 0, none⟩), .int .u8 (sx : Nat), v] w fun e w' => e = .returned (.tuple #[]) ∧ ∃ own' c', MRep own' w' g c' (V.ends s f sx out) (st.leave f [] sx out) sn (f.mem ++ stale) ∧ MStep own w own' w' := by
  have hsx0 : ¬ sx = 0 := by omega
  have hsx00 : ¬ sx ≤ 1 := by omega
  refine (mEnd_nFf_T0 h hst hph hv hmd sx hsx hsx2).mono ?_
  rintro e w1 ⟨rfl, own', c', h1, m1⟩
  refine ⟨rfl, own', c', ?_, m1⟩
  have hV : V.ends s f sx out = (V.revertTo s) := by unfold EV.ends; simp [hmd, hsx, hsx0, hsx00]
  rw [hV]
  have hE : st.leave f [] sx out = { st with now := f.saved, ret := [], frames := [], phase := 2, status := sx, left := 0 } := by
    unfold ASt.leave
    simp [hmd, hsx, hsx0, hsx00]
  rw [hE]; exact h1
theorem mEnd_nFf_B {out : List Nat} {p : AFrame} {v : Value} (h : MRep own w g c V st (s :: sn) stale) (hst : st.frames = f :: (p :: rest)) (hph : st.phase = 1) (hv : NL (Mu own) w v out) (hmd : createsA f.kind = false) (sx : Nat) (hsx : 1 < sx) (hsx2 : sx < 256) (hpg : p.gas + 0 ≤ 1048576) (hps : p.stack.length < 64) (hpp : p.pc ≤ 50000) : Calls Hvah.prog 195 #[.pointer (some ⟨g, 0, none⟩), .int .u8 (sx : Nat), v] w fun e w' => e = .returned (.tuple #[]) ∧ ∃ own' c', MRep own' w' g c' (V.ends s f sx out) (st.leave f (p :: rest) sx out) sn (f.mem ++ stale) ∧ MStep own w own' w' := by
  have hsx0 : ¬ sx = 0 := by omega
  have hsx00 : ¬ sx ≤ 1 := by omega
  by_cases hn1 : 0 < p.outLen
  · have hmin : min p.outLen 0 = 0 := by omega
    refine (mEnd_nFf_T1x h hst hph hv hmd sx hsx hsx2 hn1 hpg hps hpp).mono ?_
    rintro e w1 ⟨rfl, own', c', h1, m1⟩
    refine ⟨rfl, own', c', ?_, m1⟩
    have hV : V.ends s f sx out = (V.revertTo s) := by unfold EV.ends; simp [hmd, hsx, hsx0, hsx00]
    rw [hV]
    have hE : st.leave f (p :: rest) sx out = { st with now := f.saved, ret := [], frames := ({ p with gas := p.gas + 0, mem := p.mem } : AFrame).settle 0 [0] 1 :: rest } := by
      unfold ASt.leave
      simp [hmd, hsx, hsx0, hsx00]
    rw [hE]; exact h1
  · have hn2 : p.outLen = 0 := by omega
    refine (mEnd_nFf_T1y h hst hph hv hmd sx hsx hsx2 hn2 hpg hps hpp).mono ?_
    rintro e w1 ⟨rfl, own', c', h1, m1⟩
    refine ⟨rfl, own', c', ?_, m1⟩
    have hV : V.ends s f sx out = (V.revertTo s) := by unfold EV.ends; simp [hmd, hsx, hsx0, hsx00]
    rw [hV]
    have hE : st.leave f (p :: rest) sx out = { st with now := f.saved, ret := [], frames := ({ p with gas := p.gas + 0, mem := p.mem } : AFrame).settle 0 [0] 1 :: rest } := by
      unfold ASt.leave
      simp [hmd, hsx, hsx0, hsx00, hn2]
    rw [hE]; exact h1
theorem mEnd_mC_A {out : List Nat} {v : Value} (h : MRep own w g c V st (s :: sn) stale) (hst : st.frames = f :: []) (hph : st.phase = 1) (hv : NL (Mu own) w v out) (hr : Room V 2) (hmd : createsA f.kind = true) (gd : Nat) (hdp : depositA f.gas out = (gd, 0)) (hgd : gd ≤ f.gas) (hne : out ≠ []) (ho2 : out.length ≤ 256) : Calls Hvah.prog 195 #[.pointer (some ⟨g, 0, none⟩), .int .u8 (0 : Nat), v] w fun e w' => e = .returned (.tuple #[]) ∧ ∃ own' c', MRep own' w' g c' (V.ends s f 0 out) (st.leave f [] 0 out) sn (f.mem ++ stale) ∧ MStep own w own' w' := by
  refine (mEnd_mC_T0 h hst hph hv hr hmd gd hdp hgd hne ho2).mono ?_
  rintro e w1 ⟨rfl, own', c', h1, m1⟩
  refine ⟨rfl, own', c', ?_, m1⟩
  have hV : V.ends s f 0 out = (V.putCode f.self out) := by unfold EV.ends; simp [hmd, hdp, hne]
  rw [hV]
  have hE : st.leave f [] 0 out = { st with now := (st.now.setCode f.self out), ret := [], frames := [], phase := 2, status := 0, left := gd } := by
    unfold ASt.leave
    simp [hmd, hdp, hne]
  rw [hE]; exact h1
theorem mEnd_mC_B {out : List Nat} {p : AFrame} {v : Value} (h : MRep own w g c V st (s :: sn) stale) (hst : st.frames = f :: (p :: rest)) (hph : st.phase = 1) (hv : NL (Mu own) w v out) (hr : Room V 2) (hmd : createsA f.kind = true) (gd : Nat) (hdp : depositA f.gas out = (gd, 0)) (hgd : gd ≤ f.gas) (hne : out ≠ []) (ho2 : out.length ≤ 256) (hpg : p.gas + gd ≤ 1048576) (hps : p.stack.length < 64) (hpp : p.pc ≤ 50000) : Calls Hvah.prog 195 #[.pointer (some ⟨g, 0, none⟩), .int .u8 (0 : Nat), v] w fun e w' => e = .returned (.tuple #[]) ∧ ∃ own' c', MRep own' w' g c' (V.ends s f 0 out) (st.leave f (p :: rest) 0 out) sn (f.mem ++ stale) ∧ MStep own w own' w' := by
  by_cases hn1 : 0 < p.outLen
  · have hmin : min p.outLen 0 = 0 := by omega
    refine (mEnd_mC_T1x h hst hph hv hr hmd gd hdp hgd hne ho2 hn1 hpg hps hpp).mono ?_
    rintro e w1 ⟨rfl, own', c', h1, m1⟩
    refine ⟨rfl, own', c', ?_, m1⟩
    have hV : V.ends s f 0 out = (V.putCode f.self out) := by unfold EV.ends; simp [hmd, hdp, hne]
    rw [hV]
    have hE : st.leave f (p :: rest) 0 out = { st with now := (st.now.setCode f.self out), ret := [], frames := ({ p with gas := p.gas + gd, mem := p.mem } : AFrame).settle 0 [f.self] 1 :: rest } := by
      unfold ASt.leave
      simp [hmd, hdp, hne]
    rw [hE]; exact h1
  · have hn2 : p.outLen = 0 := by omega
    refine (mEnd_mC_T1y h hst hph hv hr hmd gd hdp hgd hne ho2 hn2 hpg hps hpp).mono ?_
    rintro e w1 ⟨rfl, own', c', h1, m1⟩
    refine ⟨rfl, own', c', ?_, m1⟩
    have hV : V.ends s f 0 out = (V.putCode f.self out) := by unfold EV.ends; simp [hmd, hdp, hne]
    rw [hV]
    have hE : st.leave f (p :: rest) 0 out = { st with now := (st.now.setCode f.self out), ret := [], frames := ({ p with gas := p.gas + gd, mem := p.mem } : AFrame).settle 0 [f.self] 1 :: rest } := by
      unfold ASt.leave
      simp [hmd, hdp, hne, hn2]
    rw [hE]; exact h1
theorem mEnd_mE_A {out : List Nat} {v : Value} (h : MRep own w g c V st (s :: sn) stale) (hst : st.frames = f :: []) (hph : st.phase = 1) (hv : NL (Mu own) w v out) (hmd : createsA f.kind = true) (gd : Nat) (hdp : depositA f.gas out = (gd, 0)) (hgd : gd ≤ f.gas) (hne : out = []) : Calls Hvah.prog 195 #[.pointer (some ⟨g, 0, none⟩), .int .u8 (0 : Nat), v] w fun e w' => e = .returned (.tuple #[]) ∧ ∃ own' c', MRep own' w' g c' (V.ends s f 0 out) (st.leave f [] 0 out) sn (f.mem ++ stale) ∧ MStep own w own' w' := by
  have hdp2 : depositA f.gas [] = (gd, 0) := by rw [← hne]; exact hdp
  refine (mEnd_mE_T0 h hst hph hv hmd gd hdp hgd hne).mono ?_
  rintro e w1 ⟨rfl, own', c', h1, m1⟩
  refine ⟨rfl, own', c', ?_, m1⟩
  have hV : V.ends s f 0 out = V := by unfold EV.ends; simp [hmd, hdp2, hne]
  rw [hV]
  have hE : st.leave f [] 0 out = { st with now := st.now, ret := [], frames := [], phase := 2, status := 0, left := gd } := by
    unfold ASt.leave
    simp [hmd, hdp2, hne]
  rw [hE]; exact h1
theorem mEnd_mE_B {out : List Nat} {p : AFrame} {v : Value} (h : MRep own w g c V st (s :: sn) stale) (hst : st.frames = f :: (p :: rest)) (hph : st.phase = 1) (hv : NL (Mu own) w v out) (hmd : createsA f.kind = true) (gd : Nat) (hdp : depositA f.gas out = (gd, 0)) (hgd : gd ≤ f.gas) (hne : out = []) (hpg : p.gas + gd ≤ 1048576) (hps : p.stack.length < 64) (hpp : p.pc ≤ 50000) : Calls Hvah.prog 195 #[.pointer (some ⟨g, 0, none⟩), .int .u8 (0 : Nat), v] w fun e w' => e = .returned (.tuple #[]) ∧ ∃ own' c', MRep own' w' g c' (V.ends s f 0 out) (st.leave f (p :: rest) 0 out) sn (f.mem ++ stale) ∧ MStep own w own' w' := by
  have hdp2 : depositA f.gas [] = (gd, 0) := by rw [← hne]; exact hdp
  by_cases hn1 : 0 < p.outLen
  · have hmin : min p.outLen 0 = 0 := by omega
    refine (mEnd_mE_T1x h hst hph hv hmd gd hdp hgd hne hn1 hpg hps hpp).mono ?_
    rintro e w1 ⟨rfl, own', c', h1, m1⟩
    refine ⟨rfl, own', c', ?_, m1⟩
    have hV : V.ends s f 0 out = V := by unfold EV.ends; simp [hmd, hdp2, hne]
    rw [hV]
    have hE : st.leave f (p :: rest) 0 out = { st with now := st.now, ret := [], frames := ({ p with gas := p.gas + gd, mem := p.mem } : AFrame).settle 0 [f.self] 1 :: rest } := by
      unfold ASt.leave
      simp [hmd, hdp2, hne]
    rw [hE]; exact h1
  · have hn2 : p.outLen = 0 := by omega
    refine (mEnd_mE_T1y h hst hph hv hmd gd hdp hgd hne hn2 hpg hps hpp).mono ?_
    rintro e w1 ⟨rfl, own', c', h1, m1⟩
    refine ⟨rfl, own', c', ?_, m1⟩
    have hV : V.ends s f 0 out = V := by unfold EV.ends; simp [hmd, hdp2, hne]
    rw [hV]
    have hE : st.leave f (p :: rest) 0 out = { st with now := st.now, ret := [], frames := ({ p with gas := p.gas + gd, mem := p.mem } : AFrame).settle 0 [f.self] 1 :: rest } := by
      unfold ASt.leave
      simp [hmd, hdp2, hne, hn2]
    rw [hE]; exact h1
theorem mEnd_mF_A {out : List Nat} {v : Value} (h : MRep own w g c V st (s :: sn) stale) (hst : st.frames = f :: []) (hph : st.phase = 1) (hv : NL (Mu own) w v out) (hmd : createsA f.kind = true) (sx : Nat) (hdp : depositA f.gas out = (0, sx)) (hsx : 1 < sx) (hsx2 : sx < 256) : Calls Hvah.prog 195 #[.pointer (some ⟨g, 0, none⟩), .int .u8 (0 : Nat), v] w fun e w' => e = .returned (.tuple #[]) ∧ ∃ own' c', MRep own' w' g c' (V.ends s f 0 out) (st.leave f [] 0 out) sn (f.mem ++ stale) ∧ MStep own w own' w' := by
  have hsx0 : ¬ sx = 0 := by omega
  have hsx00 : ¬ sx ≤ 1 := by omega
  refine (mEnd_mF_T0 h hst hph hv hmd sx hdp hsx hsx2).mono ?_
  rintro e w1 ⟨rfl, own', c', h1, m1⟩
  refine ⟨rfl, own', c', ?_, m1⟩
  have hV : V.ends s f 0 out = (V.revertTo s) := by unfold EV.ends; simp [hmd, hdp, hsx, hsx0, hsx00]
  rw [hV]
  have hE : st.leave f [] 0 out = { st with now := f.saved, ret := [], frames := [], phase := 2, status := sx, left := 0 } := by
    unfold ASt.leave
    simp [hmd, hdp, hsx, hsx0, hsx00]
  rw [hE]; exact h1
theorem mEnd_mF_B {out : List Nat} {p : AFrame} {v : Value} (h : MRep own w g c V st (s :: sn) stale) (hst : st.frames = f :: (p :: rest)) (hph : st.phase = 1) (hv : NL (Mu own) w v out) (hmd : createsA f.kind = true) (sx : Nat) (hdp : depositA f.gas out = (0, sx)) (hsx : 1 < sx) (hsx2 : sx < 256) (hpg : p.gas + 0 ≤ 1048576) (hps : p.stack.length < 64) (hpp : p.pc ≤ 50000) : Calls Hvah.prog 195 #[.pointer (some ⟨g, 0, none⟩), .int .u8 (0 : Nat), v] w fun e w' => e = .returned (.tuple #[]) ∧ ∃ own' c', MRep own' w' g c' (V.ends s f 0 out) (st.leave f (p :: rest) 0 out) sn (f.mem ++ stale) ∧ MStep own w own' w' := by
  have hsx0 : ¬ sx = 0 := by omega
  have hsx00 : ¬ sx ≤ 1 := by omega
  by_cases hn1 : 0 < p.outLen
  · have hmin : min p.outLen 0 = 0 := by omega
    refine (mEnd_mF_T1x h hst hph hv hmd sx hdp hsx hsx2 hn1 hpg hps hpp).mono ?_
    rintro e w1 ⟨rfl, own', c', h1, m1⟩
    refine ⟨rfl, own', c', ?_, m1⟩
    have hV : V.ends s f 0 out = (V.revertTo s) := by unfold EV.ends; simp [hmd, hdp, hsx, hsx0, hsx00]
    rw [hV]
    have hE : st.leave f (p :: rest) 0 out = { st with now := f.saved, ret := [], frames := ({ p with gas := p.gas + 0, mem := p.mem } : AFrame).settle 0 [0] 1 :: rest } := by
      unfold ASt.leave
      simp [hmd, hdp, hsx, hsx0, hsx00]
    rw [hE]; exact h1
  · have hn2 : p.outLen = 0 := by omega
    refine (mEnd_mF_T1y h hst hph hv hmd sx hdp hsx hsx2 hn2 hpg hps hpp).mono ?_
    rintro e w1 ⟨rfl, own', c', h1, m1⟩
    refine ⟨rfl, own', c', ?_, m1⟩
    have hV : V.ends s f 0 out = (V.revertTo s) := by unfold EV.ends; simp [hmd, hdp, hsx, hsx0, hsx00]
    rw [hV]
    have hE : st.leave f (p :: rest) 0 out = { st with now := f.saved, ret := [], frames := ({ p with gas := p.gas + 0, mem := p.mem } : AFrame).settle 0 [0] 1 :: rest } := by
      unfold ASt.leave
      simp [hmd, hdp, hsx, hsx0, hsx00, hn2]
    rw [hE]; exact h1
/-- The top frame ends. -/
theorem mEnd {out : List Nat} {v : Value} (h : MRep own w g c V st (s :: sn) stale) (hst : st.frames = f :: rest) (hph : st.phase = 1) (hv : NL (Mu own) w v out) (hr : Room V 2) (status : Nat) (hs : status < 256) (hp : ∀ p r, rest = p :: r → p.gas + f.gas ≤ 1048576 ∧ p.stack.length < 64 ∧ p.pc ≤ 50000) : Calls Hvah.prog 195 #[.pointer (some ⟨g, 0, none⟩), .int .u8 (status : Nat), v] w fun e w' => e = .returned (.tuple #[]) ∧ ∃ own' c', MRep own' w' g c' (V.ends s f status out) (st.leave f rest status out) sn (f.mem ++ stale) ∧ MStep own w own' w' := by
  cases rest with
  | nil =>
    cases hmd : createsA f.kind with
    | false =>
      by_cases h0 : status = 0
      · subst h0; exact mEnd_n0_A h hst hph hv hmd
      by_cases h1 : status = 1
      · subst h1; exact mEnd_n1f_A h hst hph hv hmd
      exact mEnd_nFf_A h hst hph hv hmd status (by omega) hs
    | true =>
      by_cases h0 : status = 0
      · subst h0
        by_cases hd : (depositA f.gas out).2 = 0
        · obtain ⟨q1, q2⟩ := deposit_ok hd
          by_cases hn : out = []
          · exact mEnd_mE_A h hst hph hv hmd (depositA f.gas out).1 (Prod.ext rfl hd) q1 hn
          · exact mEnd_mC_A h hst hph hv hr hmd (depositA f.gas out).1 (Prod.ext rfl hd) q1 hn q2
        · obtain ⟨q1, q2, q3⟩ := deposit_bad hd
          exact mEnd_mF_A h hst hph hv hmd (depositA f.gas out).2 (Prod.ext q1 rfl) q2 q3
      by_cases h1 : status = 1
      · subst h1; exact mEnd_n1t_A h hst hph hv hmd
      exact mEnd_nFt_A h hst hph hv hmd status (by omega) hs
  | cons p rest =>
    obtain ⟨p1, p2, p3⟩ := hp p rest rfl
    cases hmd : createsA f.kind with
    | false =>
      by_cases h0 : status = 0
      · subst h0; exact mEnd_n0_B h hst hph hv hmd p1 p2 p3
      by_cases h1 : status = 1
      · subst h1; exact mEnd_n1f_B h hst hph hv hmd p1 p2 p3
      exact mEnd_nFf_B h hst hph hv hmd status (by omega) hs (by omega) p2 p3
    | true =>
      by_cases h0 : status = 0
      · subst h0
        by_cases hd : (depositA f.gas out).2 = 0
        · obtain ⟨q1, q2⟩ := deposit_ok hd
          by_cases hn : out = []
          · exact mEnd_mE_B h hst hph hv hmd (depositA f.gas out).1 (Prod.ext rfl hd) q1 hn (by omega) p2 p3
          · exact mEnd_mC_B h hst hph hv hr hmd (depositA f.gas out).1 (Prod.ext rfl hd) q1 hn q2 (by omega) p2 p3
        · obtain ⟨q1, q2, q3⟩ := deposit_bad hd
          exact mEnd_mF_B h hst hph hv hmd (depositA f.gas out).2 (Prod.ext q1 rfl) q2 q3 (by omega) p2 p3
      by_cases h1 : status = 1
      · subst h1; exact mEnd_n1t_B h hst hph hv hmd p1 p2 p3
      exact mEnd_nFt_B h hst hph hv hmd status (by omega) hs (by omega) p2 p3
end
end Go.Proofs.YgvahwGreat
