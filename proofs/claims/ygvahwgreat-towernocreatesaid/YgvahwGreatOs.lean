import Derived.Test.YgvahwGreatOr
namespace Go.Proofs.YgvahwGreat
open Go.RowKit
set_option linter.unusedSimpArgs false
theorem takes_le2 (o : Nat) (ho : o < 256) : takesA o ≤ 17 ∧ givesA o ≤ 17 := by
  have h : ∀ o : Fin 256, takesA o.1 ≤ 17 ∧ givesA o.1 ≤ 17 := by decide +kernel
  exact h ⟨o, ho⟩
theorem refusal_split (st : ASt) (f : AFrame) (o : Nat) : st.refusal f o = if famA o = 0 then 5 else if f.stack.length < takesA o then 3 else if 64 < f.stack.length - takesA o + givesA o then 4 else st.refusal4 f o := by
  unfold ASt.refusal ASt.refusal4
  cases f.static <;> cases f.writes o <;> rfl
/-- What Admit answers. -/
def AdmOut (own : Nat → Nat) (w : World) (g : Nat) (V : EV) (st : ASt) (s : Nat) (sn stale : List Nat) (f : AFrame) (rest : List AFrame) (o : Nat) (e : Ending) (w' : World) : Prop :=
  (st.refusal f o ≠ 0 ∧ e = .returned (.bool false) ∧ ∃ own' c', MRep own' w' g c' (V.ends s f (st.refusal f o) []) (st.leave f rest (st.refusal f o) []) sn (f.mem ++ stale) ∧ MStep own w own' w') ∨ (st.refusal f o = 0 ∧ e = .returned (.bool true) ∧ ∃ own' c' stale', MRep own' w' g c' V { st with frames := { f with gas := f.gas - st.cost f o, mem := growA f.mem (f.reach o) } :: rest } (s :: sn) stale' ∧ MStep own w own' w')
section
variable {own : Nat → Nat} {w : World} {g : Nat} {c : Nat → Value} {V : EV} {st : ASt} {sn stale : List Nat} {s : Nat} {f : AFrame} {rest : List AFrame}
set_option maxRecDepth 100000 in
set_option maxHeartbeats 6400000 in
theorem mAdmit_5 {Q : World → Prop} (h : MRep own w g c V st (s :: sn) stale) (hst : st.frames = f :: rest) (hph : st.phase = 1) (o tk gv sg : Nat) (HF : ∀ W, Ext w W → Calls Hvah.prog 194 #[.pointer (some ⟨g, 0, none⟩), .int .u8 (5 : Nat)] W fun e w' => e = .returned (.bool false) ∧ Q w') : Calls Hvah.prog 119 #[.pointer (some ⟨g, 0, none⟩), .int .u8 (o : Nat), .int .u8 (tk : Nat), .int .u8 (gv : Nat), .int .u16 (sg : Nat), .bool false] w fun e w' => e = .returned (.bool false) ∧ Q w' := by
  have HR := fun W (hW : Ext w W) => mRun (h.ext hW) hst hph
  go_enter Hvah.func119, Hvah.ntmps119
  go_wp2_with (first | (go_at_call 192; refine (HR _ (by (repeat (first | with_reducible exact Ext.refl _ | with_reducible assumption | refine Ext.trans ?_ (by with_reducible assumption) | refine Ext.alloc ?_ _ _ | refine Ext.drew ?_ | refine Ext.drewN ?_ _)))).mono ?_; rintro e w1 ⟨rfl, he⟩) | (go_at_call 194; refine (HF _ (by (repeat (first | with_reducible exact Ext.refl _ | with_reducible assumption | refine Ext.trans ?_ (by with_reducible assumption) | refine Ext.alloc ?_ _ _ | refine Ext.drew ?_ | refine Ext.drewN ?_ _)))).mono ?_; rintro e w9 ⟨rfl, hq⟩))
  go_ret
  exact ⟨rfl, hq⟩
set_option maxRecDepth 100000 in
set_option maxHeartbeats 6400000 in
theorem mAdmit_3 {Q : World → Prop} (h : MRep own w g c V st (s :: sn) stale) (hst : st.frames = f :: rest) (hph : st.phase = 1) (o tk gv sg : Nat) (htk : tk ≤ 17) (h3 : f.stack.length < tk) (HF : ∀ W, Ext w W → Calls Hvah.prog 194 #[.pointer (some ⟨g, 0, none⟩), .int .u8 (3 : Nat)] W fun e w' => e = .returned (.bool false) ∧ Q w') : Calls Hvah.prog 119 #[.pointer (some ⟨g, 0, none⟩), .int .u8 (o : Nat), .int .u8 (tk : Nat), .int .u8 (gv : Nat), .int .u16 (sg : Nat), .bool true] w fun e w' => e = .returned (.bool false) ∧ Q w' := by
  have HR := fun W (hW : Ext w W) => mRun (h.ext hW) hst hph
  obtain ⟨hfr, hr7⟩ := h.frame hst
  have KB := fun W (hW : Ext w W) => h.v.blk.ext hW
  have kSP := hfr.sp
  have hsl := hfr.ok.sLen
  obtain ⟨sp, hsp⟩ : ∃ x, Hid (f.stack.length = x) := ⟨_, rfl⟩
  rw [hsp.out] at kSP hsl h3
  have w1 : IntKind.u16.wrap (tk : Int) = tk := by rw [IntKind.wrap_u16]; omega
  have z3 : (sp : Int) < tk := by omega
  go_enter Hvah.func119, Hvah.ntmps119
  go_wp2_with (first | (go_at_call 192; refine (HR _ (by (repeat (first | with_reducible exact Ext.refl _ | with_reducible assumption | refine Ext.trans ?_ (by with_reducible assumption) | refine Ext.alloc ?_ _ _ | refine Ext.drew ?_ | refine Ext.drewN ?_ _)))).mono ?_; rintro e w1 ⟨rfl, he⟩) | ((with_reducible (refine Veil.out ?_; apply wl_load1 onel68)); (case hx => rfl); (case hB => exact KB _ (by (repeat (first | with_reducible exact Ext.refl _ | with_reducible assumption | refine Ext.trans ?_ (by with_reducible assumption) | refine Ext.alloc ?_ _ _ | refine Ext.drew ?_ | refine Ext.drewN ?_ _)))); (case ho => omega); rw [kSP]) | (go_at_call 194; refine (HF _ (by (repeat (first | with_reducible exact Ext.refl _ | with_reducible assumption | refine Ext.trans ?_ (by with_reducible assumption) | refine Ext.alloc ?_ _ _ | refine Ext.drew ?_ | refine Ext.drewN ?_ _)))).mono ?_; rintro e w9 ⟨rfl, hq⟩))
  go_ret
  exact ⟨rfl, hq⟩
set_option maxRecDepth 100000 in
set_option maxHeartbeats 6400000 in
theorem mAdmit_4 {Q : World → Prop} (h : MRep own w g c V st (s :: sn) stale) (hst : st.frames = f :: rest) (hph : st.phase = 1) (o tk gv sg : Nat) (htk : tk ≤ 17) (hgv : gv ≤ 17) (h3 : ¬ f.stack.length < tk) (h4 : 64 < f.stack.length - tk + gv) (HF : ∀ W, Ext w W → Calls Hvah.prog 194 #[.pointer (some ⟨g, 0, none⟩), .int .u8 (4 : Nat)] W fun e w' => e = .returned (.bool false) ∧ Q w') : Calls Hvah.prog 119 #[.pointer (some ⟨g, 0, none⟩), .int .u8 (o : Nat), .int .u8 (tk : Nat), .int .u8 (gv : Nat), .int .u16 (sg : Nat), .bool true] w fun e w' => e = .returned (.bool false) ∧ Q w' := by
  have HR := fun W (hW : Ext w W) => mRun (h.ext hW) hst hph
  obtain ⟨hfr, hr7⟩ := h.frame hst
  have KB := fun W (hW : Ext w W) => h.v.blk.ext hW
  have kSP := hfr.sp
  have hsl := hfr.ok.sLen
  obtain ⟨sp, hsp⟩ : ∃ x, Hid (f.stack.length = x) := ⟨_, rfl⟩
  rw [hsp.out] at kSP hsl h3 h4
  have w1 : IntKind.u16.wrap (tk : Int) = tk := by rw [IntKind.wrap_u16]; omega
  have z3 : ¬ (sp : Int) < tk := by omega
  have w2 : IntKind.u16.wrap (gv : Int) = gv := by rw [IntKind.wrap_u16]; omega
  obtain ⟨df, hdf⟩ : ∃ x, Hid (sp - tk = x) := ⟨_, rfl⟩
  have w3 : IntKind.u16.wrap ((sp : Int) - tk) = (df : Nat) := by rw [← hdf.out, IntKind.wrap_u16]; omega
  rw [hdf.out] at h4
  have w4 : IntKind.u16.wrap ((df : Int) + gv) = (df : Int) + gv := by rw [IntKind.wrap_u16]; have := hdf.out; omega
  have z4 : (64 : Int) < (df : Int) + gv := by omega
  go_enter Hvah.func119, Hvah.ntmps119
  go_wp2_with (first | (go_at_call 192; refine (HR _ (by (repeat (first | with_reducible exact Ext.refl _ | with_reducible assumption | refine Ext.trans ?_ (by with_reducible assumption) | refine Ext.alloc ?_ _ _ | refine Ext.drew ?_ | refine Ext.drewN ?_ _)))).mono ?_; rintro e w1 ⟨rfl, he⟩) | ((with_reducible (refine Veil.out ?_; apply wl_load1 onel68)); (case hx => rfl); (case hB => exact KB _ (by (repeat (first | with_reducible exact Ext.refl _ | with_reducible assumption | refine Ext.trans ?_ (by with_reducible assumption) | refine Ext.alloc ?_ _ _ | refine Ext.drew ?_ | refine Ext.drewN ?_ _)))); (case ho => omega); rw [kSP]) | (go_at_call 194; refine (HF _ (by (repeat (first | with_reducible exact Ext.refl _ | with_reducible assumption | refine Ext.trans ?_ (by with_reducible assumption) | refine Ext.alloc ?_ _ _ | refine Ext.drew ?_ | refine Ext.drewN ?_ _)))).mono ?_; rintro e w9 ⟨rfl, hq⟩))
  go_ret
  exact ⟨rfl, hq⟩
set_option maxRecDepth 100000 in
set_option maxHeartbeats 6400000 in
theorem mAdmit_P {Q : Bool → World → Prop} (h : MRep own w g c V st (s :: sn) stale) (hst : st.frames = f :: rest) (hph : st.phase = 1) (o tk gv sg : Nat) (htk : tk ≤ 17) (hgv : gv ≤ 17) (h3 : ¬ f.stack.length < tk) (h4 : ¬ 64 < f.stack.length - tk + gv) (HP : ∀ W, Ext w W → Calls Hvah.prog 197 #[.pointer (some ⟨g, 0, none⟩), .int .u8 (o : Nat), .int .u16 (sg : Nat)] W fun e w' => ∃ b, e = .returned (.bool b) ∧ Q b w') : Calls Hvah.prog 119 #[.pointer (some ⟨g, 0, none⟩), .int .u8 (o : Nat), .int .u8 (tk : Nat), .int .u8 (gv : Nat), .int .u16 (sg : Nat), .bool true] w fun e w' => ∃ b, e = .returned (.bool b) ∧ Q b w' := by
  have HR := fun W (hW : Ext w W) => mRun (h.ext hW) hst hph
  obtain ⟨hfr, hr7⟩ := h.frame hst
  have KB := fun W (hW : Ext w W) => h.v.blk.ext hW
  have kSP := hfr.sp
  have hsl := hfr.ok.sLen
  obtain ⟨sp, hsp⟩ : ∃ x, Hid (f.stack.length = x) := ⟨_, rfl⟩
  rw [hsp.out] at kSP hsl h3 h4
  have w1 : IntKind.u16.wrap (tk : Int) = tk := by rw [IntKind.wrap_u16]; omega
  have z3 : ¬ (sp : Int) < tk := by omega
  have w2 : IntKind.u16.wrap (gv : Int) = gv := by rw [IntKind.wrap_u16]; omega
  obtain ⟨df, hdf⟩ : ∃ x, Hid (sp - tk = x) := ⟨_, rfl⟩
  have w3 : IntKind.u16.wrap ((sp : Int) - tk) = (df : Nat) := by rw [← hdf.out, IntKind.wrap_u16]; omega
  rw [hdf.out] at h4
  have w4 : IntKind.u16.wrap ((df : Int) + gv) = (df : Int) + gv := by rw [IntKind.wrap_u16]; have := hdf.out; omega
  have z4 : ¬ (64 : Int) < (df : Int) + gv := by omega
  go_enter Hvah.func119, Hvah.ntmps119
  go_wp2_with (first | (go_at_call 192; refine (HR _ (by (repeat (first | with_reducible exact Ext.refl _ | with_reducible assumption | refine Ext.trans ?_ (by with_reducible assumption) | refine Ext.alloc ?_ _ _ | refine Ext.drew ?_ | refine Ext.drewN ?_ _)))).mono ?_; rintro e w1 ⟨rfl, he⟩) | ((with_reducible (refine Veil.out ?_; apply wl_load1 onel68)); (case hx => rfl); (case hB => exact KB _ (by (repeat (first | with_reducible exact Ext.refl _ | with_reducible assumption | refine Ext.trans ?_ (by with_reducible assumption) | refine Ext.alloc ?_ _ _ | refine Ext.drew ?_ | refine Ext.drewN ?_ _)))); (case ho => omega); rw [kSP]) | (go_at_call 197; refine (HP _ (by (repeat (first | with_reducible exact Ext.refl _ | with_reducible assumption | refine Ext.trans ?_ (by with_reducible assumption) | refine Ext.alloc ?_ _ _ | refine Ext.drew ?_ | refine Ext.drewN ?_ _)))).mono ?_; rintro e w9 ⟨bb, rfl, hq⟩))
  go_ret
  exact ⟨bb, rfl, hq⟩
theorem mAdmit (h : MRep own w g c V st (s :: sn) stale) (hst : st.frames = f :: rest) (hph : st.phase = 1) (hr : Room V 2) (hp : ∀ p r, rest = p :: r → p.gas + f.gas ≤ 1048576 ∧ p.stack.length < 64 ∧ p.pc ≤ 50000) (hI : f.gas + memCostA (f.mem.length / 32) ≤ 1048576) (o : Nat) (ho : o < 256) :
    Calls Hvah.prog 119 #[.pointer (some ⟨g, 0, none⟩), .int .u8 (o : Nat), .int .u8 (takesA o : Nat), .int .u8 (givesA o : Nat), .int .u16 (sgasA o : Nat), .bool (!decide (famA o = 0))] w (AdmOut own w g V st s sn stale f rest o) := by
  have HE : ∀ x : Nat, x < 256 → ∀ W, Ext w W → Calls Hvah.prog 194 #[.pointer (some ⟨g, 0, none⟩), .int .u8 (x : Nat)] W fun e w' => e = .returned (.bool false) ∧ ∃ own' c', MRep own' w' g c' (V.ends s f x []) (st.leave f rest x []) sn (f.mem ++ stale) ∧ MStep own w own' w' := fun x hx W hW =>
    mFail x (fun W1 hW1 => (mEnd (h.ext (hW.trans hW1)) hst hph (NL.nil (O := Mu own)) hr x hx hp).mono (fun e w' q => by
      obtain ⟨q1, own', c', q2, q3⟩ := q
      exact ⟨q1, own', c', q2, (MStep.ext (hW.trans hW1)).trans q3⟩))
  have bad : ∀ x : Nat, x ≠ 0 → st.refusal f o = x → ∀ (e : Ending) (w' : World), (e = .returned (.bool false) ∧ ∃ own' c', MRep own' w' g c' (V.ends s f x []) (st.leave f rest x []) sn (f.mem ++ stale) ∧ MStep own w own' w') → AdmOut own w g V st s sn stale f rest o e w' := fun x hx hs e w' q => by
    refine Or.inl ⟨by rw [hs]; exact hx, q.1, ?_⟩
    rw [hs]; exact q.2
  have hrs := refusal_split st f o
  obtain ⟨t1, t2⟩ := takes_le2 o ho
  by_cases h5 : famA o = 0
  · rw [if_pos h5] at hrs
    rw [decide_eq_true h5]
    exact (mAdmit_5 h hst hph o _ _ _ (HE 5 (by decide))).mono (bad 5 (by decide) hrs)
  rw [if_neg h5] at hrs
  rw [decide_eq_false h5]
  by_cases h3 : f.stack.length < takesA o
  · rw [if_pos h3] at hrs
    exact (mAdmit_3 h hst hph o _ _ _ t1 h3 (HE 3 (by decide))).mono (bad 3 (by decide) hrs)
  rw [if_neg h3] at hrs
  by_cases h4 : 64 < f.stack.length - takesA o + givesA o
  · rw [if_pos h4] at hrs
    exact (mAdmit_4 h hst hph o _ _ _ t1 t2 h3 h4 (HE 4 (by decide))).mono (bad 4 (by decide) hrs)
  rw [if_neg h4] at hrs
  have HP : ∀ W, Ext w W → Calls Hvah.prog 197 #[.pointer (some ⟨g, 0, none⟩), .int .u8 (o : Nat), .int .u16 (sgasA o : Nat)] W fun e w' => ∃ b, e = .returned (.bool b) ∧ AdmOut own w g V st s sn stale f rest o (.returned (.bool b)) w' := fun W hW => (mPass (h.ext hW) hst hph hr hp hI o ho h5).mono (fun e w' q => by
    rcases q with ⟨q1, rfl, own', c', q2, q3⟩ | ⟨q1, rfl, own', c', stale', q2, q3⟩
    · exact ⟨false, rfl, Or.inl ⟨by rw [hrs]; exact q1, rfl, own', c', by rw [hrs]; exact q2, (MStep.ext hW).trans q3⟩⟩
    · exact ⟨true, rfl, Or.inr ⟨by rw [hrs]; exact q1, rfl, own', c', stale', q2, (MStep.ext hW).trans q3⟩⟩)
  exact (mAdmit_P h hst hph o _ _ _ t1 t2 h3 h4 HP).mono (fun e w' q => by
    obtain ⟨b, rfl, q2⟩ := q
    exact q2)
end
end Go.Proofs.YgvahwGreat
