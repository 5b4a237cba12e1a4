import Derived.Test.YgvahwGreatMachE
namespace Go.Proofs.YgvahwGreat
open Go.RowKit
attribute [local go_sem] wv_fold run_eq_wv
section
variable {own : Nat → Nat} {w : World} {g : Nat} {c : Nat → Value} {V : EV} {st : ASt} {sn stale : List Nat} {f : AFrame} {rest : List AFrame} {s : Nat}
set_option maxRecDepth 100000 in
set_option maxHeartbeats 1600000 in
theorem mOp191_16 (h : MRep own w g c V st (s :: sn) stale) (hst : st.frames = f :: rest) (hph : st.phase = 1) (ho : f.opcode = 16) (hl : 2 ≤ f.stack.length) (hpc : f.pc ≤ 50000) :
    Calls Hvah.prog 199 #[.pointer (some ⟨g, 0, none⟩)] w fun e w' => e = .returned (.tuple #[]) ∧ ∃ c', MRep own w' g c' V { st with frames := f.settle 2 [alu 16 (f.arg 0) (f.arg 1) (f.arg 2)] 1 :: rest } (s :: sn) stale ∧ MStep own w own w' := by
  have hok := (h.frame hst).1.ok
  have ha := arg_lt hok 0
  have hb := arg_lt hok 1
  have hc := arg_lt hok 2
  have hsl := hok.sLen
  have eX : alu 16 (f.arg 0) (f.arg 1) (f.arg 2) = b2n (decide (f.arg 0 < f.arg 1)) := rfl
  rw [eX]
  have hX : b2n (decide (f.arg 0 < f.arg 1)) < P256 := b2n_lt _
  have HR := fun W (hW : Ext w W) => mRun (h.ext hW) hst hph
  have H0 := fun W (hW : Ext w W) => mArg (h.ext hW) hst 0 (by decide)
  have H1 := fun W (hW : Ext w W) => mArg (h.ext hW) hst 1 (by decide)
  have HO := fun W (hW : Ext w W) => mOp (h.ext hW) hst hph
  rw [ho] at HO
  have HS := mSetP h hst 2 1 (b2n (decide (f.arg 0 < f.arg 1))) (by omega) (by omega) hX (by omega)
  have hE := Ext.refl w
  generalize 1803 + rest.length * 65 = F at HR H0 H1 HO HS
  generalize f.arg 0 = A at *
  generalize f.arg 1 = B at *
  go_enter Hvah.func199, Hvah.ntmps199
  go_wp2_with (first | (go_at_call 192; refine (HR _ hE).mono ?_; rintro e w0 ⟨rfl, he⟩; replace hE := hE.trans he; clear he) | (go_at_call_of 273 (Value.int .i64 0); refine (H0 _ hE).mono ?_; rintro e w1 ⟨rfl, he⟩; replace hE := (hE.trans he).alloc (wvA A) 79; have hA := Ext.refl (w1.alloc (.cells (wvA A) 79)); clear he) | (go_at_call_of 273 (Value.int .i64 1); refine (H1 _ hE).mono ?_; rintro e w2 ⟨rfl, he⟩; replace hE := (hE.trans he).alloc (wvA B) 79; replace hA := (hA.trans he).alloc (wvA B) 79; have hBx := Ext.refl (w2.alloc (.cells (wvA B) 79)); clear he) | (go_at_call 117; refine (HO _ hE).mono ?_; rintro e w3 ⟨rfl, he⟩; replace hE := hE.trans he; replace hA := hA.trans he; replace hBx := hBx.trans he; clear he) | ((with_reducible (refine Veil.out ?_; apply wl_loadW)); (case hx => rfl); (case hr => first | (with_reducible exact boxes1 _ (wvA A) 79 _ hA) | (with_reducible exact boxes1 _ (wvA B) 79 _ hBx))) | (go_at_call 121; refine (uLt A B _ ha hb).mono ?_; rintro e w4 ⟨rfl, he⟩; replace hE := hE.trans he; clear he) | (go_at_call 292; refine (mFlag _ _).mono ?_; rintro e w5 ⟨rfl, he⟩; replace hE := hE.trans he; clear he) | (go_at_call 268; refine (HS _ hE).mono ?_; rintro e w9 ⟨rfl, hfin⟩))
  go_end0
  exact ⟨rfl, hfin⟩
set_option maxRecDepth 100000 in
set_option maxHeartbeats 1600000 in
theorem mOp191_17 (h : MRep own w g c V st (s :: sn) stale) (hst : st.frames = f :: rest) (hph : st.phase = 1) (ho : f.opcode = 17) (hl : 2 ≤ f.stack.length) (hpc : f.pc ≤ 50000) :
    Calls Hvah.prog 199 #[.pointer (some ⟨g, 0, none⟩)] w fun e w' => e = .returned (.tuple #[]) ∧ ∃ c', MRep own w' g c' V { st with frames := f.settle 2 [alu 17 (f.arg 0) (f.arg 1) (f.arg 2)] 1 :: rest } (s :: sn) stale ∧ MStep own w own w' := by
  have hok := (h.frame hst).1.ok
  have ha := arg_lt hok 0
  have hb := arg_lt hok 1
  have hc := arg_lt hok 2
  have hsl := hok.sLen
  have eX : alu 17 (f.arg 0) (f.arg 1) (f.arg 2) = b2n (decide (f.arg 1 < f.arg 0)) := rfl
  rw [eX]
  have hX : b2n (decide (f.arg 1 < f.arg 0)) < P256 := b2n_lt _
  have HR := fun W (hW : Ext w W) => mRun (h.ext hW) hst hph
  have H0 := fun W (hW : Ext w W) => mArg (h.ext hW) hst 0 (by decide)
  have H1 := fun W (hW : Ext w W) => mArg (h.ext hW) hst 1 (by decide)
  have HO := fun W (hW : Ext w W) => mOp (h.ext hW) hst hph
  rw [ho] at HO
  have HS := mSetP h hst 2 1 (b2n (decide (f.arg 1 < f.arg 0))) (by omega) (by omega) hX (by omega)
  have hE := Ext.refl w
  generalize 1803 + rest.length * 65 = F at HR H0 H1 HO HS
  generalize f.arg 0 = A at *
  generalize f.arg 1 = B at *
  go_enter Hvah.func199, Hvah.ntmps199
  go_wp2_with (first | (go_at_call 192; refine (HR _ hE).mono ?_; rintro e w0 ⟨rfl, he⟩; replace hE := hE.trans he; clear he) | (go_at_call_of 273 (Value.int .i64 0); refine (H0 _ hE).mono ?_; rintro e w1 ⟨rfl, he⟩; replace hE := (hE.trans he).alloc (wvA A) 79; have hA := Ext.refl (w1.alloc (.cells (wvA A) 79)); clear he) | (go_at_call_of 273 (Value.int .i64 1); refine (H1 _ hE).mono ?_; rintro e w2 ⟨rfl, he⟩; replace hE := (hE.trans he).alloc (wvA B) 79; replace hA := (hA.trans he).alloc (wvA B) 79; have hBx := Ext.refl (w2.alloc (.cells (wvA B) 79)); clear he) | (go_at_call 117; refine (HO _ hE).mono ?_; rintro e w3 ⟨rfl, he⟩; replace hE := hE.trans he; replace hA := hA.trans he; replace hBx := hBx.trans he; clear he) | ((with_reducible (refine Veil.out ?_; apply wl_loadW)); (case hx => rfl); (case hr => first | (with_reducible exact boxes1 _ (wvA A) 79 _ hA) | (with_reducible exact boxes1 _ (wvA B) 79 _ hBx))) | (go_at_call 174; refine (uGt A B _ ha hb).mono ?_; rintro e w4 ⟨rfl, he⟩; replace hE := hE.trans he; clear he) | (go_at_call 292; refine (mFlag _ _).mono ?_; rintro e w5 ⟨rfl, he⟩; replace hE := hE.trans he; clear he) | (go_at_call 268; refine (HS _ hE).mono ?_; rintro e w9 ⟨rfl, hfin⟩))
  go_end0
  exact ⟨rfl, hfin⟩
set_option maxRecDepth 100000 in
set_option maxHeartbeats 1600000 in
theorem mOp191_18 (h : MRep own w g c V st (s :: sn) stale) (hst : st.frames = f :: rest) (hph : st.phase = 1) (ho : f.opcode = 18) (hl : 2 ≤ f.stack.length) (hpc : f.pc ≤ 50000) :
    Calls Hvah.prog 199 #[.pointer (some ⟨g, 0, none⟩)] w fun e w' => e = .returned (.tuple #[]) ∧ ∃ c', MRep own w' g c' V { st with frames := f.settle 2 [alu 18 (f.arg 0) (f.arg 1) (f.arg 2)] 1 :: rest } (s :: sn) stale ∧ MStep own w own w' := by
  have hok := (h.frame hst).1.ok
  have ha := arg_lt hok 0
  have hb := arg_lt hok 1
  have hc := arg_lt hok 2
  have hsl := hok.sLen
  have eX : alu 18 (f.arg 0) (f.arg 1) (f.arg 2) = b2n (sltW (f.arg 0) (f.arg 1)) := rfl
  rw [eX]
  have hX : b2n (sltW (f.arg 0) (f.arg 1)) < P256 := b2n_lt _
  have HR := fun W (hW : Ext w W) => mRun (h.ext hW) hst hph
  have H0 := fun W (hW : Ext w W) => mArg (h.ext hW) hst 0 (by decide)
  have H1 := fun W (hW : Ext w W) => mArg (h.ext hW) hst 1 (by decide)
  have HO := fun W (hW : Ext w W) => mOp (h.ext hW) hst hph
  rw [ho] at HO
  have HS := mSetP h hst 2 1 (b2n (sltW (f.arg 0) (f.arg 1))) (by omega) (by omega) hX (by omega)
  have HL : ∀ W, Calls Hvah.prog 290 #[wv (f.arg 0), wv (f.arg 1)] W fun e w' => e = .returned (.bool (sltW (f.arg 0) (f.arg 1))) ∧ Ext W w' := fun W => uSlt _ _ W ha hb
  have hE := Ext.refl w
  generalize 1803 + rest.length * 65 = F at HR H0 H1 HO HS
  generalize f.arg 0 = A at *
  generalize f.arg 1 = B at *
  go_enter Hvah.func199, Hvah.ntmps199
  go_wp2_with (first | (go_at_call 192; refine (HR _ hE).mono ?_; rintro e w0 ⟨rfl, he⟩; replace hE := hE.trans he; clear he) | (go_at_call_of 273 (Value.int .i64 0); refine (H0 _ hE).mono ?_; rintro e w1 ⟨rfl, he⟩; replace hE := (hE.trans he).alloc (wvA A) 79; have hA := Ext.refl (w1.alloc (.cells (wvA A) 79)); clear he) | (go_at_call_of 273 (Value.int .i64 1); refine (H1 _ hE).mono ?_; rintro e w2 ⟨rfl, he⟩; replace hE := (hE.trans he).alloc (wvA B) 79; replace hA := (hA.trans he).alloc (wvA B) 79; have hBx := Ext.refl (w2.alloc (.cells (wvA B) 79)); clear he) | (go_at_call 117; refine (HO _ hE).mono ?_; rintro e w3 ⟨rfl, he⟩; replace hE := hE.trans he; replace hA := hA.trans he; replace hBx := hBx.trans he; clear he) | ((with_reducible (refine Veil.out ?_; apply wl_loadW)); (case hx => rfl); (case hr => first | (with_reducible exact boxes1 _ (wvA A) 79 _ hA) | (with_reducible exact boxes1 _ (wvA B) 79 _ hBx))) | (go_at_call 290; refine (HL _).mono ?_; rintro e w4 ⟨rfl, he⟩; replace hE := hE.trans he; clear he) | (go_at_call 292; refine (mFlag _ _).mono ?_; rintro e w5 ⟨rfl, he⟩; replace hE := hE.trans he; clear he) | (go_at_call 268; refine (HS _ hE).mono ?_; rintro e w9 ⟨rfl, hfin⟩))
  go_end0
  exact ⟨rfl, hfin⟩
set_option maxRecDepth 100000 in
set_option maxHeartbeats 1600000 in
theorem mOp191_19 (h : MRep own w g c V st (s :: sn) stale) (hst : st.frames = f :: rest) (hph : st.phase = 1) (ho : f.opcode = 19) (hl : 2 ≤ f.stack.length) (hpc : f.pc ≤ 50000) :
    Calls Hvah.prog 199 #[.pointer (some ⟨g, 0, none⟩)] w fun e w' => e = .returned (.tuple #[]) ∧ ∃ c', MRep own w' g c' V { st with frames := f.settle 2 [alu 19 (f.arg 0) (f.arg 1) (f.arg 2)] 1 :: rest } (s :: sn) stale ∧ MStep own w own w' := by
  have hok := (h.frame hst).1.ok
  have ha := arg_lt hok 0
  have hb := arg_lt hok 1
  have hc := arg_lt hok 2
  have hsl := hok.sLen
  have eX : alu 19 (f.arg 0) (f.arg 1) (f.arg 2) = b2n (sltW (f.arg 1) (f.arg 0)) := rfl
  rw [eX]
  have hX : b2n (sltW (f.arg 1) (f.arg 0)) < P256 := b2n_lt _
  have HR := fun W (hW : Ext w W) => mRun (h.ext hW) hst hph
  have H0 := fun W (hW : Ext w W) => mArg (h.ext hW) hst 0 (by decide)
  have H1 := fun W (hW : Ext w W) => mArg (h.ext hW) hst 1 (by decide)
  have HO := fun W (hW : Ext w W) => mOp (h.ext hW) hst hph
  rw [ho] at HO
  have HS := mSetP h hst 2 1 (b2n (sltW (f.arg 1) (f.arg 0))) (by omega) (by omega) hX (by omega)
  have HL : ∀ W, Calls Hvah.prog 291 #[wv (f.arg 0), wv (f.arg 1)] W fun e w' => e = .returned (.bool (sltW (f.arg 1) (f.arg 0))) ∧ Ext W w' := fun W => uSgt _ _ W ha hb
  have hE := Ext.refl w
  generalize 1803 + rest.length * 65 = F at HR H0 H1 HO HS
  generalize f.arg 0 = A at *
  generalize f.arg 1 = B at *
  go_enter Hvah.func199, Hvah.ntmps199
  go_wp2_with (first | (go_at_call 192; refine (HR _ hE).mono ?_; rintro e w0 ⟨rfl, he⟩; replace hE := hE.trans he; clear he) | (go_at_call_of 273 (Value.int .i64 0); refine (H0 _ hE).mono ?_; rintro e w1 ⟨rfl, he⟩; replace hE := (hE.trans he).alloc (wvA A) 79; have hA := Ext.refl (w1.alloc (.cells (wvA A) 79)); clear he) | (go_at_call_of 273 (Value.int .i64 1); refine (H1 _ hE).mono ?_; rintro e w2 ⟨rfl, he⟩; replace hE := (hE.trans he).alloc (wvA B) 79; replace hA := (hA.trans he).alloc (wvA B) 79; have hBx := Ext.refl (w2.alloc (.cells (wvA B) 79)); clear he) | (go_at_call 117; refine (HO _ hE).mono ?_; rintro e w3 ⟨rfl, he⟩; replace hE := hE.trans he; replace hA := hA.trans he; replace hBx := hBx.trans he; clear he) | ((with_reducible (refine Veil.out ?_; apply wl_loadW)); (case hx => rfl); (case hr => first | (with_reducible exact boxes1 _ (wvA A) 79 _ hA) | (with_reducible exact boxes1 _ (wvA B) 79 _ hBx))) | (go_at_call 291; refine (HL _).mono ?_; rintro e w4 ⟨rfl, he⟩; replace hE := hE.trans he; clear he) | (go_at_call 292; refine (mFlag _ _).mono ?_; rintro e w5 ⟨rfl, he⟩; replace hE := hE.trans he; clear he) | (go_at_call 268; refine (HS _ hE).mono ?_; rintro e w9 ⟨rfl, hfin⟩))
  go_end0
  exact ⟨rfl, hfin⟩
set_option maxRecDepth 100000 in
set_option maxHeartbeats 1600000 in
theorem mOp191_20 (h : MRep own w g c V st (s :: sn) stale) (hst : st.frames = f :: rest) (hph : st.phase = 1) (ho : f.opcode = 20) (hl : 2 ≤ f.stack.length) (hpc : f.pc ≤ 50000) :
    Calls Hvah.prog 199 #[.pointer (some ⟨g, 0, none⟩)] w fun e w' => e = .returned (.tuple #[]) ∧ ∃ c', MRep own w' g c' V { st with frames := f.settle 2 [alu 20 (f.arg 0) (f.arg 1) (f.arg 2)] 1 :: rest } (s :: sn) stale ∧ MStep own w own w' := by
  have hok := (h.frame hst).1.ok
  have ha := arg_lt hok 0
  have hb := arg_lt hok 1
  have hc := arg_lt hok 2
  have hsl := hok.sLen
  have eX : alu 20 (f.arg 0) (f.arg 1) (f.arg 2) = b2n (decide (f.arg 0 = f.arg 1)) := rfl
  rw [eX]
  have hX : b2n (decide (f.arg 0 = f.arg 1)) < P256 := b2n_lt _
  have HR := fun W (hW : Ext w W) => mRun (h.ext hW) hst hph
  have H0 := fun W (hW : Ext w W) => mArg (h.ext hW) hst 0 (by decide)
  have H1 := fun W (hW : Ext w W) => mArg (h.ext hW) hst 1 (by decide)
  have HO := fun W (hW : Ext w W) => mOp (h.ext hW) hst hph
  rw [ho] at HO
  have HS := mSetP h hst 2 1 (b2n (decide (f.arg 0 = f.arg 1))) (by omega) (by omega) hX (by omega)
  have hE := Ext.refl w
  generalize 1803 + rest.length * 65 = F at HR H0 H1 HO HS
  generalize f.arg 0 = A at *
  generalize f.arg 1 = B at *
  go_enter Hvah.func199, Hvah.ntmps199
  go_wp2_with (first | (go_at_call 192; refine (HR _ hE).mono ?_; rintro e w0 ⟨rfl, he⟩; replace hE := hE.trans he; clear he) | (go_at_call_of 273 (Value.int .i64 0); refine (H0 _ hE).mono ?_; rintro e w1 ⟨rfl, he⟩; replace hE := (hE.trans he).alloc (wvA A) 79; have hA := Ext.refl (w1.alloc (.cells (wvA A) 79)); clear he) | (go_at_call_of 273 (Value.int .i64 1); refine (H1 _ hE).mono ?_; rintro e w2 ⟨rfl, he⟩; replace hE := (hE.trans he).alloc (wvA B) 79; replace hA := (hA.trans he).alloc (wvA B) 79; have hBx := Ext.refl (w2.alloc (.cells (wvA B) 79)); clear he) | (go_at_call 117; refine (HO _ hE).mono ?_; rintro e w3 ⟨rfl, he⟩; replace hE := hE.trans he; replace hA := hA.trans he; replace hBx := hBx.trans he; clear he) | ((with_reducible (refine Veil.out ?_; apply wl_loadW)); (case hx => rfl); (case hr => first | (with_reducible exact boxes1 _ (wvA A) 79 _ hA) | (with_reducible exact boxes1 _ (wvA B) 79 _ hBx))) | (go_at_call 292; refine (mFlag _ _).mono ?_; rintro e w4 ⟨rfl, he⟩; replace hE := hE.trans he; clear he) | (go_at_call 268; refine (HS _ hE).mono ?_; rintro e w9 ⟨rfl, hfin⟩))
  go_end0
  exact ⟨rfl, hfin⟩
set_option maxRecDepth 100000 in
set_option maxHeartbeats 1600000 in
theorem mOp191_21 (h : MRep own w g c V st (s :: sn) stale) (hst : st.frames = f :: rest) (hph : st.phase = 1) (ho : f.opcode = 21) (hl : 1 ≤ f.stack.length) (hpc : f.pc ≤ 50000) :
    Calls Hvah.prog 199 #[.pointer (some ⟨g, 0, none⟩)] w fun e w' => e = .returned (.tuple #[]) ∧ ∃ c', MRep own w' g c' V { st with frames := f.settle 1 [alu 21 (f.arg 0) (f.arg 1) (f.arg 2)] 1 :: rest } (s :: sn) stale ∧ MStep own w own w' := by
  have hok := (h.frame hst).1.ok
  have ha := arg_lt hok 0
  have hb := arg_lt hok 1
  have hc := arg_lt hok 2
  have hsl := hok.sLen
  have eX : alu 21 (f.arg 0) (f.arg 1) (f.arg 2) = b2n (decide (f.arg 0 = 0)) := rfl
  rw [eX]
  have hX : b2n (decide (f.arg 0 = 0)) < P256 := b2n_lt _
  have HR := fun W (hW : Ext w W) => mRun (h.ext hW) hst hph
  have H0 := fun W (hW : Ext w W) => mArg (h.ext hW) hst 0 (by decide)
  have H1 := fun W (hW : Ext w W) => mArg (h.ext hW) hst 1 (by decide)
  have HO := fun W (hW : Ext w W) => mOp (h.ext hW) hst hph
  rw [ho] at HO
  have HS := mSetP h hst 1 1 (b2n (decide (f.arg 0 = 0))) (by omega) (by omega) hX (by omega)
  have hE := Ext.refl w
  generalize 1803 + rest.length * 65 = F at HR H0 H1 HO HS
  generalize f.arg 0 = A at *
  generalize f.arg 1 = B at *
  go_enter Hvah.func199, Hvah.ntmps199
  go_wp2_with (first | (go_at_call 192; refine (HR _ hE).mono ?_; rintro e w0 ⟨rfl, he⟩; replace hE := hE.trans he; clear he) | (go_at_call_of 273 (Value.int .i64 0); refine (H0 _ hE).mono ?_; rintro e w1 ⟨rfl, he⟩; replace hE := (hE.trans he).alloc (wvA A) 79; have hA := Ext.refl (w1.alloc (.cells (wvA A) 79)); clear he) | (go_at_call_of 273 (Value.int .i64 1); refine (H1 _ hE).mono ?_; rintro e w2 ⟨rfl, he⟩; replace hE := (hE.trans he).alloc (wvA B) 79; replace hA := (hA.trans he).alloc (wvA B) 79; have hBx := Ext.refl (w2.alloc (.cells (wvA B) 79)); clear he) | (go_at_call 117; refine (HO _ hE).mono ?_; rintro e w3 ⟨rfl, he⟩; replace hE := hE.trans he; replace hA := hA.trans he; replace hBx := hBx.trans he; clear he) | ((with_reducible (refine Veil.out ?_; apply wl_loadW)); (case hx => rfl); (case hr => first | (with_reducible exact boxes1 _ (wvA A) 79 _ hA) | (with_reducible exact boxes1 _ (wvA B) 79 _ hBx))) | (go_at_call 87; refine (uIsZero A _ ha).mono ?_; rintro e w4 ⟨rfl, he⟩; replace hE := hE.trans he; clear he) | (go_at_call 292; refine (mFlag _ _).mono ?_; rintro e w5 ⟨rfl, he⟩; replace hE := hE.trans he; clear he) | (go_at_call 268; refine (HS _ hE).mono ?_; rintro e w9 ⟨rfl, hfin⟩))
  go_end0
  exact ⟨rfl, hfin⟩
end
end Go.Proofs.YgvahwGreat
