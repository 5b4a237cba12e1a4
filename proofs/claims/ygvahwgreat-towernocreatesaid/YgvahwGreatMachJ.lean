import Derived.Test.YgvahwGreatMachG
import Derived.Test.YgvahwGreatDz2
namespace Go.Proofs.YgvahwGreat
open Go.RowKit
attribute [local go_sem] wv_fold
theorem al4 (a b c : Nat) : alu 4 a b c = a / b := rfl
theorem al5 (a b c : Nat) : alu 5 a b c = asg (amag a / amag b) (negW a != negW b) := rfl
theorem al6 (a b c : Nat) : alu 6 a b c = dmod a b := rfl
theorem al7 (a b c : Nat) : alu 7 a b c = asg (dmod (amag a) (amag b)) (negW a) := rfl
theorem al8 (a b c : Nat) : alu 8 a b c = dmod (a + b) c := rfl
theorem al9 (a b c : Nat) : alu 9 a b c = dmod (a * b) c := rfl
theorem dmod_ltm {x y : Nat} (hy : y < P256) : dmod x y < P256 := by
  unfold dmod
  split
  · exact pos256
  · exact Nat.lt_trans (Nat.mod_lt _ (by omega)) hy
theorem alt4 (a b c : Nat) (ha : a < P256) (_hb : b < P256) : alu 4 a b c < P256 := by rw [al4]; exact Nat.lt_of_le_of_lt (Nat.div_le_self _ _) ha
theorem alt5 (a b c : Nat) (ha : a < P256) (_hb : b < P256) : alu 5 a b c < P256 := by rw [al5]; exact asg_lt (Nat.lt_of_le_of_lt (Nat.div_le_self _ _) (amag_lt ha)) _
theorem alt6 (a b c : Nat) (ha : a < P256) (_hb : b < P256) : alu 6 a b c < P256 := by rw [al6]; exact dmod_lt256 ha
theorem alt7 (a b c : Nat) (ha : a < P256) (_hb : b < P256) : alu 7 a b c < P256 := by rw [al7]; exact asg_lt (dmod_lt256 (amag_lt ha)) _
theorem uA4 (a b c : Nat) (W : World) (ha : a < P256) (hb : b < P256) : Calls Hvah.prog 282 #[wv a, wv b] W fun e w' => e = .returned (wv (alu 4 a b c)) ∧ Ext W w' := by rw [al4]; exact uDiv a b W ha hb
theorem uA5 (a b c : Nat) (W : World) (ha : a < P256) (hb : b < P256) : Calls Hvah.prog 283 #[wv a, wv b] W fun e w' => e = .returned (wv (alu 5 a b c)) ∧ Ext W w' := by rw [al5]; exact uSDiv a b W ha hb
theorem uA6 (a b c : Nat) (W : World) (ha : a < P256) (hb : b < P256) : Calls Hvah.prog 284 #[wv a, wv b] W fun e w' => e = .returned (wv (alu 6 a b c)) ∧ Ext W w' := by rw [al6]; exact uMod a b W ha hb
theorem uA7 (a b c : Nat) (W : World) (ha : a < P256) (hb : b < P256) : Calls Hvah.prog 285 #[wv a, wv b] W fun e w' => e = .returned (wv (alu 7 a b c)) ∧ Ext W w' := by rw [al7]; exact uSMod a b W ha hb
section
variable {own : Nat → Nat} {w : World} {g : Nat} {c : Nat → Value} {V : EV} {st : ASt} {sn stale : List Nat} {f : AFrame} {rest : List AFrame} {s : Nat}
set_option maxRecDepth 100000 in
set_option maxHeartbeats 1600000 in
theorem mOp190_4 (h : MRep own w g c V st (s :: sn) stale) (hst : st.frames = f :: rest) (hph : st.phase = 1) (ho : f.opcode = 4) (hl : 2 ≤ f.stack.length) (hpc : f.pc ≤ 50000) :
    Calls Hvah.prog 198 #[.pointer (some ⟨g, 0, none⟩)] w fun e w' => e = .returned (.tuple #[]) ∧ ∃ c', MRep own w' g c' V { st with frames := f.settle 2 [alu 4 (f.arg 0) (f.arg 1) (f.arg 2)] 1 :: rest } (s :: sn) stale ∧ MStep own w own w' := by
  have hok := (h.frame hst).1.ok
  have ha := arg_lt hok 0
  have hb := arg_lt hok 1
  have hsl := hok.sLen
  have hX := alt4 (f.arg 0) (f.arg 1) (f.arg 2) ha hb
  have HX := fun W => uA4 (f.arg 0) (f.arg 1) (f.arg 2) W ha hb
  have HR := fun W (hW : Ext w W) => mRun (h.ext hW) hst hph
  have H0 := fun W (hW : Ext w W) => mArg (h.ext hW) hst 0 (by decide)
  have H1 := fun W (hW : Ext w W) => mArg (h.ext hW) hst 1 (by decide)
  have HO := fun W (hW : Ext w W) => mOp (h.ext hW) hst hph
  rw [ho] at HO
  have HS := mSetP h hst 2 1 (alu 4 (f.arg 0) (f.arg 1) (f.arg 2)) (by omega) (by omega) hX (by omega)
  have hE := Ext.refl w
  obtain ⟨X, eX⟩ : ∃ X, alu 4 (f.arg 0) (f.arg 1) (f.arg 2) = X := ⟨_, rfl⟩
  rw [eX] at HX HS ⊢
  clear eX
  generalize 1803 + rest.length * 65 = F at HR H0 H1 HO HS
  generalize f.arg 0 = A at H0 HX
  generalize f.arg 1 = B at H1 HX
  clear hX ha hb h hst hph ho hok hl hpc hsl
  go_enter Hvah.func198, Hvah.ntmps198
  go_wp2_with (first | (go_at_call 192; refine (HR _ hE).mono ?_; rintro e w0 ⟨rfl, he⟩; replace hE := hE.trans he; clear he) | (go_at_call_of 273 (Value.int .i64 0); refine (H0 _ hE).mono ?_; rintro e w1 ⟨rfl, he⟩; replace hE := (hE.trans he).alloc (wvA A) 79; have hA := Ext.refl (w1.alloc (.cells (wvA A) 79)); clear he) | (go_at_call_of 273 (Value.int .i64 1); refine (H1 _ hE).mono ?_; rintro e w2 ⟨rfl, he⟩; have hs2 := (hE.trans he).size; replace hE := ((hE.trans he).alloc (wvA B) 79).alloc zA 79; replace hA := ((hA.trans he).alloc (wvA B) 79).alloc zA 79; have hBx := (Ext.refl (w2.alloc (.cells (wvA B) 79))).alloc zA 79; have hZ := Ext.refl ((w2.alloc (.cells (wvA B) 79)).alloc (.cells zA 79)); clear he) | (go_at_call 117; refine (HO _ hE).mono ?_; rintro e w3 ⟨rfl, he⟩; replace hE := hE.trans he; replace hA := hA.trans he; replace hBx := hBx.trans he; replace hZ := hZ.trans he; clear he) | ((with_reducible (refine Veil.out ?_; apply wl_loadW)); (case hx => rfl); (case hr => first | (with_reducible exact boxes1 _ (wvA A) 79 _ hA) | (with_reducible exact boxes1 _ (wvA B) 79 _ hBx) | (with_reducible exact hR5))) | (go_at_call 282; refine (HX _).mono ?_; rintro e w4 ⟨rfl, he⟩; replace hE := hE.trans he; replace hZ := hZ.trans he; clear he) | ((with_reducible (refine Veil.out ?_; apply wl_storeR rt66)); (case hx => rfl); (case hy => rfl); (case hn => rfl); (case hth => exact boxes_there _ zA 79 _ _ (by simp) hZ); (case h1 => exact wvA_one _); refine w_gen (fun W => Ext w W ∧ RowIn W (w2.heap.size + 1) 0 (wvA X)) ⟨ext_setRow hE (by omega), row_set (boxes_there _ zA 79 _ _ (by simp) hZ)⟩ ?_; rintro W5 ⟨hE5, hR5⟩) | (go_at_call 268; refine (HS _ hE5).mono ?_; rintro e w9 ⟨rfl, hfin⟩))
  go_end0
  exact ⟨rfl, hfin⟩
set_option maxRecDepth 100000 in
set_option maxHeartbeats 1600000 in
theorem mOp190_5 (h : MRep own w g c V st (s :: sn) stale) (hst : st.frames = f :: rest) (hph : st.phase = 1) (ho : f.opcode = 5) (hl : 2 ≤ f.stack.length) (hpc : f.pc ≤ 50000) :
    Calls Hvah.prog 198 #[.pointer (some ⟨g, 0, none⟩)] w fun e w' => e = .returned (.tuple #[]) ∧ ∃ c', MRep own w' g c' V { st with frames := f.settle 2 [alu 5 (f.arg 0) (f.arg 1) (f.arg 2)] 1 :: rest } (s :: sn) stale ∧ MStep own w own w' := by
  have hok := (h.frame hst).1.ok
  have ha := arg_lt hok 0
  have hb := arg_lt hok 1
  have hsl := hok.sLen
  have hX := alt5 (f.arg 0) (f.arg 1) (f.arg 2) ha hb
  have HX := fun W => uA5 (f.arg 0) (f.arg 1) (f.arg 2) W ha hb
  have HR := fun W (hW : Ext w W) => mRun (h.ext hW) hst hph
  have H0 := fun W (hW : Ext w W) => mArg (h.ext hW) hst 0 (by decide)
  have H1 := fun W (hW : Ext w W) => mArg (h.ext hW) hst 1 (by decide)
  have HO := fun W (hW : Ext w W) => mOp (h.ext hW) hst hph
  rw [ho] at HO
  have HS := mSetP h hst 2 1 (alu 5 (f.arg 0) (f.arg 1) (f.arg 2)) (by omega) (by omega) hX (by omega)
  have hE := Ext.refl w
  obtain ⟨X, eX⟩ : ∃ X, alu 5 (f.arg 0) (f.arg 1) (f.arg 2) = X := ⟨_, rfl⟩
  rw [eX] at HX HS ⊢
  clear eX
  generalize 1803 + rest.length * 65 = F at HR H0 H1 HO HS
  generalize f.arg 0 = A at H0 HX
  generalize f.arg 1 = B at H1 HX
  clear hX ha hb h hst hph ho hok hl hpc hsl
  go_enter Hvah.func198, Hvah.ntmps198
  go_wp2_with (first | (go_at_call 192; refine (HR _ hE).mono ?_; rintro e w0 ⟨rfl, he⟩; replace hE := hE.trans he; clear he) | (go_at_call_of 273 (Value.int .i64 0); refine (H0 _ hE).mono ?_; rintro e w1 ⟨rfl, he⟩; replace hE := (hE.trans he).alloc (wvA A) 79; have hA := Ext.refl (w1.alloc (.cells (wvA A) 79)); clear he) | (go_at_call_of 273 (Value.int .i64 1); refine (H1 _ hE).mono ?_; rintro e w2 ⟨rfl, he⟩; have hs2 := (hE.trans he).size; replace hE := ((hE.trans he).alloc (wvA B) 79).alloc zA 79; replace hA := ((hA.trans he).alloc (wvA B) 79).alloc zA 79; have hBx := (Ext.refl (w2.alloc (.cells (wvA B) 79))).alloc zA 79; have hZ := Ext.refl ((w2.alloc (.cells (wvA B) 79)).alloc (.cells zA 79)); clear he) | (go_at_call 117; refine (HO _ hE).mono ?_; rintro e w3 ⟨rfl, he⟩; replace hE := hE.trans he; replace hA := hA.trans he; replace hBx := hBx.trans he; replace hZ := hZ.trans he; clear he) | ((with_reducible (refine Veil.out ?_; apply wl_loadW)); (case hx => rfl); (case hr => first | (with_reducible exact boxes1 _ (wvA A) 79 _ hA) | (with_reducible exact boxes1 _ (wvA B) 79 _ hBx) | (with_reducible exact hR5))) | (go_at_call 283; refine (HX _).mono ?_; rintro e w4 ⟨rfl, he⟩; replace hE := hE.trans he; replace hZ := hZ.trans he; clear he) | ((with_reducible (refine Veil.out ?_; apply wl_storeR rt66)); (case hx => rfl); (case hy => rfl); (case hn => rfl); (case hth => exact boxes_there _ zA 79 _ _ (by simp) hZ); (case h1 => exact wvA_one _); refine w_gen (fun W => Ext w W ∧ RowIn W (w2.heap.size + 1) 0 (wvA X)) ⟨ext_setRow hE (by omega), row_set (boxes_there _ zA 79 _ _ (by simp) hZ)⟩ ?_; rintro W5 ⟨hE5, hR5⟩) | (go_at_call 268; refine (HS _ hE5).mono ?_; rintro e w9 ⟨rfl, hfin⟩))
  go_end0
  exact ⟨rfl, hfin⟩
set_option maxRecDepth 100000 in
set_option maxHeartbeats 1600000 in
theorem mOp190_6 (h : MRep own w g c V st (s :: sn) stale) (hst : st.frames = f :: rest) (hph : st.phase = 1) (ho : f.opcode = 6) (hl : 2 ≤ f.stack.length) (hpc : f.pc ≤ 50000) :
    Calls Hvah.prog 198 #[.pointer (some ⟨g, 0, none⟩)] w fun e w' => e = .returned (.tuple #[]) ∧ ∃ c', MRep own w' g c' V { st with frames := f.settle 2 [alu 6 (f.arg 0) (f.arg 1) (f.arg 2)] 1 :: rest } (s :: sn) stale ∧ MStep own w own w' := by
  have hok := (h.frame hst).1.ok
  have ha := arg_lt hok 0
  have hb := arg_lt hok 1
  have hsl := hok.sLen
  have hX := alt6 (f.arg 0) (f.arg 1) (f.arg 2) ha hb
  have HX := fun W => uA6 (f.arg 0) (f.arg 1) (f.arg 2) W ha hb
  have HR := fun W (hW : Ext w W) => mRun (h.ext hW) hst hph
  have H0 := fun W (hW : Ext w W) => mArg (h.ext hW) hst 0 (by decide)
  have H1 := fun W (hW : Ext w W) => mArg (h.ext hW) hst 1 (by decide)
  have HO := fun W (hW : Ext w W) => mOp (h.ext hW) hst hph
  rw [ho] at HO
  have HS := mSetP h hst 2 1 (alu 6 (f.arg 0) (f.arg 1) (f.arg 2)) (by omega) (by omega) hX (by omega)
  have hE := Ext.refl w
  obtain ⟨X, eX⟩ : ∃ X, alu 6 (f.arg 0) (f.arg 1) (f.arg 2) = X := ⟨_, rfl⟩
  rw [eX] at HX HS ⊢
  clear eX
  generalize 1803 + rest.length * 65 = F at HR H0 H1 HO HS
  generalize f.arg 0 = A at H0 HX
  generalize f.arg 1 = B at H1 HX
  clear hX ha hb h hst hph ho hok hl hpc hsl
  go_enter Hvah.func198, Hvah.ntmps198
  go_wp2_with (first | (go_at_call 192; refine (HR _ hE).mono ?_; rintro e w0 ⟨rfl, he⟩; replace hE := hE.trans he; clear he) | (go_at_call_of 273 (Value.int .i64 0); refine (H0 _ hE).mono ?_; rintro e w1 ⟨rfl, he⟩; replace hE := (hE.trans he).alloc (wvA A) 79; have hA := Ext.refl (w1.alloc (.cells (wvA A) 79)); clear he) | (go_at_call_of 273 (Value.int .i64 1); refine (H1 _ hE).mono ?_; rintro e w2 ⟨rfl, he⟩; have hs2 := (hE.trans he).size; replace hE := ((hE.trans he).alloc (wvA B) 79).alloc zA 79; replace hA := ((hA.trans he).alloc (wvA B) 79).alloc zA 79; have hBx := (Ext.refl (w2.alloc (.cells (wvA B) 79))).alloc zA 79; have hZ := Ext.refl ((w2.alloc (.cells (wvA B) 79)).alloc (.cells zA 79)); clear he) | (go_at_call 117; refine (HO _ hE).mono ?_; rintro e w3 ⟨rfl, he⟩; replace hE := hE.trans he; replace hA := hA.trans he; replace hBx := hBx.trans he; replace hZ := hZ.trans he; clear he) | ((with_reducible (refine Veil.out ?_; apply wl_loadW)); (case hx => rfl); (case hr => first | (with_reducible exact boxes1 _ (wvA A) 79 _ hA) | (with_reducible exact boxes1 _ (wvA B) 79 _ hBx) | (with_reducible exact hR5))) | (go_at_call 284; refine (HX _).mono ?_; rintro e w4 ⟨rfl, he⟩; replace hE := hE.trans he; replace hZ := hZ.trans he; clear he) | ((with_reducible (refine Veil.out ?_; apply wl_storeR rt66)); (case hx => rfl); (case hy => rfl); (case hn => rfl); (case hth => exact boxes_there _ zA 79 _ _ (by simp) hZ); (case h1 => exact wvA_one _); refine w_gen (fun W => Ext w W ∧ RowIn W (w2.heap.size + 1) 0 (wvA X)) ⟨ext_setRow hE (by omega), row_set (boxes_there _ zA 79 _ _ (by simp) hZ)⟩ ?_; rintro W5 ⟨hE5, hR5⟩) | (go_at_call 268; refine (HS _ hE5).mono ?_; rintro e w9 ⟨rfl, hfin⟩))
  go_end0
  exact ⟨rfl, hfin⟩
set_option maxRecDepth 100000 in
set_option maxHeartbeats 1600000 in
theorem mOp190_7 (h : MRep own w g c V st (s :: sn) stale) (hst : st.frames = f :: rest) (hph : st.phase = 1) (ho : f.opcode = 7) (hl : 2 ≤ f.stack.length) (hpc : f.pc ≤ 50000) :
    Calls Hvah.prog 198 #[.pointer (some ⟨g, 0, none⟩)] w fun e w' => e = .returned (.tuple #[]) ∧ ∃ c', MRep own w' g c' V { st with frames := f.settle 2 [alu 7 (f.arg 0) (f.arg 1) (f.arg 2)] 1 :: rest } (s :: sn) stale ∧ MStep own w own w' := by
  have hok := (h.frame hst).1.ok
  have ha := arg_lt hok 0
  have hb := arg_lt hok 1
  have hsl := hok.sLen
  have hX := alt7 (f.arg 0) (f.arg 1) (f.arg 2) ha hb
  have HX := fun W => uA7 (f.arg 0) (f.arg 1) (f.arg 2) W ha hb
  have HR := fun W (hW : Ext w W) => mRun (h.ext hW) hst hph
  have H0 := fun W (hW : Ext w W) => mArg (h.ext hW) hst 0 (by decide)
  have H1 := fun W (hW : Ext w W) => mArg (h.ext hW) hst 1 (by decide)
  have HO := fun W (hW : Ext w W) => mOp (h.ext hW) hst hph
  rw [ho] at HO
  have HS := mSetP h hst 2 1 (alu 7 (f.arg 0) (f.arg 1) (f.arg 2)) (by omega) (by omega) hX (by omega)
  have hE := Ext.refl w
  obtain ⟨X, eX⟩ : ∃ X, alu 7 (f.arg 0) (f.arg 1) (f.arg 2) = X := ⟨_, rfl⟩
  rw [eX] at HX HS ⊢
  clear eX
  generalize 1803 + rest.length * 65 = F at HR H0 H1 HO HS
  generalize f.arg 0 = A at H0 HX
  generalize f.arg 1 = B at H1 HX
  clear hX ha hb h hst hph ho hok hl hpc hsl
  go_enter Hvah.func198, Hvah.ntmps198
  go_wp2_with (first | (go_at_call 192; refine (HR _ hE).mono ?_; rintro e w0 ⟨rfl, he⟩; replace hE := hE.trans he; clear he) | (go_at_call_of 273 (Value.int .i64 0); refine (H0 _ hE).mono ?_; rintro e w1 ⟨rfl, he⟩; replace hE := (hE.trans he).alloc (wvA A) 79; have hA := Ext.refl (w1.alloc (.cells (wvA A) 79)); clear he) | (go_at_call_of 273 (Value.int .i64 1); refine (H1 _ hE).mono ?_; rintro e w2 ⟨rfl, he⟩; have hs2 := (hE.trans he).size; replace hE := ((hE.trans he).alloc (wvA B) 79).alloc zA 79; replace hA := ((hA.trans he).alloc (wvA B) 79).alloc zA 79; have hBx := (Ext.refl (w2.alloc (.cells (wvA B) 79))).alloc zA 79; have hZ := Ext.refl ((w2.alloc (.cells (wvA B) 79)).alloc (.cells zA 79)); clear he) | (go_at_call 117; refine (HO _ hE).mono ?_; rintro e w3 ⟨rfl, he⟩; replace hE := hE.trans he; replace hA := hA.trans he; replace hBx := hBx.trans he; replace hZ := hZ.trans he; clear he) | ((with_reducible (refine Veil.out ?_; apply wl_loadW)); (case hx => rfl); (case hr => first | (with_reducible exact boxes1 _ (wvA A) 79 _ hA) | (with_reducible exact boxes1 _ (wvA B) 79 _ hBx) | (with_reducible exact hR5))) | (go_at_call 285; refine (HX _).mono ?_; rintro e w4 ⟨rfl, he⟩; replace hE := hE.trans he; replace hZ := hZ.trans he; clear he) | ((with_reducible (refine Veil.out ?_; apply wl_storeR rt66)); (case hx => rfl); (case hy => rfl); (case hn => rfl); (case hth => exact boxes_there _ zA 79 _ _ (by simp) hZ); (case h1 => exact wvA_one _); refine w_gen (fun W => Ext w W ∧ RowIn W (w2.heap.size + 1) 0 (wvA X)) ⟨ext_setRow hE (by omega), row_set (boxes_there _ zA 79 _ _ (by simp) hZ)⟩ ?_; rintro W5 ⟨hE5, hR5⟩) | (go_at_call 268; refine (HS _ hE5).mono ?_; rintro e w9 ⟨rfl, hfin⟩))
  go_end0
  exact ⟨rfl, hfin⟩
end
end Go.Proofs.YgvahwGreat
