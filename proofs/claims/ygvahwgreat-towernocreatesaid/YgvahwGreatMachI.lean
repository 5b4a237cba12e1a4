import Derived.Test.YgvahwGreatMachG
namespace Go.Proofs.YgvahwGreat
open Go.RowKit
attribute [local go_sem] wv_fold
section
variable {own : Nat → Nat} {w : World} {g : Nat} {c : Nat → Value} {V : EV} {st : ASt} {sn stale : List Nat} {f : AFrame} {rest : List AFrame} {s : Nat}
set_option maxRecDepth 100000 in
set_option maxHeartbeats 1600000 in
theorem mOp192_22 (h : MRep own w g c V st (s :: sn) stale) (hst : st.frames = f :: rest) (hph : st.phase = 1) (ho : f.opcode = 22) (hl : 2 ≤ f.stack.length) (hpc : f.pc ≤ 50000) :
    Calls Hvah.prog 200 #[.pointer (some ⟨g, 0, none⟩)] w fun e w' => e = .returned (.tuple #[]) ∧ ∃ c', MRep own w' g c' V { st with frames := f.settle 2 [alu 22 (f.arg 0) (f.arg 1) (f.arg 2)] 1 :: rest } (s :: sn) stale ∧ MStep own w own w' := by
  have hok := (h.frame hst).1.ok
  have ha := arg_lt hok 0
  have hb := arg_lt hok 1
  have hsl := hok.sLen
  have hX := alt22 (f.arg 0) (f.arg 1) (f.arg 2) ha hb
  have HX := fun W => uA22 (f.arg 0) (f.arg 1) (f.arg 2) W ha hb
  have HR := fun W (hW : Ext w W) => mRun (h.ext hW) hst hph
  have H0 := fun W (hW : Ext w W) => mArg (h.ext hW) hst 0 (by decide)
  have H1 := fun W (hW : Ext w W) => mArg (h.ext hW) hst 1 (by decide)
  have HO := fun W (hW : Ext w W) => mOp (h.ext hW) hst hph
  rw [ho] at HO
  have HS := mSetP h hst 2 1 (alu 22 (f.arg 0) (f.arg 1) (f.arg 2)) (by omega) (by omega) hX (by omega)
  have hE := Ext.refl w
  obtain ⟨X, eX⟩ : ∃ X, alu 22 (f.arg 0) (f.arg 1) (f.arg 2) = X := ⟨_, rfl⟩
  rw [eX] at HX HS ⊢
  clear eX
  generalize 1803 + rest.length * 65 = F at HR H0 H1 HO HS
  generalize f.arg 0 = A at H0 HX
  generalize f.arg 1 = B at H1 HX
  clear hX ha hb h hst hph ho hok hl hpc hsl
  go_enter Hvah.func200, Hvah.ntmps200
  go_wp2_with (first | (go_at_call 192; refine (HR _ hE).mono ?_; rintro e w0 ⟨rfl, he⟩; replace hE := hE.trans he; clear he) | (go_at_call_of 273 (Value.int .i64 0); refine (H0 _ hE).mono ?_; rintro e w1 ⟨rfl, he⟩; replace hE := (hE.trans he).alloc (wvA A) 79; have hA := Ext.refl (w1.alloc (.cells (wvA A) 79)); clear he) | (go_at_call_of 273 (Value.int .i64 1); refine (H1 _ hE).mono ?_; rintro e w2 ⟨rfl, he⟩; have hs2 := (hE.trans he).size; replace hE := ((hE.trans he).alloc (wvA B) 79).alloc zA 79; replace hA := ((hA.trans he).alloc (wvA B) 79).alloc zA 79; have hBx := (Ext.refl (w2.alloc (.cells (wvA B) 79))).alloc zA 79; have hZ := Ext.refl ((w2.alloc (.cells (wvA B) 79)).alloc (.cells zA 79)); clear he) | (go_at_call 117; refine (HO _ hE).mono ?_; rintro e w3 ⟨rfl, he⟩; replace hE := hE.trans he; replace hA := hA.trans he; replace hBx := hBx.trans he; replace hZ := hZ.trans he; clear he) | ((with_reducible (refine Veil.out ?_; apply wl_loadW)); (case hx => rfl); (case hr => first | (with_reducible exact boxes1 _ (wvA A) 79 _ hA) | (with_reducible exact boxes1 _ (wvA B) 79 _ hBx) | (with_reducible exact hR5))) | (go_at_call 293; refine (HX _).mono ?_; rintro e w4 ⟨rfl, he⟩; replace hE := hE.trans he; replace hZ := hZ.trans he; clear he) | ((with_reducible (refine Veil.out ?_; apply wl_storeR rt66)); (case hx => rfl); (case hy => rfl); (case hn => rfl); (case hth => exact boxes_there _ zA 79 _ _ (by simp) hZ); (case h1 => exact wvA_one _); refine w_gen (fun W => Ext w W ∧ RowIn W (w2.heap.size + 1) 0 (wvA X)) ⟨ext_setRow hE (by omega), row_set (boxes_there _ zA 79 _ _ (by simp) hZ)⟩ ?_; rintro W5 ⟨hE5, hR5⟩) | (go_at_call 268; refine (HS _ hE5).mono ?_; rintro e w9 ⟨rfl, hfin⟩))
  go_end0
  exact ⟨rfl, hfin⟩
set_option maxRecDepth 100000 in
set_option maxHeartbeats 1600000 in
theorem mOp192_23 (h : MRep own w g c V st (s :: sn) stale) (hst : st.frames = f :: rest) (hph : st.phase = 1) (ho : f.opcode = 23) (hl : 2 ≤ f.stack.length) (hpc : f.pc ≤ 50000) :
    Calls Hvah.prog 200 #[.pointer (some ⟨g, 0, none⟩)] w fun e w' => e = .returned (.tuple #[]) ∧ ∃ c', MRep own w' g c' V { st with frames := f.settle 2 [alu 23 (f.arg 0) (f.arg 1) (f.arg 2)] 1 :: rest } (s :: sn) stale ∧ MStep own w own w' := by
  have hok := (h.frame hst).1.ok
  have ha := arg_lt hok 0
  have hb := arg_lt hok 1
  have hsl := hok.sLen
  have hX := alt23 (f.arg 0) (f.arg 1) (f.arg 2) ha hb
  have HX := fun W => uA23 (f.arg 0) (f.arg 1) (f.arg 2) W ha hb
  have HR := fun W (hW : Ext w W) => mRun (h.ext hW) hst hph
  have H0 := fun W (hW : Ext w W) => mArg (h.ext hW) hst 0 (by decide)
  have H1 := fun W (hW : Ext w W) => mArg (h.ext hW) hst 1 (by decide)
  have HO := fun W (hW : Ext w W) => mOp (h.ext hW) hst hph
  rw [ho] at HO
  have HS := mSetP h hst 2 1 (alu 23 (f.arg 0) (f.arg 1) (f.arg 2)) (by omega) (by omega) hX (by omega)
  have hE := Ext.refl w
  obtain ⟨X, eX⟩ : ∃ X, alu 23 (f.arg 0) (f.arg 1) (f.arg 2) = X := ⟨_, rfl⟩
  rw [eX] at HX HS ⊢
  clear eX
  generalize 1803 + rest.length * 65 = F at HR H0 H1 HO HS
  generalize f.arg 0 = A at H0 HX
  generalize f.arg 1 = B at H1 HX
  clear hX ha hb h hst hph ho hok hl hpc hsl
  go_enter Hvah.func200, Hvah.ntmps200
  go_wp2_with (first | (go_at_call 192; refine (HR _ hE).mono ?_; rintro e w0 ⟨rfl, he⟩; replace hE := hE.trans he; clear he) | (go_at_call_of 273 (Value.int .i64 0); refine (H0 _ hE).mono ?_; rintro e w1 ⟨rfl, he⟩; replace hE := (hE.trans he).alloc (wvA A) 79; have hA := Ext.refl (w1.alloc (.cells (wvA A) 79)); clear he) | (go_at_call_of 273 (Value.int .i64 1); refine (H1 _ hE).mono ?_; rintro e w2 ⟨rfl, he⟩; have hs2 := (hE.trans he).size; replace hE := ((hE.trans he).alloc (wvA B) 79).alloc zA 79; replace hA := ((hA.trans he).alloc (wvA B) 79).alloc zA 79; have hBx := (Ext.refl (w2.alloc (.cells (wvA B) 79))).alloc zA 79; have hZ := Ext.refl ((w2.alloc (.cells (wvA B) 79)).alloc (.cells zA 79)); clear he) | (go_at_call 117; refine (HO _ hE).mono ?_; rintro e w3 ⟨rfl, he⟩; replace hE := hE.trans he; replace hA := hA.trans he; replace hBx := hBx.trans he; replace hZ := hZ.trans he; clear he) | ((with_reducible (refine Veil.out ?_; apply wl_loadW)); (case hx => rfl); (case hr => first | (with_reducible exact boxes1 _ (wvA A) 79 _ hA) | (with_reducible exact boxes1 _ (wvA B) 79 _ hBx) | (with_reducible exact hR5))) | (go_at_call 294; refine (HX _).mono ?_; rintro e w4 ⟨rfl, he⟩; replace hE := hE.trans he; replace hZ := hZ.trans he; clear he) | ((with_reducible (refine Veil.out ?_; apply wl_storeR rt66)); (case hx => rfl); (case hy => rfl); (case hn => rfl); (case hth => exact boxes_there _ zA 79 _ _ (by simp) hZ); (case h1 => exact wvA_one _); refine w_gen (fun W => Ext w W ∧ RowIn W (w2.heap.size + 1) 0 (wvA X)) ⟨ext_setRow hE (by omega), row_set (boxes_there _ zA 79 _ _ (by simp) hZ)⟩ ?_; rintro W5 ⟨hE5, hR5⟩) | (go_at_call 268; refine (HS _ hE5).mono ?_; rintro e w9 ⟨rfl, hfin⟩))
  go_end0
  exact ⟨rfl, hfin⟩
set_option maxRecDepth 100000 in
set_option maxHeartbeats 1600000 in
theorem mOp192_24 (h : MRep own w g c V st (s :: sn) stale) (hst : st.frames = f :: rest) (hph : st.phase = 1) (ho : f.opcode = 24) (hl : 2 ≤ f.stack.length) (hpc : f.pc ≤ 50000) :
    Calls Hvah.prog 200 #[.pointer (some ⟨g, 0, none⟩)] w fun e w' => e = .returned (.tuple #[]) ∧ ∃ c', MRep own w' g c' V { st with frames := f.settle 2 [alu 24 (f.arg 0) (f.arg 1) (f.arg 2)] 1 :: rest } (s :: sn) stale ∧ MStep own w own w' := by
  have hok := (h.frame hst).1.ok
  have ha := arg_lt hok 0
  have hb := arg_lt hok 1
  have hsl := hok.sLen
  have hX := alt24 (f.arg 0) (f.arg 1) (f.arg 2) ha hb
  have HX := fun W => uA24 (f.arg 0) (f.arg 1) (f.arg 2) W ha hb
  have HR := fun W (hW : Ext w W) => mRun (h.ext hW) hst hph
  have H0 := fun W (hW : Ext w W) => mArg (h.ext hW) hst 0 (by decide)
  have H1 := fun W (hW : Ext w W) => mArg (h.ext hW) hst 1 (by decide)
  have HO := fun W (hW : Ext w W) => mOp (h.ext hW) hst hph
  rw [ho] at HO
  have HS := mSetP h hst 2 1 (alu 24 (f.arg 0) (f.arg 1) (f.arg 2)) (by omega) (by omega) hX (by omega)
  have hE := Ext.refl w
  obtain ⟨X, eX⟩ : ∃ X, alu 24 (f.arg 0) (f.arg 1) (f.arg 2) = X := ⟨_, rfl⟩
  rw [eX] at HX HS ⊢
  clear eX
  generalize 1803 + rest.length * 65 = F at HR H0 H1 HO HS
  generalize f.arg 0 = A at H0 HX
  generalize f.arg 1 = B at H1 HX
  clear hX ha hb h hst hph ho hok hl hpc hsl
  go_enter Hvah.func200, Hvah.ntmps200
  go_wp2_with (first | (go_at_call 192; refine (HR _ hE).mono ?_; rintro e w0 ⟨rfl, he⟩; replace hE := hE.trans he; clear he) | (go_at_call_of 273 (Value.int .i64 0); refine (H0 _ hE).mono ?_; rintro e w1 ⟨rfl, he⟩; replace hE := (hE.trans he).alloc (wvA A) 79; have hA := Ext.refl (w1.alloc (.cells (wvA A) 79)); clear he) | (go_at_call_of 273 (Value.int .i64 1); refine (H1 _ hE).mono ?_; rintro e w2 ⟨rfl, he⟩; have hs2 := (hE.trans he).size; replace hE := ((hE.trans he).alloc (wvA B) 79).alloc zA 79; replace hA := ((hA.trans he).alloc (wvA B) 79).alloc zA 79; have hBx := (Ext.refl (w2.alloc (.cells (wvA B) 79))).alloc zA 79; have hZ := Ext.refl ((w2.alloc (.cells (wvA B) 79)).alloc (.cells zA 79)); clear he) | (go_at_call 117; refine (HO _ hE).mono ?_; rintro e w3 ⟨rfl, he⟩; replace hE := hE.trans he; replace hA := hA.trans he; replace hBx := hBx.trans he; replace hZ := hZ.trans he; clear he) | ((with_reducible (refine Veil.out ?_; apply wl_loadW)); (case hx => rfl); (case hr => first | (with_reducible exact boxes1 _ (wvA A) 79 _ hA) | (with_reducible exact boxes1 _ (wvA B) 79 _ hBx) | (with_reducible exact hR5))) | (go_at_call 295; refine (HX _).mono ?_; rintro e w4 ⟨rfl, he⟩; replace hE := hE.trans he; replace hZ := hZ.trans he; clear he) | ((with_reducible (refine Veil.out ?_; apply wl_storeR rt66)); (case hx => rfl); (case hy => rfl); (case hn => rfl); (case hth => exact boxes_there _ zA 79 _ _ (by simp) hZ); (case h1 => exact wvA_one _); refine w_gen (fun W => Ext w W ∧ RowIn W (w2.heap.size + 1) 0 (wvA X)) ⟨ext_setRow hE (by omega), row_set (boxes_there _ zA 79 _ _ (by simp) hZ)⟩ ?_; rintro W5 ⟨hE5, hR5⟩) | (go_at_call 268; refine (HS _ hE5).mono ?_; rintro e w9 ⟨rfl, hfin⟩))
  go_end0
  exact ⟨rfl, hfin⟩
set_option maxRecDepth 100000 in
set_option maxHeartbeats 1600000 in
theorem mOp192_25 (h : MRep own w g c V st (s :: sn) stale) (hst : st.frames = f :: rest) (hph : st.phase = 1) (ho : f.opcode = 25) (hl : 1 ≤ f.stack.length) (hpc : f.pc ≤ 50000) :
    Calls Hvah.prog 200 #[.pointer (some ⟨g, 0, none⟩)] w fun e w' => e = .returned (.tuple #[]) ∧ ∃ c', MRep own w' g c' V { st with frames := f.settle 1 [alu 25 (f.arg 0) (f.arg 1) (f.arg 2)] 1 :: rest } (s :: sn) stale ∧ MStep own w own w' := by
  have hok := (h.frame hst).1.ok
  have ha := arg_lt hok 0
  have hb := arg_lt hok 1
  have hsl := hok.sLen
  have hX := alt25 (f.arg 0) (f.arg 1) (f.arg 2) ha hb
  have HX := fun W => uA25 (f.arg 0) (f.arg 1) (f.arg 2) W ha hb
  have HR := fun W (hW : Ext w W) => mRun (h.ext hW) hst hph
  have H0 := fun W (hW : Ext w W) => mArg (h.ext hW) hst 0 (by decide)
  have H1 := fun W (hW : Ext w W) => mArg (h.ext hW) hst 1 (by decide)
  have HO := fun W (hW : Ext w W) => mOp (h.ext hW) hst hph
  rw [ho] at HO
  have HS := mSetP h hst 1 1 (alu 25 (f.arg 0) (f.arg 1) (f.arg 2)) (by omega) (by omega) hX (by omega)
  have hE := Ext.refl w
  obtain ⟨X, eX⟩ : ∃ X, alu 25 (f.arg 0) (f.arg 1) (f.arg 2) = X := ⟨_, rfl⟩
  rw [eX] at HX HS ⊢
  clear eX
  generalize 1803 + rest.length * 65 = F at HR H0 H1 HO HS
  generalize f.arg 0 = A at H0 HX
  generalize f.arg 1 = B at H1 HX
  clear hX ha hb h hst hph ho hok hl hpc hsl
  go_enter Hvah.func200, Hvah.ntmps200
  go_wp2_with (first | (go_at_call 192; refine (HR _ hE).mono ?_; rintro e w0 ⟨rfl, he⟩; replace hE := hE.trans he; clear he) | (go_at_call_of 273 (Value.int .i64 0); refine (H0 _ hE).mono ?_; rintro e w1 ⟨rfl, he⟩; replace hE := (hE.trans he).alloc (wvA A) 79; have hA := Ext.refl (w1.alloc (.cells (wvA A) 79)); clear he) | (go_at_call_of 273 (Value.int .i64 1); refine (H1 _ hE).mono ?_; rintro e w2 ⟨rfl, he⟩; have hs2 := (hE.trans he).size; replace hE := ((hE.trans he).alloc (wvA B) 79).alloc zA 79; replace hA := ((hA.trans he).alloc (wvA B) 79).alloc zA 79; have hBx := (Ext.refl (w2.alloc (.cells (wvA B) 79))).alloc zA 79; have hZ := Ext.refl ((w2.alloc (.cells (wvA B) 79)).alloc (.cells zA 79)); clear he) | (go_at_call 117; refine (HO _ hE).mono ?_; rintro e w3 ⟨rfl, he⟩; replace hE := hE.trans he; replace hA := hA.trans he; replace hBx := hBx.trans he; replace hZ := hZ.trans he; clear he) | ((with_reducible (refine Veil.out ?_; apply wl_loadW)); (case hx => rfl); (case hr => first | (with_reducible exact boxes1 _ (wvA A) 79 _ hA) | (with_reducible exact boxes1 _ (wvA B) 79 _ hBx) | (with_reducible exact hR5))) | (go_at_call 296; refine (HX _).mono ?_; rintro e w4 ⟨rfl, he⟩; replace hE := hE.trans he; replace hZ := hZ.trans he; clear he) | ((with_reducible (refine Veil.out ?_; apply wl_storeR rt66)); (case hx => rfl); (case hy => rfl); (case hn => rfl); (case hth => exact boxes_there _ zA 79 _ _ (by simp) hZ); (case h1 => exact wvA_one _); refine w_gen (fun W => Ext w W ∧ RowIn W (w2.heap.size + 1) 0 (wvA X)) ⟨ext_setRow hE (by omega), row_set (boxes_there _ zA 79 _ _ (by simp) hZ)⟩ ?_; rintro W5 ⟨hE5, hR5⟩) | (go_at_call 268; refine (HS _ hE5).mono ?_; rintro e w9 ⟨rfl, hfin⟩))
  go_end0
  exact ⟨rfl, hfin⟩
set_option maxRecDepth 100000 in
set_option maxHeartbeats 1600000 in
theorem mOp192_26 (h : MRep own w g c V st (s :: sn) stale) (hst : st.frames = f :: rest) (hph : st.phase = 1) (ho : f.opcode = 26) (hl : 2 ≤ f.stack.length) (hpc : f.pc ≤ 50000) :
    Calls Hvah.prog 200 #[.pointer (some ⟨g, 0, none⟩)] w fun e w' => e = .returned (.tuple #[]) ∧ ∃ c', MRep own w' g c' V { st with frames := f.settle 2 [alu 26 (f.arg 0) (f.arg 1) (f.arg 2)] 1 :: rest } (s :: sn) stale ∧ MStep own w own w' := by
  have hok := (h.frame hst).1.ok
  have ha := arg_lt hok 0
  have hb := arg_lt hok 1
  have hsl := hok.sLen
  have hX := alt26 (f.arg 0) (f.arg 1) (f.arg 2) ha hb
  have HX := fun W => uA26 (f.arg 0) (f.arg 1) (f.arg 2) W ha hb
  have HR := fun W (hW : Ext w W) => mRun (h.ext hW) hst hph
  have H0 := fun W (hW : Ext w W) => mArg (h.ext hW) hst 0 (by decide)
  have H1 := fun W (hW : Ext w W) => mArg (h.ext hW) hst 1 (by decide)
  have HO := fun W (hW : Ext w W) => mOp (h.ext hW) hst hph
  rw [ho] at HO
  have HS := mSetP h hst 2 1 (alu 26 (f.arg 0) (f.arg 1) (f.arg 2)) (by omega) (by omega) hX (by omega)
  have hE := Ext.refl w
  obtain ⟨X, eX⟩ : ∃ X, alu 26 (f.arg 0) (f.arg 1) (f.arg 2) = X := ⟨_, rfl⟩
  rw [eX] at HX HS ⊢
  clear eX
  generalize 1803 + rest.length * 65 = F at HR H0 H1 HO HS
  generalize f.arg 0 = A at H0 HX
  generalize f.arg 1 = B at H1 HX
  clear hX ha hb h hst hph ho hok hl hpc hsl
  go_enter Hvah.func200, Hvah.ntmps200
  go_wp2_with (first | (go_at_call 192; refine (HR _ hE).mono ?_; rintro e w0 ⟨rfl, he⟩; replace hE := hE.trans he; clear he) | (go_at_call_of 273 (Value.int .i64 0); refine (H0 _ hE).mono ?_; rintro e w1 ⟨rfl, he⟩; replace hE := (hE.trans he).alloc (wvA A) 79; have hA := Ext.refl (w1.alloc (.cells (wvA A) 79)); clear he) | (go_at_call_of 273 (Value.int .i64 1); refine (H1 _ hE).mono ?_; rintro e w2 ⟨rfl, he⟩; have hs2 := (hE.trans he).size; replace hE := ((hE.trans he).alloc (wvA B) 79).alloc zA 79; replace hA := ((hA.trans he).alloc (wvA B) 79).alloc zA 79; have hBx := (Ext.refl (w2.alloc (.cells (wvA B) 79))).alloc zA 79; have hZ := Ext.refl ((w2.alloc (.cells (wvA B) 79)).alloc (.cells zA 79)); clear he) | (go_at_call 117; refine (HO _ hE).mono ?_; rintro e w3 ⟨rfl, he⟩; replace hE := hE.trans he; replace hA := hA.trans he; replace hBx := hBx.trans he; replace hZ := hZ.trans he; clear he) | ((with_reducible (refine Veil.out ?_; apply wl_loadW)); (case hx => rfl); (case hr => first | (with_reducible exact boxes1 _ (wvA A) 79 _ hA) | (with_reducible exact boxes1 _ (wvA B) 79 _ hBx) | (with_reducible exact hR5))) | (go_at_call 297; refine (HX _).mono ?_; rintro e w4 ⟨rfl, he⟩; replace hE := hE.trans he; replace hZ := hZ.trans he; clear he) | ((with_reducible (refine Veil.out ?_; apply wl_storeR rt66)); (case hx => rfl); (case hy => rfl); (case hn => rfl); (case hth => exact boxes_there _ zA 79 _ _ (by simp) hZ); (case h1 => exact wvA_one _); refine w_gen (fun W => Ext w W ∧ RowIn W (w2.heap.size + 1) 0 (wvA X)) ⟨ext_setRow hE (by omega), row_set (boxes_there _ zA 79 _ _ (by simp) hZ)⟩ ?_; rintro W5 ⟨hE5, hR5⟩) | (go_at_call 268; refine (HS _ hE5).mono ?_; rintro e w9 ⟨rfl, hfin⟩))
  go_end0
  exact ⟨rfl, hfin⟩
set_option maxRecDepth 100000 in
set_option maxHeartbeats 1600000 in
theorem mOp192_27 (h : MRep own w g c V st (s :: sn) stale) (hst : st.frames = f :: rest) (hph : st.phase = 1) (ho : f.opcode = 27) (hl : 2 ≤ f.stack.length) (hpc : f.pc ≤ 50000) :
    Calls Hvah.prog 200 #[.pointer (some ⟨g, 0, none⟩)] w fun e w' => e = .returned (.tuple #[]) ∧ ∃ c', MRep own w' g c' V { st with frames := f.settle 2 [alu 27 (f.arg 0) (f.arg 1) (f.arg 2)] 1 :: rest } (s :: sn) stale ∧ MStep own w own w' := by
  have hok := (h.frame hst).1.ok
  have ha := arg_lt hok 0
  have hb := arg_lt hok 1
  have hsl := hok.sLen
  have hX := alt27 (f.arg 0) (f.arg 1) (f.arg 2) ha hb
  have HX := fun W => uA27 (f.arg 0) (f.arg 1) (f.arg 2) W ha hb
  have HR := fun W (hW : Ext w W) => mRun (h.ext hW) hst hph
  have H0 := fun W (hW : Ext w W) => mArg (h.ext hW) hst 0 (by decide)
  have H1 := fun W (hW : Ext w W) => mArg (h.ext hW) hst 1 (by decide)
  have HO := fun W (hW : Ext w W) => mOp (h.ext hW) hst hph
  rw [ho] at HO
  have HS := mSetP h hst 2 1 (alu 27 (f.arg 0) (f.arg 1) (f.arg 2)) (by omega) (by omega) hX (by omega)
  have hE := Ext.refl w
  obtain ⟨X, eX⟩ : ∃ X, alu 27 (f.arg 0) (f.arg 1) (f.arg 2) = X := ⟨_, rfl⟩
  rw [eX] at HX HS ⊢
  clear eX
  generalize 1803 + rest.length * 65 = F at HR H0 H1 HO HS
  generalize f.arg 0 = A at H0 HX
  generalize f.arg 1 = B at H1 HX
  clear hX ha hb h hst hph ho hok hl hpc hsl
  go_enter Hvah.func200, Hvah.ntmps200
  go_wp2_with (first | (go_at_call 192; refine (HR _ hE).mono ?_; rintro e w0 ⟨rfl, he⟩; replace hE := hE.trans he; clear he) | (go_at_call_of 273 (Value.int .i64 0); refine (H0 _ hE).mono ?_; rintro e w1 ⟨rfl, he⟩; replace hE := (hE.trans he).alloc (wvA A) 79; have hA := Ext.refl (w1.alloc (.cells (wvA A) 79)); clear he) | (go_at_call_of 273 (Value.int .i64 1); refine (H1 _ hE).mono ?_; rintro e w2 ⟨rfl, he⟩; have hs2 := (hE.trans he).size; replace hE := ((hE.trans he).alloc (wvA B) 79).alloc zA 79; replace hA := ((hA.trans he).alloc (wvA B) 79).alloc zA 79; have hBx := (Ext.refl (w2.alloc (.cells (wvA B) 79))).alloc zA 79; have hZ := Ext.refl ((w2.alloc (.cells (wvA B) 79)).alloc (.cells zA 79)); clear he) | (go_at_call 117; refine (HO _ hE).mono ?_; rintro e w3 ⟨rfl, he⟩; replace hE := hE.trans he; replace hA := hA.trans he; replace hBx := hBx.trans he; replace hZ := hZ.trans he; clear he) | ((with_reducible (refine Veil.out ?_; apply wl_loadW)); (case hx => rfl); (case hr => first | (with_reducible exact boxes1 _ (wvA A) 79 _ hA) | (with_reducible exact boxes1 _ (wvA B) 79 _ hBx) | (with_reducible exact hR5))) | (go_at_call 298; refine (HX _).mono ?_; rintro e w4 ⟨rfl, he⟩; replace hE := hE.trans he; replace hZ := hZ.trans he; clear he) | ((with_reducible (refine Veil.out ?_; apply wl_storeR rt66)); (case hx => rfl); (case hy => rfl); (case hn => rfl); (case hth => exact boxes_there _ zA 79 _ _ (by simp) hZ); (case h1 => exact wvA_one _); refine w_gen (fun W => Ext w W ∧ RowIn W (w2.heap.size + 1) 0 (wvA X)) ⟨ext_setRow hE (by omega), row_set (boxes_there _ zA 79 _ _ (by simp) hZ)⟩ ?_; rintro W5 ⟨hE5, hR5⟩) | (go_at_call 268; refine (HS _ hE5).mono ?_; rintro e w9 ⟨rfl, hfin⟩))
  go_end0
  exact ⟨rfl, hfin⟩
set_option maxRecDepth 100000 in
set_option maxHeartbeats 1600000 in
theorem mOp192_28 (h : MRep own w g c V st (s :: sn) stale) (hst : st.frames = f :: rest) (hph : st.phase = 1) (ho : f.opcode = 28) (hl : 2 ≤ f.stack.length) (hpc : f.pc ≤ 50000) :
    Calls Hvah.prog 200 #[.pointer (some ⟨g, 0, none⟩)] w fun e w' => e = .returned (.tuple #[]) ∧ ∃ c', MRep own w' g c' V { st with frames := f.settle 2 [alu 28 (f.arg 0) (f.arg 1) (f.arg 2)] 1 :: rest } (s :: sn) stale ∧ MStep own w own w' := by
  have hok := (h.frame hst).1.ok
  have ha := arg_lt hok 0
  have hb := arg_lt hok 1
  have hsl := hok.sLen
  have hX := alt28 (f.arg 0) (f.arg 1) (f.arg 2) ha hb
  have HX := fun W => uA28 (f.arg 0) (f.arg 1) (f.arg 2) W ha hb
  have HR := fun W (hW : Ext w W) => mRun (h.ext hW) hst hph
  have H0 := fun W (hW : Ext w W) => mArg (h.ext hW) hst 0 (by decide)
  have H1 := fun W (hW : Ext w W) => mArg (h.ext hW) hst 1 (by decide)
  have HO := fun W (hW : Ext w W) => mOp (h.ext hW) hst hph
  rw [ho] at HO
  have HS := mSetP h hst 2 1 (alu 28 (f.arg 0) (f.arg 1) (f.arg 2)) (by omega) (by omega) hX (by omega)
  have hE := Ext.refl w
  obtain ⟨X, eX⟩ : ∃ X, alu 28 (f.arg 0) (f.arg 1) (f.arg 2) = X := ⟨_, rfl⟩
  rw [eX] at HX HS ⊢
  clear eX
  generalize 1803 + rest.length * 65 = F at HR H0 H1 HO HS
  generalize f.arg 0 = A at H0 HX
  generalize f.arg 1 = B at H1 HX
  clear hX ha hb h hst hph ho hok hl hpc hsl
  go_enter Hvah.func200, Hvah.ntmps200
  go_wp2_with (first | (go_at_call 192; refine (HR _ hE).mono ?_; rintro e w0 ⟨rfl, he⟩; replace hE := hE.trans he; clear he) | (go_at_call_of 273 (Value.int .i64 0); refine (H0 _ hE).mono ?_; rintro e w1 ⟨rfl, he⟩; replace hE := (hE.trans he).alloc (wvA A) 79; have hA := Ext.refl (w1.alloc (.cells (wvA A) 79)); clear he) | (go_at_call_of 273 (Value.int .i64 1); refine (H1 _ hE).mono ?_; rintro e w2 ⟨rfl, he⟩; have hs2 := (hE.trans he).size; replace hE := ((hE.trans he).alloc (wvA B) 79).alloc zA 79; replace hA := ((hA.trans he).alloc (wvA B) 79).alloc zA 79; have hBx := (Ext.refl (w2.alloc (.cells (wvA B) 79))).alloc zA 79; have hZ := Ext.refl ((w2.alloc (.cells (wvA B) 79)).alloc (.cells zA 79)); clear he) | (go_at_call 117; refine (HO _ hE).mono ?_; rintro e w3 ⟨rfl, he⟩; replace hE := hE.trans he; replace hA := hA.trans he; replace hBx := hBx.trans he; replace hZ := hZ.trans he; clear he) | ((with_reducible (refine Veil.out ?_; apply wl_loadW)); (case hx => rfl); (case hr => first | (with_reducible exact boxes1 _ (wvA A) 79 _ hA) | (with_reducible exact boxes1 _ (wvA B) 79 _ hBx) | (with_reducible exact hR5))) | (go_at_call 299; refine (HX _).mono ?_; rintro e w4 ⟨rfl, he⟩; replace hE := hE.trans he; replace hZ := hZ.trans he; clear he) | ((with_reducible (refine Veil.out ?_; apply wl_storeR rt66)); (case hx => rfl); (case hy => rfl); (case hn => rfl); (case hth => exact boxes_there _ zA 79 _ _ (by simp) hZ); (case h1 => exact wvA_one _); refine w_gen (fun W => Ext w W ∧ RowIn W (w2.heap.size + 1) 0 (wvA X)) ⟨ext_setRow hE (by omega), row_set (boxes_there _ zA 79 _ _ (by simp) hZ)⟩ ?_; rintro W5 ⟨hE5, hR5⟩) | (go_at_call 268; refine (HS _ hE5).mono ?_; rintro e w9 ⟨rfl, hfin⟩))
  go_end0
  exact ⟨rfl, hfin⟩
end
end Go.Proofs.YgvahwGreat
