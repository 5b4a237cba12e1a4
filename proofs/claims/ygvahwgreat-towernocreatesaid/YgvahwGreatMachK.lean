import Derived.Test.YgvahwGreatMachG
namespace Go.Proofs.YgvahwGreat
open Go.RowKit
attribute [local go_sem] wv_fold
theorem flip_div {D E y : Nat} (hD : 0 < D) (hy : y < D * E) : (D * E - 1 - y) / D = E - 1 - y / D := by
  have h1 := Nat.div_add_mod y D
  have h2 := Nat.mod_lt y hD
  have h3 : y / D < E := Nat.div_lt_of_lt_mul hy
  generalize y / D = q at *
  generalize y % D = r at *
  obtain ⟨k, hk⟩ : ∃ k, E = q + 1 + k := ⟨E - (q + 1), by omega⟩
  subst hk
  have e : D * (q + 1 + k) = D * q + D + D * k := by rw [Nat.mul_add, Nat.mul_add, Nat.mul_one]
  rw [e] at *
  rw [show q + 1 + k - 1 - q = k by omega]
  refine Nat.div_eq_of_lt_le ?_ ?_
  · rw [Nat.mul_comm k D]; omega
  · rw [Nat.mul_comm (k + 1) D, Nat.mul_add, Nat.mul_one]; omega
theorem flip_mod {M k q : Nat} (hk : 0 < k) (hq : q < M) : (M * k - 1 - q) % M = M - 1 - q := by
  obtain ⟨j, rfl⟩ : ∃ j, k = j + 1 := ⟨k - 1, by omega⟩
  rw [show M * (j + 1) - 1 - q = M * j + (M - 1 - q) by rw [Nat.mul_add, Nat.mul_one]; omega, Nat.mul_add_mod]
  exact Nat.mod_eq_of_lt (by omega)
set_option exponentiation.threshold 1000 in
theorem sar_eq (s x : Nat) (hx : x < P256) : (if s < 256 then aboveW x (signF x) / 2 ^ s % P256 else W4 (signF x) (signF x) (signF x) (signF x)) = sarA s x := by
  unfold sarA signF
  cases hn : negW x with
  | false =>
    simp only [Bool.false_eq_true, if_false]
    split
    · rename_i h
      rw [aboveW, Nat.zero_mul, Nat.mul_zero, Nat.add_zero, Nat.mod_eq_of_lt (Nat.lt_of_le_of_lt (Nat.div_le_self _ _) hx), Nat.min_eq_left (by omega)]
    · rename_i h
      rw [Nat.min_eq_right (by omega), ← P256_eq, Nat.div_eq_of_lt hx]; rfl
  | true =>
    simp only [if_true]
    obtain ⟨y, hy⟩ : ∃ y, P256 - 1 - x = y := ⟨_, rfl⟩
    have hyl : y < P256 := by omega
    split
    · rename_i h
      have hp : ∀ p q : Nat, s + (576 - s) = p + q → 2 ^ s * 2 ^ (576 - s) = 2 ^ p * 2 ^ q := fun p q e => by rw [← Nat.pow_add, e, Nat.pow_add]
      rw [Nat.min_eq_left (by omega), hy]
      have e1 : aboveW x 18446744073709551615 = 2 ^ s * 2 ^ (576 - s) - 1 - y := by
        rw [hp 256 320 (by omega), ← P256_eq, aboveW, show 18446744073709551615 * (1 + 2 ^ 64 + 2 ^ 128 + 2 ^ 192 + 2 ^ 256) = 2 ^ 320 - 1 by rfl]
        have : 1 ≤ 2 ^ 320 := Nat.one_le_two_pow
        generalize 2 ^ 320 = N at *
        rw [Nat.mul_sub, Nat.mul_one]
        have : P256 ≤ P256 * N := Nat.le_mul_of_pos_right _ (by omega)
        omega
      have hD : 0 < 2 ^ s := Nat.two_pow_pos s
      have hlt : y < 2 ^ s * 2 ^ (576 - s) := by
        rw [hp 256 320 (by omega), ← P256_eq]
        exact Nat.lt_of_lt_of_le hyl (Nat.le_mul_of_pos_right _ (Nat.two_pow_pos _))
      rw [e1, flip_div hD hlt, show 576 - s = 256 + (320 - s) by omega, Nat.pow_add, ← P256_eq]
      exact flip_mod (Nat.two_pow_pos _) (Nat.lt_of_le_of_lt (Nat.div_le_self _ _) hyl)
    · rename_i h
      rw [Nat.min_eq_right (by omega), ← P256_eq, hy, Nat.div_eq_of_lt hyl]; rfl
theorem uA29 (a b c : Nat) (W : World) (ha : a < P256) (hb : b < P256) : Calls Hvah.prog 300 #[wv a, wv b] W fun e w' => e = .returned (wv (alu 29 a b c)) ∧ Ext W w' := by
  have e : alu 29 a b c = sarA a b := rfl
  rw [e, ← sar_eq a b hb]
  exact uSar a b W ha hb
theorem alt29 (a b c : Nat) (_ha : a < P256) (hb : b < P256) : alu 29 a b c < P256 := by
  show sarA a b < P256
  unfold sarA
  have hp := P256_pos
  split
  · generalize (P256 - 1 - b) / 2 ^ min a 256 = q
    omega
  · exact Nat.lt_of_le_of_lt (Nat.div_le_self _ _) hb
section
variable {own : Nat → Nat} {w : World} {g : Nat} {c : Nat → Value} {V : EV} {st : ASt} {sn stale : List Nat} {f : AFrame} {rest : List AFrame} {s : Nat}
set_option maxRecDepth 100000 in
set_option maxHeartbeats 1600000 in
theorem mOp192_29 (h : MRep own w g c V st (s :: sn) stale) (hst : st.frames = f :: rest) (hph : st.phase = 1) (ho : f.opcode = 29) (hl : 2 ≤ f.stack.length) (hpc : f.pc ≤ 50000) :
    Calls Hvah.prog 200 #[.pointer (some ⟨g, 0, none⟩)] w fun e w' => e = .returned (.tuple #[]) ∧ ∃ c', MRep own w' g c' V { st with frames := f.settle 2 [alu 29 (f.arg 0) (f.arg 1) (f.arg 2)] 1 :: rest } (s :: sn) stale ∧ MStep own w own w' := by
  have hok := (h.frame hst).1.ok
  have ha := arg_lt hok 0
  have hb := arg_lt hok 1
  have hsl := hok.sLen
  have hX := alt29 (f.arg 0) (f.arg 1) (f.arg 2) ha hb
  have HX := fun W => uA29 (f.arg 0) (f.arg 1) (f.arg 2) W ha hb
  have HR := fun W (hW : Ext w W) => mRun (h.ext hW) hst hph
  have H0 := fun W (hW : Ext w W) => mArg (h.ext hW) hst 0 (by decide)
  have H1 := fun W (hW : Ext w W) => mArg (h.ext hW) hst 1 (by decide)
  have HO := fun W (hW : Ext w W) => mOp (h.ext hW) hst hph
  rw [ho] at HO
  have HS := mSetP h hst 2 1 (alu 29 (f.arg 0) (f.arg 1) (f.arg 2)) (by omega) (by omega) hX (by omega)
  have hE := Ext.refl w
  obtain ⟨X, eX⟩ : ∃ X, alu 29 (f.arg 0) (f.arg 1) (f.arg 2) = X := ⟨_, rfl⟩
  rw [eX] at HX HS ⊢
  clear eX
  generalize 1803 + rest.length * 65 = F at HR H0 H1 HO HS
  generalize f.arg 0 = A at H0 HX
  generalize f.arg 1 = B at H1 HX
  clear hX ha hb h hst hph ho hok hl hpc hsl
  go_enter Hvah.func200, Hvah.ntmps200
  go_wp2_with (first | (go_at_call 192; refine (HR _ hE).mono ?_; rintro e w0 ⟨rfl, he⟩; replace hE := hE.trans he; clear he) | (go_at_call_of 273 (Value.int .i64 0); refine (H0 _ hE).mono ?_; rintro e w1 ⟨rfl, he⟩; replace hE := (hE.trans he).alloc (wvA A) 79; have hA := Ext.refl (w1.alloc (.cells (wvA A) 79)); clear he) | (go_at_call_of 273 (Value.int .i64 1); refine (H1 _ hE).mono ?_; rintro e w2 ⟨rfl, he⟩; have hs2 := (hE.trans he).size; replace hE := ((hE.trans he).alloc (wvA B) 79).alloc zA 79; replace hA := ((hA.trans he).alloc (wvA B) 79).alloc zA 79; have hBx := (Ext.refl (w2.alloc (.cells (wvA B) 79))).alloc zA 79; have hZ := Ext.refl ((w2.alloc (.cells (wvA B) 79)).alloc (.cells zA 79)); clear he) | (go_at_call 117; refine (HO _ hE).mono ?_; rintro e w3 ⟨rfl, he⟩; replace hE := hE.trans he; replace hA := hA.trans he; replace hBx := hBx.trans he; replace hZ := hZ.trans he; clear he) | ((with_reducible (refine Veil.out ?_; apply wl_loadW)); (case hx => rfl); (case hr => first | (with_reducible exact boxes1 _ (wvA A) 79 _ hA) | (with_reducible exact boxes1 _ (wvA B) 79 _ hBx) | (with_reducible exact hR5))) | (go_at_call 300; refine (HX _).mono ?_; rintro e w4 ⟨rfl, he⟩; replace hE := hE.trans he; replace hZ := hZ.trans he; clear he) | ((with_reducible (refine Veil.out ?_; apply wl_storeR rt66)); (case hx => rfl); (case hy => rfl); (case hn => rfl); (case hth => exact boxes_there _ zA 79 _ _ (by simp) hZ); (case h1 => exact wvA_one _); refine w_gen (fun W => Ext w W ∧ RowIn W (w2.heap.size + 1) 0 (wvA X)) ⟨ext_setRow hE (by omega), row_set (boxes_there _ zA 79 _ _ (by simp) hZ)⟩ ?_; rintro W5 ⟨hE5, hR5⟩) | (go_at_call 268; refine (HS _ hE5).mono ?_; rintro e w9 ⟨rfl, hfin⟩))
  go_end0
  exact ⟨rfl, hfin⟩
end
end Go.Proofs.YgvahwGreat
