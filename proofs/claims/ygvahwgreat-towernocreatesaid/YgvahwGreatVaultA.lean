import Derived.Test.YgvahwGreatRowsA
namespace Go.Proofs.YgvahwGreat
open Go.RowKit
attribute [local go_sem] wv_fold

/-- One fold of the mixing. -/
def foldP (h x : Nat) : Nat := (h ^^^ x) * 11400714819323198485 / 18446744073709551616 ^^^ (h ^^^ x) * 11400714819323198485 % 18446744073709551616
theorem foldP_lt (h x : Nat) (hh : h < 18446744073709551616) (hx : x < 18446744073709551616) : foldP h x < 18446744073709551616 := by
  have h1 := xor_lt64 hh hx
  refine xor_lt64 ?_ (Nat.mod_lt _ (by decide))
  exact Nat.div_lt_of_lt_mul (by omega)

theorem vFold (h x : Nat) (w : World) (hh : h < 18446744073709551616) (hx : x < 18446744073709551616) :
    Calls Hvah.prog 359 #[.int .u64 h, .int .u64 x] w fun e w' => e = .returned (.int .u64 (foldP h x : Nat)) ∧ w' = w := by
  have h1 := xor_lt64 hh hx
  have e1 := u64_xor_nat h x hh hx
  have HM := fun W => mMul64 (h ^^^ x) 11400714819323198485 h1 (by decide) W
  go_enter Hvah.func359, Hvah.ntmps359
  go_wp2_with (first | (go_at_call 177; refine (HM _).mono ?_; rintro e w1 ⟨a, b, rfl, ha, hb, hab, rfl⟩))
  have e2 := u64_xor_nat a b ha hb
  go_ret
  have := hab.out
  rw [e2]
  refine ⟨?_, rfl⟩
  unfold foldP
  rw [← this, show (b + 18446744073709551616 * a) / 18446744073709551616 = a by omega, show (b + 18446744073709551616 * a) % 18446744073709551616 = b by omega]
  rfl

/-- Where probing for an address begins. -/
def acctH (a : Nat) : Nat := foldP (foldP (foldP (foldP 2611923443488327891 (be64 (beL 20 a) 0)) (be64 (beL 20 a) 8)) (be64 (beL 20 a) 12)) 1376283091369227076 % 4096
set_option maxHeartbeats 800000 in
theorem vAcctHome (a : Nat) (w : World) (ha : a < 2 ^ 160) :
    Calls Hvah.prog 248 #[.agg (av a)] w fun e w' => e = .returned (.int .u32 (acctH a : Nat)) ∧ Ext w w' := by
  have hd : Digits (beL 20 a) := digits_beL 20 a
  have hl : (beL 20 a).length = 20 := beL_length 20 a (dl20 ha)
  have H0 := be64_lt hd 0
  have H8 := be64_lt hd 8
  have H12 := be64_lt hd 12
  have HM : ∀ (off : Nat) W, off + 8 ≤ 20 → Ext (w.alloc (.cells (av a) 31)) W → Calls Hvah.prog 165 #[.slice (some ⟨w.heap.size, 0, none⟩) 20 20, .int .i64 off] W fun e w' => e = .returned (.tuple #[.int .u64 (be64 (beL 20 a) off : Nat), .bool true]) ∧ Ext W w' := fun off W h2 he =>
    mBE64L w.heap.size 0 20 20 off (beL 20 a) W hl hd h2 (Nat.le_refl _) (by decide) (fun i hi => by
      rw [Nat.zero_add, he.rc _ _ (by simp)]
      exact cell_row (t := 31) (heap_new _ _) i hi)
  have M0 := fun W => HM 0 W (by decide)
  have M8 := fun W => HM 8 W (by decide)
  have M12 := fun W => HM 12 W (by decide)
  clear HM
  unfold acctH
  generalize be64 (beL 20 a) 0 = x at *
  generalize be64 (beL 20 a) 8 = y at *
  generalize be64 (beL 20 a) 12 = z at *
  have F1 := foldP_lt 2611923443488327891 x (by decide) H0
  have G1 : ∀ W, Calls Hvah.prog 359 #[.int .u64 2611923443488327891, .int .u64 (x : Int)] W fun e w' => e = .returned (.int .u64 (foldP 2611923443488327891 x : Nat)) ∧ w' = W := fun W => vFold 2611923443488327891 x W (by decide) H0
  generalize foldP 2611923443488327891 x = f1 at *
  have F2 := foldP_lt f1 y F1 H8
  have G2 := fun W => vFold f1 y W F1 H8
  generalize foldP f1 y = f2 at *
  have F3 := foldP_lt f2 z F2 H12
  have G3 := fun W => vFold f2 z W F2 H12
  generalize foldP f2 z = f3 at *
  have F4 := foldP_lt f3 1376283091369227076 F3 (by decide)
  have G4 : ∀ W, Calls Hvah.prog 359 #[.int .u64 (f3 : Int), .int .u64 1376283091369227076] W fun e w' => e = .returned (.int .u64 (foldP f3 1376283091369227076 : Nat)) ∧ w' = W := fun W => vFold f3 1376283091369227076 W F3 (by decide)
  generalize foldP f3 1376283091369227076 = f4 at *
  clear hd hl H0 H8 H12
  go_enter Hvah.func248, Hvah.ntmps248
  go_wp2_with (first
    | ((with_reducible (refine Veil.out ?_; apply wl_box)); (case hx => rfl))
    | (go_at_call_of 165 (Value.int .i64 0); refine (M0 _ (Ext.refl _)).mono ?_; rintro e w1 ⟨rfl, he1⟩)
    | (go_at_call_of 165 (Value.int .i64 8); refine (M8 _ he1).mono ?_; rintro e w2 ⟨rfl, he2⟩)
    | (go_at_call_of 165 (Value.int .i64 12); refine (M12 _ (he1.trans he2)).mono ?_; rintro e w3 ⟨rfl, he3⟩)
    | (go_at_call_of 359 (Value.int .u64 (x : Int)); refine (G1 _).mono ?_; rintro e w4 ⟨rfl, rfl⟩)
    | (go_at_call_of 359 (Value.int .u64 (y : Int)); refine (G2 _).mono ?_; rintro e w5 ⟨rfl, rfl⟩)
    | (go_at_call_of 359 (Value.int .u64 (z : Int)); refine (G3 _).mono ?_; rintro e w6 ⟨rfl, rfl⟩)
    | (go_at_call_of 359 (Value.int .u64 (f3 : Int)); refine (G4 _).mono ?_; rintro e w7 ⟨rfl, rfl⟩))
  go_ret
  exact ⟨rfl, ((Ext.refl _).alloc _ _).trans ((he1.trans he2).trans he3)⟩

theorem size26 (h : 26 < Hvah.prog.types.size) : (Hvah.prog.types[26]'h).size = 1 := by kernel_rfl
section
variable {ops : Array Oper} {rest : List Oper} {a : Act} {Q : Exit → Act → World → Prop} {w : World} {dst : Option Tmp} {ty : TypeId} {pos : String} {aft : Array Edge}
theorem sizeOf26 : (Hvah.prog.info? 24).map (·.size) = some 1 := by kernel_rfl
/-- A limb of a word. -/
theorem wl_limb (x i : Operand) (cs : Array Value) (k : Nat) (hx : a.eval x = .agg cs) (hi : a.eval i = .int .i64 k) (hk : k < 4) (v : Value) (hv : cs[k]? = some v)
    (h : wpList Hvah.prog ops Q rest (a.put dst v) w) : Veil (wpList Hvah.prog ops Q (⟨dst, .index 79 x i, ty, pos, aft, none⟩ :: rest) a w) := by
  refine Veil.mk ?_
  refine wpList_plain rfl fun K hK => ?_
  unfold Oper.wp
  have hp : (part 24 cs k).run Hvah.prog w = .ok v w := by
    simp [part, hv]
  simp [execOp, hx, hi, Instr.index, run_underlying under66, asIntOf, hp, Result.andThen, hk]
  exact hK _ _ h
end
/-- k limbs mixed in. -/
def mixN (h x : Nat) : Nat → Nat
  | 0 => h
  | k + 1 => foldP (mixN h x k) (lim x k)
theorem mixN_lt (h x : Nat) (hh : h < 18446744073709551616) : ∀ k, mixN h x k < 18446744073709551616
  | 0 => hh
  | k + 1 => foldP_lt _ _ (mixN_lt h x hh k) (lim_lt x k)
/-- A place and a key, mixed. -/
def mixP (i x : Nat) : Nat := foldP (mixN (foldP 2611923443488327891 i) x 4) 1376283091369227076
theorem mixP_lt (i x : Nat) (hi : i < 18446744073709551616) : mixP i x < 18446744073709551616 := foldP_lt _ _ (mixN_lt _ _ (foldP_lt _ _ (by decide) hi) _) (by decide)
set_option maxRecDepth 100000 in
set_option maxHeartbeats 800000 in
theorem vMixSlot (i x : Nat) (w : World) (hi : i < 2147483648) :
    Calls Hvah.prog 360 #[.int .i32 i, wv x] w fun e w' => e = .returned (.int .u64 (mixP i x : Nat)) ∧ Ext w w' := by
  have G1 : ∀ W, Calls Hvah.prog 359 #[.int .u64 2611923443488327891, .int .u64 (i : Int)] W fun e w' => e = .returned (.int .u64 (foldP 2611923443488327891 i : Nat)) ∧ w' = W := fun W => vFold 2611923443488327891 i W (by decide) (by omega)
  have F1 := foldP_lt 2611923443488327891 i (by decide) (by omega)
  unfold mixP
  generalize foldP 2611923443488327891 i = f at *
  have hm := mixN_lt f x F1
  have G4 : ∀ W, Calls Hvah.prog 359 #[.int .u64 (mixN f x 4 : Nat), .int .u64 1376283091369227076] W fun e w' => e = .returned (.int .u64 (foldP (mixN f x 4) 1376283091369227076 : Nat)) ∧ w' = W := fun W => vFold _ 1376283091369227076 W (hm 4) (by decide)
  have Gk : ∀ k W, Calls Hvah.prog 359 #[.int .u64 (mixN f x k : Nat), .int .u64 (lim x k : Nat)] W fun e w' => e = .returned (.int .u64 (mixN f x (k + 1) : Nat)) ∧ w' = W := fun k W => vFold _ _ W (hm k) (lim_lt x k)
  have m0 : mixN f x 0 = f := rfl
  generalize mixN f x = m at *
  go_enter Hvah.func360, Hvah.ntmps360
  go_wp2_with (first | (go_at_call 359; refine (G1 _).mono ?_; rintro e w4 ⟨rfl, rfl⟩))
  go_loopw [5, 13] (fun h i wr => ∃ k : Nat, k ≤ 4 ∧ i = .int .i64 k ∧ h = .int .u64 (m k : Nat) ∧ wr = w.alloc (.cells #[.int .u64 (lim x 0 : Nat), .int .u64 (lim x 1 : Nat), .int .u64 (lim x 2 : Nat), .int .u64 (lim x 3 : Nat)] 79)) (fun _ i _ => 4 - (intOf i).toNat)
  case atStart => exact ⟨0, by omega, rfl, by rw [m0], rfl⟩
  case round =>
    clear m0
    obtain ⟨k, hk, rfl, rfl, rfl⟩ := hrel
    have hc : k = 0 ∨ k = 1 ∨ k = 2 ∨ k = 3 ∨ k = 4 := by omega
    clear hm
    rcases hc with rfl | rfl | rfl | rfl | rfl <;> clear hk
    · go_wp2_with (first | ((with_reducible (refine Veil.out ?_; apply wl_limb (k := 0))); (case hx => rfl); (case hi => rfl); (case hk => decide); (case hv => rfl)) | (go_at_call 359; refine (Gk 0 _).mono ?_; rintro e w4 ⟨rfl, rfl⟩))
      exact ⟨⟨1, by omega, rfl, rfl, trivial⟩, by simp [intOf]⟩
    · go_wp2_with (first | ((with_reducible (refine Veil.out ?_; apply wl_limb (k := 1))); (case hx => rfl); (case hi => rfl); (case hk => decide); (case hv => rfl)) | (go_at_call 359; refine (Gk 1 _).mono ?_; rintro e w4 ⟨rfl, rfl⟩))
      exact ⟨⟨2, by omega, rfl, rfl, trivial⟩, by simp [intOf]⟩
    · go_wp2_with (first | ((with_reducible (refine Veil.out ?_; apply wl_limb (k := 2))); (case hx => rfl); (case hi => rfl); (case hk => decide); (case hv => rfl)) | (go_at_call 359; refine (Gk 2 _).mono ?_; rintro e w4 ⟨rfl, rfl⟩))
      exact ⟨⟨3, by omega, rfl, rfl, trivial⟩, by simp [intOf]⟩
    · go_wp2_with (first | ((with_reducible (refine Veil.out ?_; apply wl_limb (k := 3))); (case hx => rfl); (case hi => rfl); (case hk => decide); (case hv => rfl)) | (go_at_call 359; refine (Gk 3 _).mono ?_; rintro e w4 ⟨rfl, rfl⟩))
      exact ⟨⟨4, by omega, rfl, rfl, trivial⟩, by simp [intOf]⟩
    · go_wp2_with (first | (go_at_call 359; refine (G4 _).mono ?_; rintro e w4 ⟨rfl, rfl⟩))
      go_ret
      exact ⟨rfl, (Ext.refl _).alloc _ _⟩
theorem vSlotHome (i x : Nat) (w : World) (hi : i < 2147483648) :
    Calls Hvah.prog 249 #[.int .i32 i, wv x] w fun e w' => e = .returned (.int .u32 (mixP i x % 4096 : Nat)) ∧ Ext w w' := by
  have HM := fun W => vMixSlot i x W hi
  have hl := mixP_lt i x (by omega)
  generalize mixP i x = m at *
  go_enter Hvah.func249, Hvah.ntmps249
  go_wp2_with (first | (go_at_call 360; refine (HM _).mono ?_; rintro e w1 ⟨rfl, he⟩))
  go_ret
  exact ⟨rfl, ((Ext.refl _).alloc _ _).trans he⟩
end Go.Proofs.YgvahwGreat
