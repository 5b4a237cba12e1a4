import Derived.Test.YgvahwGreatPb
import Derived.Test.YgvahwGreatNc
namespace Go.Proofs.YgvahwGreat
open Go.RowKit
set_option linter.unusedSimpArgs false
theorem z404 : zeroOf Hvah.prog 412 = some #[.int .i64 0, .int .i64 0, .int .i64 0] := by kernel_rfl
/-- What the engine's lengths gives. -/
def lensI (L : List Nat) : Value := match natLens L with
  | none => .tuple #[.int .i64 0, .int .i64 0, .int .i64 0, .bool false]
  | some (b, e, m) => .tuple #[.int .i64 (b : Nat), .int .i64 (e : Nat), .int .i64 (m : Nat), .bool true]
theorem natPart_lt {O : Nat → Prop} {w : World} {v : Value} {L : List Nat} (h : NL O w v L) (off n : Nat) : natPart L off n < 256 ^ n ∧ Digits (cutA L off n) := by
  have hdig : Digits (cutA L off n) := fun d hd => by
    rcases List.mem_append.1 (List.mem_of_mem_take hd) with q | q
    · exact h.digits d (List.mem_of_mem_drop q)
    · rw [List.eq_of_mem_replicate q]; decide
  have := bev_lt _ hdig
  rw [show (cutA L off n).length = n by simp [cutA]] at this
  exact ⟨this, hdig⟩
section
variable {w : World}
theorem onel3 : OneT 3 := oneT_of (by kernel_rfl) (by kernel_rfl)
set_option maxRecDepth 100000 in
set_option maxHeartbeats 6400000 in
theorem mLengths {O : Nat → Prop} {v : Value} {L : List Nat} (hv : NL O w v L) : Calls Hvah.prog 259 #[v] w fun e w' => e = .returned (lensI L) ∧ Ext w w' := by
  have HP0 : ∀ (k : Nat), k < 3 → ∀ W, Ext w W → ∀ B c, Blk W B 32 32 c → (∀ i, i < 32 → c i = .int .u8 0) → Calls Hvah.prog 260 #[.slice (some ⟨B, 0, none⟩) 32 32, v, .int .i64 (32 * (k : Int)), .int .i64 32] W fun e w' => e = .returned (.tuple #[]) ∧ ∃ c', Blk w' B 32 32 c' ∧ rowOf c' 0 32 = (bcells (cutA L (32 * k) 32)).toArray ∧ Mod (· = B) W w' := fun k hk W hW B c hB hz => by
    rw [show (32 : Int) * k = ((32 * k : Nat) : Int) by omega]
    exact mPart (hv.ext hW) hB hz (by decide) (32 * k) 32 (by omega) (by decide)
  have hpl := natPart_lt hv
  go_enter Hvah.func259, Hvah.ntmps259
  go_wp2_with (first | ((with_reducible (refine Veil.out ?_; apply wl_allocB (n := 3) z404)); (case hn => rfl); rintro B6 W6 e6 b6 g6))
  have hE0 : Ext w W6 := by (repeat (first | with_reducible exact Ext.refl _ | with_reducible assumption | refine Ext.trans ?_ (by with_reducible assumption) | refine Ext.alloc ?_ _ _ | refine Ext.drew ?_ | refine Ext.drewN ?_ _))
  clear hv
  go_loopw [11] (fun iv wr => ∃ (i : Nat) (c : Nat → Value), iv = .int .i64 (i : Nat) ∧ i ≤ 3 ∧ Blk wr B6 3 412 c ∧ (∀ k, k < i → natPart L (32 * k) 32 ≤ 64 ∧ c k = .int .i64 (natPart L (32 * k) 32 : Nat)) ∧ Ext w wr) (fun iv _ => 3 - (intOf iv).toNat)
  case atStart => exact ⟨0, _, rfl, by omega, b6, fun k hk => absurd hk (Nat.not_lt_zero _), hE0⟩
  case round =>
    obtain ⟨i, c, rfl, hi3, hb, hc, hE⟩ := hrel
    rcases Nat.lt_or_ge i 3 with hlt | hge
    · have hii : (i : Int) < 3 := by omega
      obtain ⟨hx, hdig⟩ := hpl (32 * i) 32
      have HP := fun W (hW : Ext wr W) B c hB => HP0 i hlt W (hE.trans hW) B c hB
      have HF := fun W => uFromBytes (cutA L (32 * i) 32) W (by simp [cutA]) hdig
      have hxP : natPart L (32 * i) 32 < P256 := by rw [show P256 = 256 ^ 32 from by decide]; exact hx
      have HU := fun W => uU64 (natPart L (32 * i) 32) W hxP
      have hst : ∀ k, k < 3 → (64 < natPart L (32 * i) 32 → natLens L = none) := fun k hk q => lens_no hlt q
      change ∀ W, Calls Hvah.prog 92 _ W fun e w' => e = .returned (wv (natPart L (32 * i) 32)) ∧ Ext W w' at HF
      have hno := lens_no (L := L) hlt
      clear hx hxP hst HP0
      obtain ⟨T, hT⟩ : ∃ T, Hid (cutA L (32 * i) 32 = T) := ⟨_, rfl⟩
      obtain ⟨x, hxx⟩ : ∃ x, Hid (natPart L (32 * i) 32 = x) := ⟨_, rfl⟩
      rw [hT.out] at HF HP
      rw [hxx.out] at HF HU hno
      have hwi : IntKind.i64.wrap ((32 : Int) * i) = 32 * i := by rw [IntKind.wrap_i64]; omega
      rcases Nat.lt_or_ge 64 x with h64 | h64
      · have hL : lensI L = .tuple #[.int .i64 0, .int .i64 0, .int .i64 0, .bool false] := by unfold lensI; rw [hno h64]
        clear hno
        by_cases hf : x < 18446744073709551616
        · obtain ⟨f1, f2⟩ := fit64_yes hf
          rw [f1, f2] at HU
          have hgt : (64 : Int) < x := by omega
          clear f1 f2
          go_wp2_with (first | ((with_reducible (refine Veil.out ?_; apply wl_allocB (n := 32) z27)); (case hn => rfl); rintro B5 W5 e5 b5 g5) | (go_at_call 260; refine (HP _ (by (repeat (first | with_reducible exact Ext.refl _ | with_reducible assumption | refine Ext.trans ?_ (by with_reducible assumption) | refine Ext.alloc ?_ _ _ | refine Ext.drew ?_ | refine Ext.drewN ?_ _))) _ _ b5 (fun i hi => z27_at hi)).mono ?_; rintro e W7 ⟨rfl, c7, b7, r7, m7⟩; have hE7 : Ext wr W7 := Ext.trans_mod (show Ext wr _ by (repeat (first | with_reducible exact Ext.refl _ | with_reducible assumption | refine Ext.trans ?_ (by with_reducible assumption) | refine Ext.alloc ?_ _ _ | refine Ext.drew ?_ | refine Ext.drewN ?_ _))) m7 (fun x hx => by have hx2 : x = B5 := hx; rw [hx2]; exact Nat.le_trans (Ext.size (show Ext wr _ by (repeat (first | with_reducible exact Ext.refl _ | with_reducible assumption | refine Ext.trans ?_ (by with_reducible assumption) | refine Ext.alloc ?_ _ _ | refine Ext.drew ?_ | refine Ext.drewN ?_ _)))) g5); clear m7 b5 e5) | ((with_reducible (refine Veil.out ?_; apply wl_loadRow rt27)); (case hx => rfl); (case hB => exact b7.ext (by (repeat (first | with_reducible exact Ext.refl _ | with_reducible assumption | refine Ext.trans ?_ (by with_reducible assumption) | refine Ext.alloc ?_ _ _ | refine Ext.drew ?_ | refine Ext.drewN ?_ _)))); (case hi => decide); rw [r7]) | (go_at_call 92; refine (HF _).mono ?_; rintro e w1 ⟨rfl, he⟩) | (go_at_call 309; refine (HU _).mono ?_; rintro e w1 ⟨rfl, he⟩))
          refine bodyPost_ret (v := .tuple #[.int .i64 0, .int .i64 0, .int .i64 0, .bool false]) (by simp [results, Hvah.results259, go_sem]; try rfl) rfl ?_
          exact ⟨by rw [hL], hE.trans (by (repeat (first | with_reducible exact Ext.refl _ | with_reducible assumption | refine Ext.trans ?_ (by with_reducible assumption) | refine Ext.alloc ?_ _ _ | refine Ext.drew ?_ | refine Ext.drewN ?_ _)))⟩
        · obtain ⟨f1, f2⟩ := fit64_no hf
          rw [f1, f2] at HU
          clear f1 f2
          go_wp2_with (first | ((with_reducible (refine Veil.out ?_; apply wl_allocB (n := 32) z27)); (case hn => rfl); rintro B5 W5 e5 b5 g5) | (go_at_call 260; refine (HP _ (by (repeat (first | with_reducible exact Ext.refl _ | with_reducible assumption | refine Ext.trans ?_ (by with_reducible assumption) | refine Ext.alloc ?_ _ _ | refine Ext.drew ?_ | refine Ext.drewN ?_ _))) _ _ b5 (fun i hi => z27_at hi)).mono ?_; rintro e W7 ⟨rfl, c7, b7, r7, m7⟩; have hE7 : Ext wr W7 := Ext.trans_mod (show Ext wr _ by (repeat (first | with_reducible exact Ext.refl _ | with_reducible assumption | refine Ext.trans ?_ (by with_reducible assumption) | refine Ext.alloc ?_ _ _ | refine Ext.drew ?_ | refine Ext.drewN ?_ _))) m7 (fun x hx => by have hx2 : x = B5 := hx; rw [hx2]; exact Nat.le_trans (Ext.size (show Ext wr _ by (repeat (first | with_reducible exact Ext.refl _ | with_reducible assumption | refine Ext.trans ?_ (by with_reducible assumption) | refine Ext.alloc ?_ _ _ | refine Ext.drew ?_ | refine Ext.drewN ?_ _)))) g5); clear m7 b5 e5) | ((with_reducible (refine Veil.out ?_; apply wl_loadRow rt27)); (case hx => rfl); (case hB => exact b7.ext (by (repeat (first | with_reducible exact Ext.refl _ | with_reducible assumption | refine Ext.trans ?_ (by with_reducible assumption) | refine Ext.alloc ?_ _ _ | refine Ext.drew ?_ | refine Ext.drewN ?_ _)))); (case hi => decide); rw [r7]) | (go_at_call 92; refine (HF _).mono ?_; rintro e w1 ⟨rfl, he⟩) | (go_at_call 309; refine (HU _).mono ?_; rintro e w1 ⟨rfl, he⟩))
          refine bodyPost_ret (v := .tuple #[.int .i64 0, .int .i64 0, .int .i64 0, .bool false]) (by simp [results, Hvah.results259, go_sem]; try rfl) rfl ?_
          exact ⟨by rw [hL], hE.trans (by (repeat (first | with_reducible exact Ext.refl _ | with_reducible assumption | refine Ext.trans ?_ (by with_reducible assumption) | refine Ext.alloc ?_ _ _ | refine Ext.drew ?_ | refine Ext.drewN ?_ _)))⟩
      · clear hno
        have hgt : ¬ (64 : Int) < x := by omega
        obtain ⟨f1, f2⟩ := fit64_yes (show x < 18446744073709551616 by omega)
        rw [f1, f2] at HU
        clear f1 f2
        have hwx : IntKind.i64.wrap (x : Int) = x := by rw [IntKind.wrap_i64]; omega
        go_wp2_with (first | ((with_reducible (refine Veil.out ?_; apply wl_allocB (n := 32) z27)); (case hn => rfl); rintro B5 W5 e5 b5 g5) | (go_at_call 260; refine (HP _ (by (repeat (first | with_reducible exact Ext.refl _ | with_reducible assumption | refine Ext.trans ?_ (by with_reducible assumption) | refine Ext.alloc ?_ _ _ | refine Ext.drew ?_ | refine Ext.drewN ?_ _))) _ _ b5 (fun i hi => z27_at hi)).mono ?_; rintro e W7 ⟨rfl, c7, b7, r7, m7⟩; have hE7 : Ext wr W7 := Ext.trans_mod (show Ext wr _ by (repeat (first | with_reducible exact Ext.refl _ | with_reducible assumption | refine Ext.trans ?_ (by with_reducible assumption) | refine Ext.alloc ?_ _ _ | refine Ext.drew ?_ | refine Ext.drewN ?_ _))) m7 (fun x hx => by have hx2 : x = B5 := hx; rw [hx2]; exact Nat.le_trans (Ext.size (show Ext wr _ by (repeat (first | with_reducible exact Ext.refl _ | with_reducible assumption | refine Ext.trans ?_ (by with_reducible assumption) | refine Ext.alloc ?_ _ _ | refine Ext.drew ?_ | refine Ext.drewN ?_ _)))) g5); clear m7 b5 e5) | ((with_reducible (refine Veil.out ?_; apply wl_loadRow rt27)); (case hx => rfl); (case hB => exact b7.ext (by (repeat (first | with_reducible exact Ext.refl _ | with_reducible assumption | refine Ext.trans ?_ (by with_reducible assumption) | refine Ext.alloc ?_ _ _ | refine Ext.drew ?_ | refine Ext.drewN ?_ _)))); (case hi => decide); rw [r7]) | (go_at_call 92; refine (HF _).mono ?_; rintro e w1 ⟨rfl, he⟩) | (go_at_call 309; refine (HU _).mono ?_; rintro e w1 ⟨rfl, he⟩) | ((with_reducible (refine Veil.out ?_; apply wl_storeC onel3)); (case hx => rfl); (case hy => rfl); (case h1 => rfl); (case hB => exact hb.ext (by (repeat (first | with_reducible exact Ext.refl _ | with_reducible assumption | refine Ext.trans ?_ (by with_reducible assumption) | refine Ext.alloc ?_ _ _ | refine Ext.drew ?_ | refine Ext.drewN ?_ _)))); (case hi => omega); rintro W8 b8 m8))
        go_roundw
        case rel =>
          refine ⟨i + 1, _, int_eq (by omega), by omega, b8, fun k hk => ?_, ?_⟩
          · by_cases hki : k = i
            · subst hki; rw [updv_same, hxx.out]; exact ⟨h64, rfl⟩
            · rw [updv_ne _ _ hki]; exact hc k (by omega)
          · exact Ext.trans_mod (hE.trans (by (repeat (first | with_reducible exact Ext.refl _ | with_reducible assumption | refine Ext.trans ?_ (by with_reducible assumption) | refine Ext.alloc ?_ _ _ | refine Ext.drew ?_ | refine Ext.drewN ?_ _)))) m8 (fun z hz => by have hz2 : z = B6 := hz; rw [hz2]; exact g6)
        case measure => simp [intOf]; omega
    · obtain rfl : i = 3 := by omega
      have hL : lensI L = .tuple #[.int .i64 (natPart L 0 32 : Nat), .int .i64 (natPart L 32 32 : Nat), .int .i64 (natPart L 64 32 : Nat), .bool true] := by unfold lensI; rw [lens_yes (fun k hk => (hc k hk).1)]
      have c0 := (hc 0 (by decide)).2
      have c1 := (hc 1 (by decide)).2
      have c2 := (hc 2 (by decide)).2
      go_upto_region 12 with (fail)
      refine w_ext ?_
      rintro W0 hW0
      refine wp_region_held_drew (S := fun w' => Ext W0 w') (by kernel_rfl) (Ext.refl _).drew (fun hHeld => ?_)
      have HH : Hid (Ext W0 _) := hHeld
      clear hHeld
      refine wpAnyH_take (i := 0) (v := ?_) rfl (by kernel_rfl) (by kernel_rfl) (by kernel_rfl) (fun _ _ _ h => h) (Or.inl ⟨by rfl, ?_⟩) HH.out ?_
      rotate_left
      · intro w hSw; go_simp; try with_reducible rfl
      change wpAnyH _ _ _ _ _ _ _ (Act.put _ (some 36) _) _
      simp only [Act.put, List.setIfInBounds_toArray, List.set_cons_zero, List.set_cons_succ]
      refine wpAnyH_take (i := 1) rfl (by kernel_rfl) (by kernel_rfl) (by kernel_rfl) (fun _ _ _ h => h) (yieldsIf_load1 (by rfl) _ _ rfl _ _ rfl onel3 _ (fun w hSw => ((hb.ext (show Ext wr W0 from by (repeat (first | with_reducible exact Ext.refl _ | with_reducible assumption | refine Ext.trans ?_ (by with_reducible assumption) | refine Ext.alloc ?_ _ _ | refine Ext.drew ?_ | refine Ext.drewN ?_ _)))).ext hSw).cell (i := 0) (by decide) |>.trans (congrArg some c0))) HH.out ?_
      change wpAnyH _ _ _ _ _ _ _ (Act.put _ (some 37) _) _
      simp only [Act.put, List.setIfInBounds_toArray, List.set_cons_zero, List.set_cons_succ]
      refine wpAnyH_take (i := 2) (v := ?_) rfl (by kernel_rfl) (by kernel_rfl) (by kernel_rfl) (fun _ _ _ h => h) (Or.inl ⟨by rfl, ?_⟩) HH.out ?_
      rotate_left
      · intro w hSw; go_simp; try with_reducible rfl
      change wpAnyH _ _ _ _ _ _ _ (Act.put _ (some 38) _) _
      simp only [Act.put, List.setIfInBounds_toArray, List.set_cons_zero, List.set_cons_succ]
      refine wpAnyH_take (i := 3) rfl (by kernel_rfl) (by kernel_rfl) (by kernel_rfl) (fun _ _ _ h => h) (yieldsIf_load1 (by rfl) _ _ rfl _ _ rfl onel3 _ (fun w hSw => ((hb.ext (show Ext wr W0 from by (repeat (first | with_reducible exact Ext.refl _ | with_reducible assumption | refine Ext.trans ?_ (by with_reducible assumption) | refine Ext.alloc ?_ _ _ | refine Ext.drew ?_ | refine Ext.drewN ?_ _)))).ext hSw).cell (i := 1) (by decide) |>.trans (congrArg some c1))) HH.out ?_
      change wpAnyH _ _ _ _ _ _ _ (Act.put _ (some 39) _) _
      simp only [Act.put, List.setIfInBounds_toArray, List.set_cons_zero, List.set_cons_succ]
      refine wpAnyH_take (i := 4) (v := ?_) rfl (by kernel_rfl) (by kernel_rfl) (by kernel_rfl) (fun _ _ _ h => h) (Or.inl ⟨by rfl, ?_⟩) HH.out ?_
      rotate_left
      · intro w hSw; go_simp; try with_reducible rfl
      change wpAnyH _ _ _ _ _ _ _ (Act.put _ (some 40) _) _
      simp only [Act.put, List.setIfInBounds_toArray, List.set_cons_zero, List.set_cons_succ]
      refine wpAnyH_take (i := 5) rfl (by kernel_rfl) (by kernel_rfl) (by kernel_rfl) (fun _ _ _ h => h) (yieldsIf_load1 (by rfl) _ _ rfl _ _ rfl onel3 _ (fun w hSw => ((hb.ext (show Ext wr W0 from by (repeat (first | with_reducible exact Ext.refl _ | with_reducible assumption | refine Ext.trans ?_ (by with_reducible assumption) | refine Ext.alloc ?_ _ _ | refine Ext.drew ?_ | refine Ext.drewN ?_ _)))).ext hSw).cell (i := 2) (by decide) |>.trans (congrArg some c2))) HH.out ?_
      change wpAnyH _ _ _ _ _ _ _ (Act.put _ (some 41) _) _
      simp only [Act.put, List.setIfInBounds_toArray, List.set_cons_zero, List.set_cons_succ]
      refine wpAnyH_take (i := 6) (v := ?_) rfl (by kernel_rfl) (by kernel_rfl) (by kernel_rfl) (fun _ _ _ h => h) (Or.inl ⟨by rfl, ?_⟩) HH.out ?_
      rotate_left
      · intro w hSw; go_simp; try with_reducible rfl
      change wpAnyH _ _ _ _ _ _ _ (Act.put _ (some 2) _) _
      simp only [Act.put, List.setIfInBounds_toArray, List.set_cons_zero, List.set_cons_succ]
      refine wpAnyH_take (i := 7) (v := ?_) rfl (by kernel_rfl) (by kernel_rfl) (by kernel_rfl) (fun _ _ _ h => h) (Or.inl ⟨by rfl, ?_⟩) HH.out ?_
      rotate_left
      · intro w hSw; go_simp; try with_reducible rfl
      change wpAnyH _ _ _ _ _ _ _ (Act.put _ (some 3) _) _
      simp only [Act.put, List.setIfInBounds_toArray, List.set_cons_zero, List.set_cons_succ]
      refine wpAnyH_take (i := 8) (v := ?_) rfl (by kernel_rfl) (by kernel_rfl) (by kernel_rfl) (fun _ _ _ h => h) (Or.inl ⟨by rfl, ?_⟩) HH.out ?_
      rotate_left
      · intro w hSw; go_simp; try with_reducible rfl
      change wpAnyH _ _ _ _ _ _ _ (Act.put _ (some 4) _) _
      simp only [Act.put, List.setIfInBounds_toArray, List.set_cons_zero, List.set_cons_succ]
      refine wpAnyH_take (i := 9) (v := ?_) rfl (by kernel_rfl) (by kernel_rfl) (by kernel_rfl) (fun _ _ _ h => h) (Or.inl ⟨by rfl, ?_⟩) HH.out ?_
      rotate_left
      · intro w hSw; go_simp; try with_reducible rfl
      change wpAnyH _ _ _ _ _ _ _ (Act.put _ (some 5) _) _
      simp only [Act.put, List.setIfInBounds_toArray, List.set_cons_zero, List.set_cons_succ]
      refine wpAnyH_done (by kernel_rfl) ?_ _
      go_wp2
      refine bodyPost_ret (v := .tuple #[.int .i64 (natPart L 0 32 : Nat), .int .i64 (natPart L 32 32 : Nat), .int .i64 (natPart L 64 32 : Nat), .bool true]) (by simp [results, Hvah.results259, go_sem]; try rfl) rfl ?_
      exact ⟨by rw [hL], hE.trans (by (repeat (first | with_reducible exact Ext.refl _ | with_reducible assumption | refine Ext.trans ?_ (by with_reducible assumption) | refine Ext.alloc ?_ _ _ | refine Ext.drew ?_ | refine Ext.drewN ?_ _)))⟩
end
end Go.Proofs.YgvahwGreat
