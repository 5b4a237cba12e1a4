import Derived.Test.YgvahwGreatIa
namespace Go.Proofs.YgvahwGreat
open Go.RowKit
set_option linter.unusedSimpArgs false
theorem one29i : OneT 34 := oneT_of (by kernel_rfl) (by kernel_rfl)
theorem one32i : OneT 23 := oneT_of (by kernel_rfl) (by kernel_rfl)
theorem one33i : OneT 38 := oneT_of (by kernel_rfl) (by kernel_rfl)
theorem one4i : OneT 4 := oneT_of (by kernel_rfl) (by kernel_rfl)
theorem one26i : OneT 24 := oneT_of (by kernel_rfl) (by kernel_rfl)
theorem one5i : OneT 5 := oneT_of (by kernel_rfl) (by kernel_rfl)
theorem rt144 : RowT 153 21 := rowT_of (by kernel_rfl) (by kernel_rfl)
theorem bwS {x : Nat} (hx : x < P256) : (bw x).size = 32 := by unfold bw; simp [bcells_length, len32 hx]
theorem bwO (x : Nat) : Ones (bw x) := fun v hv => by
  unfold bw at hv
  simp only [bcells, List.toList_toArray, List.mem_map] at hv
  obtain ⟨d, _, rfl⟩ := hv
  rfl
theorem rowOf_bw {c : Nat → Value} {o x : Nat} (h : BAt c o x) (hx : x < P256) : rowOf c o 32 = bw x := by
  apply Array.ext_getElem?
  intro i
  rw [rowOf_get]
  by_cases hi : i < 32
  · have := get_cf (r := bw x) (i := i) (by rw [bwS hx]; exact hi)
    rw [if_pos hi, this, h i _ this]
  · rw [if_neg hi, Array.getElem?_eq_none (by rw [bwS hx]; omega)]
theorem bat_cf {x : Nat} : BAt (cf (bw x)) 0 x := fun i v hv => by rw [Nat.zero_add]; exact cf_get hv
theorem BAt.lay_in {c : Nat → Value} {o x : Nat} : BAt (layv c o (bw x)) o x := fun i v hv => by
  rw [layv_in _ _ _ (Array.getElem?_eq_some_iff.1 hv).1]; exact cf_get hv
theorem BAt.rowOf {c : Nat → Value} {o x p n : Nat} (h : BAt c (p + o) x) (hx : x < P256) (hn : o + 32 ≤ n) : BAt (cf (rowOf c p n)) o x := fun i v hv => by
  have hi := (Array.getElem?_eq_some_iff.1 hv).1
  rw [bwS hx] at hi
  rw [cf_rowOf c p n (by omega), ← Nat.add_assoc]; exact h i v hv
section
variable {ops : Array Oper} {a : Act} {S : World → Prop} {o : Oper} {x y : Operand} {w : World} {K : Act → World → Prop} {Q : Exit → Act → World → Prop} {rest : List Oper} {dst : Option Tmp} {ty : TypeId} {pos : String} {aft : Array Edge}
theorem yieldsR {t tt : TypeId} {b i n m : Nat} {c : Nat → Value} (rt : RowT t m) (hw : Region.wanted o (yielded ops a.tmps) = true) (hop : o.op = .load t x) (hx : a.eval x = .pointer (some ⟨b, i, none⟩)) (hB : ∀ w, S w → Blk w b n tt c) (hi : i + m ≤ n) : YieldsIf Hvah.prog ops S o (.agg (rowOf c i m)) a := by
  obtain ⟨d, h1, h2⟩ := rt.desc
  have := yieldsIf_load_mid (S := S) hw t x hop b i hx (rowOf c i m).toList d (fun w h => (hB w h).rng hi) h1 h2 (by rw [rt.size]; simp [rowOf_size])
  simpa using this
theorem yields_B {tt : TypeId} {b i n v : Nat} {c : Nat → Value} (hw : Region.wanted o (yielded ops a.tmps) = true) (hop : o.op = .load 33 x) (hx : a.eval x = .pointer (some ⟨b, i, none⟩)) (hB : ∀ w, S w → Blk w b n tt c) (hA : BAt c i v) (hv : v < P256) (hi : i + 32 ≤ n) : YieldsIf Hvah.prog ops S o (.agg (bw v)) a := by
  rw [← rowOf_bw hA hv]; exact yieldsR rt28 hw hop hx hB hi
theorem yields_Re {t : TypeId} {b i m : Nat} {r : Array Value} (rt : RowT t m) (hw : Region.wanted o (yielded ops a.tmps) = true) (hop : o.op = .load t x) (hx : a.eval x = .pointer (some ⟨b, i, none⟩)) (hB : ∀ w, S w → RowIn w b i r) (hr : r.size = m) : YieldsIf Hvah.prog ops S o (.agg r) a := by
  obtain ⟨d, h1, h2⟩ := rt.desc
  have := yieldsIf_load_mid (S := S) hw t x hop b i hx r.toList d (fun w h j v hv => hB w h j v (by simpa using hv)) h1 h2 (by rw [rt.size]; simp [hr])
  simpa using this
end
section
variable {ops : Array Oper} {a : Act} {ob : Oper} {w : World} {K : Act → World → Prop} {Q : Exit → Act → World → Prop} {rest : List Oper} {dst : Option Tmp} {ty : TypeId} {pos : String} {aft : Array Edge}
theorem op_storeBB {x y : Operand} {tt : TypeId} {b i n v : Nat} {c : Nat → Value} (hop : ob.op = .store 33 x y) (hx : a.eval x = .pointer (some ⟨b, i, none⟩)) (hy : a.eval y = .agg (bw v)) (hv : v < P256) (hB : Blk w b n tt c) (hi : i + 32 ≤ n) (h : ∀ W c', Blk W b n tt c' → BAt c' i v → (∀ j, j < i ∨ i + 32 ≤ j → c' j = c j) → Mod (· = b) w W → K (a.put ob.dst undef) W) : Oper.wp Hvah.prog ob a w K Q :=
  op_storeRow (r := bw v) hop rt28 hx hy (bwS hv) (bwO v) hB hi (fun W h1 h2 => h W _ h1 BAt.lay_in (fun j hj => layv_out _ _ _ (by rw [bwS hv]; exact hj)) h2)
theorem z28i : zeroOf Hvah.prog 33 = some (bw 0) := by
  have h : zeroOf Hvah.prog 33 = some #[.int .u8 0, .int .u8 0, .int .u8 0, .int .u8 0, .int .u8 0, .int .u8 0, .int .u8 0, .int .u8 0, .int .u8 0, .int .u8 0, .int .u8 0, .int .u8 0, .int .u8 0, .int .u8 0, .int .u8 0, .int .u8 0, .int .u8 0, .int .u8 0, .int .u8 0, .int .u8 0, .int .u8 0, .int .u8 0, .int .u8 0, .int .u8 0, .int .u8 0, .int .u8 0, .int .u8 0, .int .u8 0, .int .u8 0, .int .u8 0, .int .u8 0, .int .u8 0] := by kernel_rfl
  rw [h]; rfl
theorem op_allocBB (hop : ob.op = .alloc 33) (h : ∀ B W c, Ext w W → Blk W B 32 33 c → BAt c 0 0 → w.heap.size ≤ B → K (a.put ob.dst (.pointer (some ⟨B, 0, none⟩))) W) : Oper.wp Hvah.prog ob a w K Q :=
  op_alloc hop z28i (bwS (by decide)) (fun B W h1 h2 h3 => h B W _ h1 h2 bat_cf h3)
end
section
variable {ops : Array Oper} {a : Act} {w : World} {Q : Exit → Act → World → Prop} {rest : List Oper} {dst : Option Tmp} {ty : TypeId} {pos : String} {aft : Array Edge}
set_option maxRecDepth 100000 in
theorem wl_allocBB (h : ∀ B W c, Ext w W → Blk W B 32 33 c → BAt c 0 0 → w.heap.size ≤ B → wpList Hvah.prog ops Q rest (a.put dst (.pointer (some ⟨B, 0, none⟩))) W) : Veil (wpList Hvah.prog ops Q (⟨dst, .alloc 33, ty, pos, aft, none⟩ :: rest) a w) :=
  Veil.mk (wl_any rfl (op_allocBB rfl h))
theorem wl_storeBB {x y : Operand} {tt : TypeId} {b i n v : Nat} {c : Nat → Value} (hx : a.eval x = .pointer (some ⟨b, i, none⟩)) (hy : a.eval y = .agg (bw v)) (hv : v < P256) (hB : Blk w b n tt c) (hi : i + 32 ≤ n) (h : ∀ W c', Blk W b n tt c' → BAt c' i v → (∀ j, j < i ∨ i + 32 ≤ j → c' j = c j) → Mod (· = b) w W → wpList Hvah.prog ops Q rest (a.put dst undef) W) : Veil (wpList Hvah.prog ops Q (⟨dst, .store 33 x y, ty, pos, aft, none⟩ :: rest) a w) :=
  Veil.mk (wl_any rfl (op_storeBB rfl hx hy hv hB hi h))
end
theorem post_BB {fn : Func} {R : Ending → World → Prop} {ac : Act} {w : World} {t u : Tmp} {ty1 ty2 : TypeId} {n1 n2 b b2 : Nat} (rt : RowT ty1 n1) (rt' : RowT ty2 n2) (r r2 : Array Value) (hn : r.size = n1) (hn2 : r2.size = n2) (hf : fn.results = #[.cell t ty1, .cell u ty2]) (ht : ac.tmps.getD t undef = .pointer (some ⟨b, 0, none⟩)) (hu : ac.tmps.getD u undef = .pointer (some ⟨b2, 0, none⟩)) (hr : RowIn w b 0 r) (hr2 : RowIn w b2 0 r2) (hdf : ac.defers = [])
    (h : R (.returned (.tuple #[.agg r, .agg r2])) w) : bodyPost Hvah.prog fn R .ret ac w := by
  refine bodyPost_ret (v := .tuple #[.agg r, .agg r2]) ?_ hdf h
  obtain ⟨d, h1, h2⟩ := rt.desc
  obtain ⟨d', h1', h2'⟩ := rt'.desc
  have r1 := run_loadVar_mid (P := Hvah.prog) w b 0 ty1 r.toList d (fun j v hv => hr j v (by simpa using hv)) h1 h2 (by rw [rt.size]; simp [hn])
  have r1' := run_loadVar_mid (P := Hvah.prog) w b2 0 ty2 r2.toList d' (fun j v hv => hr2 j v (by simpa using hv)) h1' h2' (by rw [rt'.size]; simp [hn2])
  rw [Array.getD_eq_getD_getElem?] at ht hu
  simp [results, hf, ht, hu, asAddr, r1, r1', Result.andThen]

section
variable {O : Nat → Prop} {w : World} {r : Array Value} {e : AEnv} {t : ATx} {B : Nat} {c : Nat → Value}
theorem WL.slice {O : Nat → Prop} {w : World} {v : Value} {l : List Nat} (h : WL O w v l) : ∃ o cap, v = .slice o l.length cap ∧ l.length ≤ cap ∧ cap ≤ 9223372036854775807 := by
  rcases h with ⟨rfl, rfl⟩ | ⟨b, off, cap, h1, h2, h3, _⟩
  · exact ⟨none, 0, rfl, Nat.le_refl _, by decide⟩
  · exact ⟨_, cap, h1, h2, h3⟩
theorem EL.slice {α : Type} {sz : Nat} {R : (Nat → Value) → Nat → α → Prop} {O : Nat → Prop} {w : World} {v : Value} {l : List α} (h : EL sz R O w v l) : ∃ o cap, v = .slice o l.length cap ∧ l.length ≤ cap ∧ cap ≤ 9223372036854775807 := by
  rcases h with ⟨rfl, p, rfl⟩ | ⟨b, off, cap, c, h1, h2, h3, _⟩
  · exact ⟨p, 0, rfl, Nat.le_refl _, by decide⟩
  · exact ⟨_, cap, h1, h2, h3⟩
set_option maxRecDepth 100000 in
set_option maxHeartbeats 6400000 in
theorem oEnvOK (h : EnvI O w (cf r) e) (hr : r.size = 120) : Calls Hvah.prog 37 #[.agg r] w fun x w' => x = .returned (.bool (decide (e.hashes.length ≤ 4))) ∧ Ext w w' := by
  obtain ⟨o, cap, hv, hc1, hc2⟩ := h.hashes.slice
  generalize e.hashes.length = n at *
  clear h
  go_enter Hvah.func37, Hvah.ntmps37
  go_wp2_with (first
    | ((with_reducible (refine Veil.out ?_; apply wl_boxB)); (case hx => rfl); (case hn => exact hr); rintro B W1 e1 b1 g1)
    | ((with_reducible (refine Veil.out ?_; apply wl_loadB one29i)); (case hx => rfl); (case hB => exact b1); (case hi => decide); rw [hv]))
  go_ret
  exact ⟨by simp; omega, by assumption⟩
set_option maxRecDepth 100000 in
set_option maxHeartbeats 6400000 in
theorem oFees (hB : Blk w B 174 40 c) (h : TxC O w c t) : Calls Hvah.prog 129 #[.pointer (some ⟨B, 0, none⟩)] w fun x w' => x = .returned (.tuple #[.agg (bw t.most), .agg (bw t.tipF)]) ∧ Ext w w' := by
  have hdy := h.dynamic
  cases hd : t.dynamic
  · rw [hd] at hdy
    go_enter Hvah.func129, Hvah.ntmps129
    go_upto_region 3 with (first
      | ((with_reducible (refine Veil.out ?_; apply wl_allocBB)); rintro B2 W2 c2 e2 b2 _ g2; (with_reducible (refine Veil.out ?_; apply wl_allocBB)); rintro B3 W3 c3 e3 b3 _ g3)
      | ((with_reducible (refine Veil.out ?_; apply wl_loadB one4i)); (case hx => rfl); (case hB => exact hB.ext (e2.trans e3)); (case hi => decide); rw [hdy]))
    have hne : ¬ B2 = B3 := fun q => by have := b2.lt; omega
    refine w_ext ?_
    rintro W0 hW0
    refine wp_region_held_drew (S := fun w' => Ext w w') (by kernel_rfl) ((e2.trans e3).trans hW0).drew (fun hHeld => ?_)
    have HH : Hid (Ext w _) := hHeld
    clear hHeld
    refine wpAnyH_take (i := 0) (v := ?_) rfl (by kernel_rfl) (by kernel_rfl) (by kernel_rfl) (fun _ _ _ h => h) (Or.inl ⟨by rfl, ?_⟩) HH.out ?_
    rotate_left
    · intro w hSw; go_simp; try with_reducible rfl
    change wpAnyH _ _ _ _ _ _ _ (Act.put _ (some 16) _) _
    simp only [Act.put, List.setIfInBounds_toArray, List.set_cons_zero, List.set_cons_succ]
    refine wpAnyH_take (i := 1) (v := ?_) rfl (by kernel_rfl) (by kernel_rfl) (by kernel_rfl) (fun _ _ _ h => h) (Or.inl ⟨by rfl, ?_⟩) HH.out ?_
    rotate_left
    · intro w hSw; go_simp; try with_reducible rfl
    change wpAnyH _ _ _ _ _ _ _ (Act.put _ (some 17) _) _
    simp only [Act.put, List.setIfInBounds_toArray, List.set_cons_zero, List.set_cons_succ]
    refine wpAnyH_take (i := 2) (v := ?_) rfl (by kernel_rfl) (by kernel_rfl) (by kernel_rfl) (fun _ _ _ h => h) (Or.inl ⟨by rfl, ?_⟩) HH.out ?_
    rotate_left
    · intro w hSw; go_simp; try with_reducible rfl
    change wpAnyH _ _ _ _ _ _ _ (Act.put _ (some 18) _) _
    simp only [Act.put, List.setIfInBounds_toArray, List.set_cons_zero, List.set_cons_succ]
    refine wpAnyH_take (i := 3) rfl (by kernel_rfl) (by kernel_rfl) (by kernel_rfl) (fun _ _ _ h => h) (yields_B (by rfl) rfl rfl (fun w hSw => hB.ext hSw) h.price h.pLt (by decide)) HH.out ?_
    change wpAnyH _ _ _ _ _ _ _ (Act.put _ (some 19) _) _
    simp only [Act.put, List.setIfInBounds_toArray, List.set_cons_zero, List.set_cons_succ]
    refine wpAnyH_take (i := 4) (v := ?_) rfl (by kernel_rfl) (by kernel_rfl) (by kernel_rfl) (fun _ _ _ h => h) (Or.inl ⟨by rfl, ?_⟩) HH.out ?_
    rotate_left
    · intro w hSw; go_simp; try with_reducible rfl
    change wpAnyH _ _ _ _ _ _ _ (Act.put _ (some 20) _) _
    simp only [Act.put, List.setIfInBounds_toArray, List.set_cons_zero, List.set_cons_succ]
    refine wpAnyH_take (i := 5) (v := ?_) rfl (by kernel_rfl) (by kernel_rfl) (by kernel_rfl) (fun _ _ _ h => h) (Or.inl ⟨by rfl, ?_⟩) HH.out ?_
    rotate_left
    · intro w hSw; go_simp; try with_reducible rfl
    change wpAnyH _ _ _ _ _ _ _ (Act.put _ (some 21) _) _
    simp only [Act.put, List.setIfInBounds_toArray, List.set_cons_zero, List.set_cons_succ]
    refine wpAnyH_take (i := 6) (v := ?_) rfl (by kernel_rfl) (by kernel_rfl) (by kernel_rfl) (fun _ _ _ h => h) (Or.inl ⟨by rfl, ?_⟩) HH.out ?_
    rotate_left
    · intro w hSw; go_simp; try with_reducible rfl
    change wpAnyH _ _ _ _ _ _ _ (Act.put _ (some 22) _) _
    simp only [Act.put, List.setIfInBounds_toArray, List.set_cons_zero, List.set_cons_succ]
    refine wpAnyH_take (i := 7) rfl (by kernel_rfl) (by kernel_rfl) (by kernel_rfl) (fun _ _ _ h => h) (yields_B (by rfl) rfl rfl (fun w hSw => hB.ext hSw) h.price h.pLt (by decide)) HH.out ?_
    change wpAnyH _ _ _ _ _ _ _ (Act.put _ (some 23) _) _
    simp only [Act.put, List.setIfInBounds_toArray, List.set_cons_zero, List.set_cons_succ]
    refine wpAnyH_ready (rs := [8]) (by kernel_rfl) (by simp) ?_
    refine AllReadyH.cons rfl (fun K hK => ?_) AllReadyH.nil
    refine step_any rfl (op_storeBB rfl rfl rfl h.pLt (b2.ext (by (repeat (first | with_reducible exact Ext.refl _ | with_reducible assumption | refine Ext.trans ?_ (by with_reducible assumption) | refine Ext.alloc ?_ _ _ | refine Ext.drew ?_ | refine Ext.drewN ?_ _)))) (by decide) ?_)
    rintro W5 c5 b5 a5 _ m5
    have b3' := (b3.ext (show Ext W3 _ by (repeat (first | with_reducible exact Ext.refl _ | with_reducible assumption | refine Ext.trans ?_ (by with_reducible assumption) | refine Ext.alloc ?_ _ _ | refine Ext.drew ?_ | refine Ext.drewN ?_ _)))).mod m5 (fun q => hne q.symm)
    refine hK.out _ _ ?_ (fun hHeld => ?_)
    · exact Ext.trans_mod HH.out m5 (fun q hq => by have hq2 : q = B2 := hq; rw [hq2]; exact g2)
    clear hK K HH
    have HH : Hid (Ext w _) := hHeld
    clear hHeld
    change wpAnyH _ _ _ _ _ _ _ (Act.put _ none _) _
    simp only [Act.put, List.setIfInBounds_toArray, List.set_cons_zero, List.set_cons_succ]
    refine wpAnyH_ready (rs := [9]) (by kernel_rfl) (by simp) ?_
    refine AllReadyH.cons rfl (fun K hK => ?_) AllReadyH.nil
    refine step_any rfl (op_storeBB rfl rfl rfl h.pLt b3' (by decide) ?_)
    rintro W6 c6 b6 a6 _ m6
    have b5' := b5.mod m6 hne
    refine hK.out _ _ ?_ (fun hHeld => ?_)
    · exact Ext.trans_mod HH.out m6 (fun q hq => by have hq2 : q = B3 := hq; rw [hq2]; exact Nat.le_trans e2.size g3)
    clear hK K HH
    have HH : Hid (Ext w _) := hHeld
    clear hHeld
    change wpAnyH _ _ _ _ _ _ _ (Act.put _ none _) _
    simp only [Act.put, List.setIfInBounds_toArray, List.set_cons_zero, List.set_cons_succ]
    refine wpAnyH_done (by kernel_rfl) ?_ _
    go_wp2
    refine post_BB rt28 rt28 (bw t.price) (bw t.price) (bwS h.pLt) (bwS h.pLt) rfl rfl rfl (a5.row h.pLt b5' (by decide)) (a6.row h.pLt b6 (by decide)) rfl ?_
    exact ⟨by simp [ATx.most, ATx.tipF, hd], HH.out⟩
  · rw [hd] at hdy
    go_enter Hvah.func129, Hvah.ntmps129
    go_upto_region 2 with (first
      | ((with_reducible (refine Veil.out ?_; apply wl_allocBB)); rintro B2 W2 c2 e2 b2 _ g2; (with_reducible (refine Veil.out ?_; apply wl_allocBB)); rintro B3 W3 c3 e3 b3 _ g3)
      | ((with_reducible (refine Veil.out ?_; apply wl_loadB one4i)); (case hx => rfl); (case hB => exact hB.ext (e2.trans e3)); (case hi => decide); rw [hdy]))
    have hne : ¬ B2 = B3 := fun q => by have := b2.lt; omega
    refine w_ext ?_
    rintro W0 hW0
    refine wp_region_held_drew (S := fun w' => Ext w w') (by kernel_rfl) ((e2.trans e3).trans hW0).drew (fun hHeld => ?_)
    have HH : Hid (Ext w _) := hHeld
    clear hHeld
    refine wpAnyH_take (i := 0) (v := ?_) rfl (by kernel_rfl) (by kernel_rfl) (by kernel_rfl) (fun _ _ _ h => h) (Or.inl ⟨by rfl, ?_⟩) HH.out ?_
    rotate_left
    · intro w hSw; go_simp; try with_reducible rfl
    change wpAnyH _ _ _ _ _ _ _ (Act.put _ (some 8) _) _
    simp only [Act.put, List.setIfInBounds_toArray, List.set_cons_zero, List.set_cons_succ]
    refine wpAnyH_take (i := 1) (v := ?_) rfl (by kernel_rfl) (by kernel_rfl) (by kernel_rfl) (fun _ _ _ h => h) (Or.inl ⟨by rfl, ?_⟩) HH.out ?_
    rotate_left
    · intro w hSw; go_simp; try with_reducible rfl
    change wpAnyH _ _ _ _ _ _ _ (Act.put _ (some 9) _) _
    simp only [Act.put, List.setIfInBounds_toArray, List.set_cons_zero, List.set_cons_succ]
    refine wpAnyH_take (i := 2) (v := ?_) rfl (by kernel_rfl) (by kernel_rfl) (by kernel_rfl) (fun _ _ _ h => h) (Or.inl ⟨by rfl, ?_⟩) HH.out ?_
    rotate_left
    · intro w hSw; go_simp; try with_reducible rfl
    change wpAnyH _ _ _ _ _ _ _ (Act.put _ (some 10) _) _
    simp only [Act.put, List.setIfInBounds_toArray, List.set_cons_zero, List.set_cons_succ]
    refine wpAnyH_take (i := 3) rfl (by kernel_rfl) (by kernel_rfl) (by kernel_rfl) (fun _ _ _ h => h) (yields_B (by rfl) rfl rfl (fun w hSw => hB.ext hSw) h.maxFee h.mLt (by decide)) HH.out ?_
    change wpAnyH _ _ _ _ _ _ _ (Act.put _ (some 11) _) _
    simp only [Act.put, List.setIfInBounds_toArray, List.set_cons_zero, List.set_cons_succ]
    refine wpAnyH_take (i := 4) (v := ?_) rfl (by kernel_rfl) (by kernel_rfl) (by kernel_rfl) (fun _ _ _ h => h) (Or.inl ⟨by rfl, ?_⟩) HH.out ?_
    rotate_left
    · intro w hSw; go_simp; try with_reducible rfl
    change wpAnyH _ _ _ _ _ _ _ (Act.put _ (some 12) _) _
    simp only [Act.put, List.setIfInBounds_toArray, List.set_cons_zero, List.set_cons_succ]
    refine wpAnyH_take (i := 5) (v := ?_) rfl (by kernel_rfl) (by kernel_rfl) (by kernel_rfl) (fun _ _ _ h => h) (Or.inl ⟨by rfl, ?_⟩) HH.out ?_
    rotate_left
    · intro w hSw; go_simp; try with_reducible rfl
    change wpAnyH _ _ _ _ _ _ _ (Act.put _ (some 13) _) _
    simp only [Act.put, List.setIfInBounds_toArray, List.set_cons_zero, List.set_cons_succ]
    refine wpAnyH_take (i := 6) (v := ?_) rfl (by kernel_rfl) (by kernel_rfl) (by kernel_rfl) (fun _ _ _ h => h) (Or.inl ⟨by rfl, ?_⟩) HH.out ?_
    rotate_left
    · intro w hSw; go_simp; try with_reducible rfl
    change wpAnyH _ _ _ _ _ _ _ (Act.put _ (some 14) _) _
    simp only [Act.put, List.setIfInBounds_toArray, List.set_cons_zero, List.set_cons_succ]
    refine wpAnyH_take (i := 7) rfl (by kernel_rfl) (by kernel_rfl) (by kernel_rfl) (fun _ _ _ h => h) (yields_B (by rfl) rfl rfl (fun w hSw => hB.ext hSw) h.tip h.iLt (by decide)) HH.out ?_
    change wpAnyH _ _ _ _ _ _ _ (Act.put _ (some 15) _) _
    simp only [Act.put, List.setIfInBounds_toArray, List.set_cons_zero, List.set_cons_succ]
    refine wpAnyH_ready (rs := [8]) (by kernel_rfl) (by simp) ?_
    refine AllReadyH.cons rfl (fun K hK => ?_) AllReadyH.nil
    refine step_any rfl (op_storeBB rfl rfl rfl h.mLt (b2.ext (by (repeat (first | with_reducible exact Ext.refl _ | with_reducible assumption | refine Ext.trans ?_ (by with_reducible assumption) | refine Ext.alloc ?_ _ _ | refine Ext.drew ?_ | refine Ext.drewN ?_ _)))) (by decide) ?_)
    rintro W5 c5 b5 a5 _ m5
    have b3' := (b3.ext (show Ext W3 _ by (repeat (first | with_reducible exact Ext.refl _ | with_reducible assumption | refine Ext.trans ?_ (by with_reducible assumption) | refine Ext.alloc ?_ _ _ | refine Ext.drew ?_ | refine Ext.drewN ?_ _)))).mod m5 (fun q => hne q.symm)
    refine hK.out _ _ ?_ (fun hHeld => ?_)
    · exact Ext.trans_mod HH.out m5 (fun q hq => by have hq2 : q = B2 := hq; rw [hq2]; exact g2)
    clear hK K HH
    have HH : Hid (Ext w _) := hHeld
    clear hHeld
    change wpAnyH _ _ _ _ _ _ _ (Act.put _ none _) _
    simp only [Act.put, List.setIfInBounds_toArray, List.set_cons_zero, List.set_cons_succ]
    refine wpAnyH_ready (rs := [9]) (by kernel_rfl) (by simp) ?_
    refine AllReadyH.cons rfl (fun K hK => ?_) AllReadyH.nil
    refine step_any rfl (op_storeBB rfl rfl rfl h.iLt b3' (by decide) ?_)
    rintro W6 c6 b6 a6 _ m6
    have b5' := b5.mod m6 hne
    refine hK.out _ _ ?_ (fun hHeld => ?_)
    · exact Ext.trans_mod HH.out m6 (fun q hq => by have hq2 : q = B3 := hq; rw [hq2]; exact Nat.le_trans e2.size g3)
    clear hK K HH
    have HH : Hid (Ext w _) := hHeld
    clear hHeld
    change wpAnyH _ _ _ _ _ _ _ (Act.put _ none _) _
    simp only [Act.put, List.setIfInBounds_toArray, List.set_cons_zero, List.set_cons_succ]
    refine wpAnyH_done (by kernel_rfl) ?_ _
    go_wp2
    refine post_BB rt28 rt28 (bw t.maxFee) (bw t.tip) (bwS h.mLt) (bwS h.iLt) rfl rfl rfl (a5.row h.mLt b5' (by decide)) (a6.row h.iLt b6 (by decide)) rfl ?_
    exact ⟨by simp [ATx.most, ATx.tipF, hd], HH.out⟩
theorem z144 : zeroOf Hvah.prog 153 = some #[.int .u8 0, .int .u8 0, .int .u8 0, .int .u8 0, .int .u8 0, .int .u8 0, .int .u8 0, .int .u8 0, .int .u8 0, .int .u8 0, .int .u8 0, .int .u8 0, .int .u8 0, .int .u8 0, .int .u8 0, .int .u8 0, .int .u8 0, .int .u8 0, .int .u8 0, .int .u8 0, .slice none 0 0] := by kernel_rfl
theorem aat_one {c : Nat → Value} {o a : Nat} (h : AAt c o a) (ha : a < 2 ^ 160) (q : Nat) (hq : q < 20) : (c (o + q)).oneCell' = true := by
  have h1 := get_cf (r := av a) (i := q) (by rw [av_size ha]; exact hq)
  rw [h q _ h1]
  exact Ones.get (av_one a) (by rw [av_size ha]; exact hq)
theorem keysN_take (l : List (Nat × List Nat)) (i : Nat) (hi : i < l.length) : keysN (l.take (i + 1)) = keysN (l.take i) + (l[i].2).length := by
  unfold keysN
  rw [List.take_succ_eq_append_getElem hi, List.map_append, List.foldr_append]
  generalize (List.take i l).map (fun a => a.2.length) = m
  simp only [List.map_cons, List.map_nil, List.foldr_cons, List.foldr_nil, Nat.add_zero]
  generalize (l[i].2).length = z
  induction m with
  | nil => simp
  | cons a m ih => simp only [List.foldr_cons, ih]; omega
theorem keysN_le (l : List (Nat × List Nat)) : ∀ i, keysN (l.take i) ≤ keysN l := by
  induction l with
  | nil => intro i; simp
  | cons a l ih =>
    intro i
    cases i with
    | zero => simp [keysN]
    | succ i => have := ih i; simp only [keysN, List.take_succ_cons, List.map_cons, List.foldr_cons] at *; omega
set_option maxRecDepth 100000 in
set_option maxHeartbeats 6400000 in
theorem oListOK (hB : Blk w B 174 40 c) (h : TxC O w c t) : Calls Hvah.prog 131 #[.pointer (some ⟨B, 0, none⟩)] w fun x w' => x = .returned (.bool t.listOK) ∧ Ext w w' := by
  have ha := h.access
  clear h
  unfold ATx.listOK
  generalize t.access = l at *
  rcases ha with ⟨rfl, p0, hv⟩ | ⟨b, off, cap, cs, hv, hcap, hc2, hO, hb, hcell, hrow⟩
  · go_enter Hvah.func131, Hvah.ntmps131
    go_upto_region 5 with (first
      | ((with_reducible (refine Veil.out ?_; apply wl_loadB one33i)); (case hx => rfl); (case hB => exact hB); (case hi => decide); rw [hv]))
    try simp only [Act.put]
    go_loopw [17] (fun iv wr => iv = .int .i64 0 ∧ Ext w wr) (fun _ _ => 0)
    case atStart => exact ⟨rfl, Ext.refl _⟩
    case round =>
      obtain ⟨rfl, he⟩ := hrel
      go_wp2
      go_ret
      exact ⟨by simp [keysN], he⟩
  · obtain ⟨n, hn⟩ : ∃ n, Hid (l.length = n) := ⟨_, rfl⟩
    have hn' := hn.out
    rw [hn'] at hv hcap hcell
    rw [hn']
    clear hn'
    have hnn : (n : Int) ≤ 9223372036854775807 := by omega
    rcases Nat.lt_or_ge 16 n with h16 | h16
    · have h16' : (16 : Int) < (n : Int) := by omega
      go_enter Hvah.func131, Hvah.ntmps131
      go_wp2_with (first
        | ((with_reducible (refine Veil.out ?_; apply wl_loadB one33i)); (case hx => rfl); (case hB => exact hB); (case hi => decide); rw [hv]))
      go_ret
      exact ⟨by simp; omega, Ext.refl _⟩
    · have h16' : ¬ (16 : Int) < (n : Int) := by omega
      go_enter Hvah.func131, Hvah.ntmps131
      go_upto_region 5 with (first
        | ((with_reducible (refine Veil.out ?_; apply wl_loadB one33i)); (case hx => rfl); (case hB => exact hB); (case hi => decide); rw [hv]))
      try simp only [Act.put]
      go_loopw [3, 17] (fun kv iv wr => ∃ (i k : Nat), kv = .int .i64 (k : Nat) ∧ iv = .int .i64 (i : Nat) ∧ i ≤ n ∧ k ≤ 64 ∧ Hid (keysN (l.take i) = k) ∧ Ext w wr) (fun _ iv _ => n - (intOf iv).toNat)
      case atStart => exact ⟨0, 0, rfl, rfl, Nat.zero_le _, Nat.zero_le _, (by simp [keysN] : keysN (l.take 0) = 0), Ext.refl _⟩
      case round =>
        obtain ⟨i, k, rfl, rfl, hi, hk, hkk, he⟩ := hrel
        rcases Nat.lt_or_ge i n with hlt | hge
        · have z1 : (i : Int) < n := by omega
          have hil : i < l.length := by have := hn.out; omega
          have hri := hrow i hil
          have hR : RowIn wr b (off + i * 21) (rowOf cs (i * 21) 21) := fun q u hu => (he.cell (p := ⟨b, off + i * 21 + q, none⟩) hb).trans (el_row (l := l) (by rw [hn.out]; exact hcell) hil q u hu)
          have hst := keysN_take l i hil
          have hle := keysN_le l (i + 1)
          rw [hst, hkk.out] at hle
          obtain ⟨ok, ck, hkv, hk1, hk2⟩ := hri.keys.slice
          rw [hkk.out] at hst
          have hones : Ones (rowOf cs (i * 21) 21) := ones_of (fun q hq => by
            rw [rowOf_size] at hq
            rw [cf_rowOf _ _ _ hq]
            rcases (show q < 20 ∨ q = 20 by omega) with h | rfl
            · exact aat_one hri.addr hri.aLt q h
            · rw [hkv]; rfl)
          generalize (l[i].2).length = m at *
          obtain ⟨i1, hi1⟩ : ∃ z : Nat, Hid ((i + 1 : Nat) = z) := ⟨_, rfl⟩
          have j1 : IntKind.i64.wrap ((i : Int) + 1) = (i1 : Int) := by rw [IntKind.wrap_i64, ← hi1.out]; omega
          have j2 : IntKind.i64.wrap ((64 : Int) - k) = ((64 - k : Nat) : Int) := by rw [IntKind.wrap_i64]; omega
          obtain ⟨k1, hk1e⟩ : ∃ z : Nat, Hid ((64 - k : Nat) = z) := ⟨_, rfl⟩
          rw [hk1e.out] at j2
          go_upto_region 7 with (first | ((with_reducible (refine Veil.out ?_; apply wl_loadR rt144 b (off + i * 21) (rowOf cs (i * 21) 21) (rowOf_size _ _ _))); (case hx => rfl); (case hr => exact hR)) | ((with_reducible (refine Veil.out ?_; apply wl_allocB z144)); (case hn => rfl); rintro L W3 e3 b3 g3) | ((with_reducible (refine Veil.out ?_; apply wl_storeRow rt144)); (case hx => rfl); (case hy => rfl); (case hr => exact rowOf_size _ _ _); (case h1 => exact hones); (case hB => exact b3); (case hi => decide); rintro W4 b4 m4))
          have hE4 : Ext w W4 := Ext.trans_mod (he.trans e3) m4 (fun q hq => by have hq2 : q = L := hq; rw [hq2]; exact Nat.le_trans he.size g3)
          have hL20 : layv (cf #[.int .u8 0, .int .u8 0, .int .u8 0, .int .u8 0, .int .u8 0, .int .u8 0, .int .u8 0, .int .u8 0, .int .u8 0, .int .u8 0, .int .u8 0, .int .u8 0, .int .u8 0, .int .u8 0, .int .u8 0, .int .u8 0, .int .u8 0, .int .u8 0, .int .u8 0, .int .u8 0, .slice none 0 0]) 0 (rowOf cs (i * 21) 21) 20 = .slice ok m ck := by
            have := layv_in (cf #[.int .u8 0, .int .u8 0, .int .u8 0, .int .u8 0, .int .u8 0, .int .u8 0, .int .u8 0, .int .u8 0, .int .u8 0, .int .u8 0, .int .u8 0, .int .u8 0, .int .u8 0, .int .u8 0, .int .u8 0, .int .u8 0, .int .u8 0, .int .u8 0, .int .u8 0, .int .u8 0, .slice none 0 0]) 0 (rowOf cs (i * 21) 21) (j := 20) (by rw [rowOf_size]; decide)
            rw [Nat.zero_add] at this
            rw [this, cf_rowOf _ _ _ (by decide), hkv]
          generalize layv (cf #[.int .u8 0, .int .u8 0, .int .u8 0, .int .u8 0, .int .u8 0, .int .u8 0, .int .u8 0, .int .u8 0, .int .u8 0, .int .u8 0, .int .u8 0, .int .u8 0, .int .u8 0, .int .u8 0, .int .u8 0, .int .u8 0, .int .u8 0, .int .u8 0, .int .u8 0, .int .u8 0, .slice none 0 0]) 0 (rowOf cs (i * 21) 21) = cL at b4 hL20
          clear b3 hR hones hrow hcell hri hkv
          rcases Nat.lt_or_ge k1 m with hm | hm
          · have zm : (k1 : Int) < m := by omega
            go_wp2_with (first
              | ((with_reducible (refine Veil.out ?_; apply wl_loadB one29i)); (case hx => rfl); (case hB => exact b4); (case hi => decide); rw [hL20]))
            go_ret
            exact ⟨by have := hk1e.out; simp; omega, hE4⟩
          · have zm : ¬ (k1 : Int) < m := by omega
            obtain ⟨k2, hk2e⟩ : ∃ z : Nat, Hid ((k + m : Nat) = z) := ⟨_, rfl⟩
            have j3 : IntKind.i64.wrap ((k : Int) + m) = (k2 : Int) := by have := hk1e.out; have := hk2e.out; rw [IntKind.wrap_i64]; omega
            go_wp2_with (first
              | ((with_reducible (refine Veil.out ?_; apply wl_loadB one29i)); (case hx => rfl); (case hB => exact b4); (case hi => decide); rw [hL20]))
            go_roundw
            case rel =>
              have q1 := hi1.out; have q2 := hk1e.out; have q3 := hk2e.out
              refine ⟨i1, k2, rfl, rfl, by omega, by omega, ?_, hE4⟩
              show keysN (l.take i1) = k2
              rw [← q1, ← q3]; exact hst
            case measure => have q1 := hi1.out; simp [intOf]; omega
        · have z1 : ¬ (i : Int) < n := by omega
          go_wp2
          go_ret
          have q1 := hn.out
          have q2 := hkk.out
          rw [List.take_of_length_le (by omega)] at q2
          exact ⟨by simp; omega, he⟩
end
end Go.Proofs.YgvahwGreat
