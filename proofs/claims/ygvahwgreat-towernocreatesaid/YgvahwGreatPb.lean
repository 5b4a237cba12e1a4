import Derived.Test.YgvahwGreatPa
namespace Go.Proofs.YgvahwGreat
open Go.RowKit
set_option linter.unusedSimpArgs false
theorem cut_rowG {N : Nat} {c : Nat → Value} (hz : ∀ i, i < N → c i = .int .u8 0) (L : List Nat) (n k : Nat) (hn : n ≤ N) (hk : k = min L.length n) : rowOf (layv c (N - n) (bcells (L.take k)).toArray) 0 N = (bcells (List.replicate (N - n) 0 ++ (L ++ List.replicate n 0).take n)).toArray := by
  have hs : (bcells (L.take k)).toArray.size = k := by simp [bcells_length]; omega
  refine ext_cf (by rw [rowOf_size]; simp [bcells_length]; omega) (fun i hi => ?_)
  rw [rowOf_size] at hi
  rw [cf_rowOf _ _ _ hi, Nat.zero_add]
  have hR : (List.replicate (N - n) 0 ++ (L ++ List.replicate n 0).take n)[i]? = some (if N - n ≤ i ∧ i < N - n + k then L.getD (i - (N - n)) 0 else 0) := by
    by_cases h0 : i < N - n
    · rw [List.getElem?_append_left (by simpa using h0), List.getElem?_replicate, if_pos h0, if_neg (by omega)]
    · rw [List.getElem?_append_right (by simp; omega), List.length_replicate, List.getElem?_take, if_pos (by omega)]
      by_cases h : i - (N - n) < L.length
      · rw [List.getElem?_append_left h, if_pos (by omega)]; simp [List.getD, h]
      · rw [List.getElem?_append_right (by omega), if_neg (by omega), List.getElem?_replicate, if_pos (by omega)]
  have e2 : cf (bcells (List.replicate (N - n) 0 ++ (L ++ List.replicate n 0).take n)).toArray i = .int .u8 ((if N - n ≤ i ∧ i < N - n + k then L.getD (i - (N - n)) 0 else 0 : Nat) : Int) := cf_get (by simp only [bcells, List.getElem?_toArray, List.getElem?_map, hR, Option.map_some])
  rw [e2]
  by_cases h : N - n ≤ i ∧ i < N - n + k
  · have := layv_in c (N - n) (bcells (L.take k)).toArray (j := i - (N - n)) (by rw [hs]; omega)
    rw [show N - n + (i - (N - n)) = i by omega] at this
    rw [this, if_pos h]
    have hL : (L.take k)[i - (N - n)]? = some (L.getD (i - (N - n)) 0) := by rw [List.getElem?_take, if_pos (by omega)]; simp [List.getD, show i - (N - n) < L.length by omega]
    exact cf_get (by simp only [bcells, List.getElem?_toArray, List.getElem?_map, hL, Option.map_some])
  · rw [layv_out _ _ _ (by rw [hs]; omega), hz i hi, if_neg h]; rfl
theorem cut_rowZ {N : Nat} {c : Nat → Value} (hz : ∀ i, i < N → c i = .int .u8 0) (n : Nat) (hn : n ≤ N) : rowOf c 0 N = (bcells (List.replicate (N - n) 0 ++ List.replicate n 0)).toArray := by
  have := cut_rowG hz [] n 0 hn (by simp)
  rw [List.take_nil, List.nil_append, List.take_replicate, Nat.min_self] at this
  rw [← this]
  refine ext_cf (by rw [rowOf_size, rowOf_size]) (fun i hi => ?_)
  rw [rowOf_size] at hi
  rw [cf_rowOf _ _ _ hi, cf_rowOf _ _ _ hi, layv_out _ _ _ (by simp [bcells]; omega)]
section
variable {w : World}
set_option maxRecDepth 100000 in
set_option maxHeartbeats 6400000 in
theorem mPart1 {O : Nat → Prop} {v : Value} {L : List Nat} (hv : NL O w v L) {B N : Nat} {tt : TypeId} {c : Nat → Value} (hB : Blk w B N tt c) (hz : ∀ i, i < N → c i = .int .u8 0) (_hN : N ≤ 4096) (off n : Nat) (_hoff : off ≤ 4096) (hn : n ≤ N) (hc : L.length ≤ off) : Calls Hvah.prog 260 #[.slice (some ⟨B, 0, none⟩) N N, v, .int .i64 off, .int .i64 n] w fun e w' => e = .returned (.tuple #[]) ∧ ∃ c', Blk w' B N tt c' ∧ rowOf c' 0 N = (bcells (List.replicate (N - n) 0 ++ cutA L off n)).toArray ∧ Mod (· = B) w w' := by
  have hcut : cutA L off n = List.replicate n 0 := by
    unfold cutA
    rw [List.drop_of_length_le hc, List.nil_append, List.take_replicate, Nat.min_self]
  rw [hcut]
  obtain ⟨o, cap, rfl, i1, i2, i3⟩ := hv
  have j1 : ¬ (off : Int) < L.length := by omega
  go_enter Hvah.func260, Hvah.ntmps260
  go_wp2
  go_end0
  exact ⟨rfl, c, hB, by rw [cut_rowZ hz n hn, List.replicate_append_replicate, Nat.sub_add_cancel hn], Mod.refl _ _⟩
set_option maxRecDepth 100000 in
set_option maxHeartbeats 6400000 in
theorem mPart2 {O : Nat → Prop} {v : Value} {L : List Nat} (hv : NL O w v L) {B N : Nat} {tt : TypeId} {c : Nat → Value} (hB : Blk w B N tt c) (hz : ∀ i, i < N → c i = .int .u8 0) (hN : N ≤ 4096) (off n : Nat) (hoff : off ≤ 4096) (hn : n ≤ N) (hc : off < L.length) (hn0 : n = 0) : Calls Hvah.prog 260 #[.slice (some ⟨B, 0, none⟩) N N, v, .int .i64 off, .int .i64 n] w fun e w' => e = .returned (.tuple #[]) ∧ ∃ c', Blk w' B N tt c' ∧ rowOf c' 0 N = (bcells (List.replicate (N - n) 0 ++ cutA L off n)).toArray ∧ Mod (· = B) w w' := by
  obtain ⟨o, cap, rfl, i1, i2, i3⟩ := hv
  have hrw := cut_rowG hz (L.drop off) n (min (L.drop off).length n) hn rfl
  obtain ⟨b, o, rfl, hb, hrow⟩ := i3.rowIn (fun q => by rw [q] at hc; cases hc)
  have hr := fun W (hW : Ext w W) => ((hrow off).ext hb hW).pre (min (L.drop off).length n)
  clear hrow
  have hrs : (bcells ((L.drop off).take (min (L.drop off).length n))).toArray.size = min (L.length - off) n * 1 := by rw [List.size_toArray, bcells_length, List.length_take, List.length_drop]; omega
  obtain ⟨K, hK9⟩ : ∃ K, Hid ((bcells ((L.drop off).take (min (L.drop off).length n))).toArray = K) := ⟨_, rfl⟩
  have hK1 : Ones K := by rw [← hK9.out]; exact bcells_ones _
  rw [hK9.out] at hr hrs hrw
  obtain ⟨m, hm⟩ : ∃ m, Hid (L.length = m) := ⟨_, rfl⟩
  rw [hm.out] at hc hrs i1 
  rw [hm.out]
  have j1 : (off : Int) < m := by omega
  have j2 : (n : Int) ≤ N := by omega
  have j3 : (off : Int) ≤ m := by omega
  have j4 : ¬ cap = off := by omega
  have j5 : (m : Int) ≤ cap := by omega
  have j6 : (0 : Int) ≤ off := by omega
  have jw1 : IntKind.i64.wrap ((m : Int) - off) = ((m - off : Nat) : Int) := by rw [IntKind.wrap_i64]; omega
  have jw2 : IntKind.i64.wrap ((off : Int) + n) = (off : Int) + n := by rw [IntKind.wrap_i64]; omega
  have jw3 : IntKind.i64.wrap ((N : Int) - n) = ((N - n : Nat) : Int) := by rw [IntKind.wrap_i64]; omega
  subst hn0
  rw [Nat.sub_zero] at hrw jw3
  rw [Nat.sub_zero]
  have q1 : (0 : Int) < ((m - off : Nat) : Int) := by omega
  have q2 : IntKind.i64.wrap (N : Int) = N := by rw [IntKind.wrap_i64]; omega
  have q3 : off ≤ cap := by omega
  go_enter Hvah.func260, Hvah.ntmps260
  go_upto_region 4 with (fail)
  refine w_ext ?_
  rintro W0 hW0
  refine wp_region_held_drew (S := fun w' => Mod (fun x => x = B) W0 w') (by kernel_rfl) (Mod.refl _ _).drew (fun hHeld => ?_)
  have HH : Hid (Mod (fun x => x = B) W0 _) := hHeld
  clear hHeld
  refine wpAnyH_take (i := 0) (v := ?_) rfl (by kernel_rfl) (by kernel_rfl) (by kernel_rfl) (fun _ _ _ h => h) (Or.inl ⟨by rfl, ?_⟩) HH.out ?_
  rotate_left
  · intro w hSw; go_simp; try with_reducible rfl
  change wpAnyH _ _ _ _ _ _ _ (Act.put _ (some 29) _) _
  simp only [Act.put, List.setIfInBounds_toArray, List.set_cons_zero, List.set_cons_succ]
  refine wpAnyH_take (i := 1) (v := ?_) rfl (by kernel_rfl) (by kernel_rfl) (by kernel_rfl) (fun _ _ _ h => h) (Or.inl ⟨by rfl, ?_⟩) HH.out ?_
  rotate_left
  · intro w hSw; go_simp; try with_reducible rfl
  change wpAnyH _ _ _ _ _ _ _ (Act.put _ (some 30) _) _
  simp only [Act.put, List.setIfInBounds_toArray, List.set_cons_zero, List.set_cons_succ]
  refine wpAnyH_take (i := 2) (v := ?_) rfl (by kernel_rfl) (by kernel_rfl) (by kernel_rfl) (fun _ _ _ h => h) (Or.inl ⟨by rfl, ?_⟩) HH.out ?_
  rotate_left
  · intro w hSw; go_simp; try with_reducible rfl
  change wpAnyH _ _ _ _ _ _ _ (Act.put _ (some 31) _) _
  simp only [Act.put, List.setIfInBounds_toArray, List.set_cons_zero, List.set_cons_succ]
  refine wpAnyH_take (i := 3) (v := ?_) rfl (by kernel_rfl) (by kernel_rfl) (by kernel_rfl) (fun _ _ _ h => h) (Or.inl ⟨by rfl, ?_⟩) HH.out ?_
  rotate_left
  · intro w hSw; go_simp; try with_reducible rfl
  change wpAnyH _ _ _ _ _ _ _ (Act.put _ (some 32) _) _
  simp only [Act.put, List.setIfInBounds_toArray, List.set_cons_zero, List.set_cons_succ]
  refine wpAnyH_take (i := 4) (v := ?_) rfl (by kernel_rfl) (by kernel_rfl) (by kernel_rfl) (fun _ _ _ h => h) (Or.inl ⟨by rfl, ?_⟩) HH.out ?_
  rotate_left
  · intro w hSw; go_simp; try with_reducible rfl
  change wpAnyH _ _ _ _ _ _ _ (Act.put _ (some 33) _) _
  simp only [Act.put, List.setIfInBounds_toArray, List.set_cons_zero, List.set_cons_succ]
  refine wpAnyH_take (i := 5) (v := ?_) rfl (by kernel_rfl) (by kernel_rfl) (by kernel_rfl) (fun _ _ _ h => h) (Or.inl ⟨by rfl, ?_⟩) HH.out ?_
  rotate_left
  · intro w hSw; go_simp; try with_reducible rfl
  change wpAnyH _ _ _ _ _ _ _ (Act.put _ (some 34) _) _
  simp only [Act.put, List.setIfInBounds_toArray, List.set_cons_zero, List.set_cons_succ]
  refine wpAnyH_take (i := 6) (v := ?_) rfl (by kernel_rfl) (by kernel_rfl) (by kernel_rfl) (fun _ _ _ h => h) (Or.inl ⟨by rfl, ?_⟩) HH.out ?_
  rotate_left
  · intro w hSw; go_simp; try with_reducible rfl
  change wpAnyH _ _ _ _ _ _ _ (Act.put _ (some 35) _) _
  simp only [Act.put, List.setIfInBounds_toArray, List.set_cons_zero, List.set_cons_succ]
  refine wpAnyH_take (i := 7) (v := ?_) rfl (by kernel_rfl) (by kernel_rfl) (by kernel_rfl) (fun _ _ _ h => h) (Or.inl ⟨by rfl, ?_⟩) HH.out ?_
  rotate_left
  · intro w hSw; go_simp; try with_reducible rfl
  change wpAnyH _ _ _ _ _ _ _ (Act.put _ (some 36) _) _
  simp only [Act.put, List.setIfInBounds_toArray, List.set_cons_zero, List.set_cons_succ]
  refine wpAnyH_take (i := 8) (v := ?_) rfl (by kernel_rfl) (by kernel_rfl) (by kernel_rfl) (fun _ _ _ h => h) (Or.inl ⟨by rfl, ?_⟩) HH.out ?_
  rotate_left
  · intro w hSw; go_simp; try with_reducible rfl
  change wpAnyH _ _ _ _ _ _ _ (Act.put _ (some 37) _) _
  simp only [Act.put, List.setIfInBounds_toArray, List.set_cons_zero, List.set_cons_succ]
  refine wpAnyH_take (i := 9) (v := ?_) rfl (by kernel_rfl) (by kernel_rfl) (by kernel_rfl) (fun _ _ _ h => h) (Or.inl ⟨by rfl, ?_⟩) HH.out ?_
  rotate_left
  · intro w hSw; go_simp; try with_reducible rfl
  change wpAnyH _ _ _ _ _ _ _ (Act.put _ (some 38) _) _
  simp only [Act.put, List.setIfInBounds_toArray, List.set_cons_zero, List.set_cons_succ]
  refine wpAnyH_ready (rs := [10]) (by kernel_rfl) (by simp) ?_
  refine AllReadyH.cons rfl (fun K hK => ?_) AllReadyH.nil
  refine step_any rfl (op_copyS (k := min (m - off) 0) rfl (by kernel_rfl) u8map rfl rfl (hB.ext (by (repeat (first | with_reducible exact Ext.refl _ | with_reducible assumption | refine Ext.trans ?_ (by with_reducible assumption) | refine Ext.alloc ?_ _ _ | refine Ext.drew ?_ | refine Ext.drewN ?_ _)))) (hr _ (by (repeat (first | with_reducible exact Ext.refl _ | with_reducible assumption | refine Ext.trans ?_ (by with_reducible assumption) | refine Ext.alloc ?_ _ _ | refine Ext.drew ?_ | refine Ext.drewN ?_ _)))) (by omega) hrs (by omega) hK1 ?_)
  intro W8 b8 m8
  refine hK.out _ _ ?_ (fun hHeld => ?_)
  · exact HH.out.trans m8
  clear hK K HH
  have HH : Hid (Mod (fun x => x = B) W0 _) := hHeld
  clear hHeld
  change wpAnyH _ _ _ _ _ _ _ (Act.put _ (some 39) _) _
  simp only [Act.put, List.setIfInBounds_toArray, List.set_cons_zero, List.set_cons_succ]
  refine wpAnyH_done (by kernel_rfl) ?_ _
  have hK0 : K.size = 0 := by rw [hrs]; omega
  have hrw2 : rowOf (layv c 0 K) 0 N = (bcells (List.replicate N 0 ++ cutA L off 0)).toArray := by
    have := cut_rowZ hz 0 (by omega)
    rw [Nat.sub_zero] at this
    rw [show cutA L off 0 = List.replicate 0 0 from rfl, ← this]
    refine ext_cf (by rw [rowOf_size, rowOf_size]) (fun i hi => ?_)
    rw [rowOf_size] at hi
    rw [cf_rowOf _ _ _ hi, cf_rowOf _ _ _ hi, layv_out _ _ _ (by omega)]
  clear hrw
  have hrw := hrw2
  go_end0
  exact ⟨rfl, _, b8, hrw, ((Mod.refl _ _).trans_ext hW0).trans HH.out⟩
set_option maxRecDepth 100000 in
set_option maxHeartbeats 6400000 in
theorem mPart3 {O : Nat → Prop} {v : Value} {L : List Nat} (hv : NL O w v L) {B N : Nat} {tt : TypeId} {c : Nat → Value} (hB : Blk w B N tt c) (hz : ∀ i, i < N → c i = .int .u8 0) (hN : N ≤ 4096) (off n : Nat) (hoff : off ≤ 4096) (hn : n ≤ N) (hc : off < L.length) (hn0 : 0 < n) (hs : n < L.length - off) : Calls Hvah.prog 260 #[.slice (some ⟨B, 0, none⟩) N N, v, .int .i64 off, .int .i64 n] w fun e w' => e = .returned (.tuple #[]) ∧ ∃ c', Blk w' B N tt c' ∧ rowOf c' 0 N = (bcells (List.replicate (N - n) 0 ++ cutA L off n)).toArray ∧ Mod (· = B) w w' := by
  obtain ⟨o, cap, rfl, i1, i2, i3⟩ := hv
  have hrw := cut_rowG hz (L.drop off) n (min (L.drop off).length n) hn rfl
  obtain ⟨b, o, rfl, hb, hrow⟩ := i3.rowIn (fun q => by rw [q] at hc; cases hc)
  have hr := fun W (hW : Ext w W) => ((hrow off).ext hb hW).pre (min (L.drop off).length n)
  clear hrow
  have hrs : (bcells ((L.drop off).take (min (L.drop off).length n))).toArray.size = min (L.length - off) n * 1 := by rw [List.size_toArray, bcells_length, List.length_take, List.length_drop]; omega
  obtain ⟨K, hK9⟩ : ∃ K, Hid ((bcells ((L.drop off).take (min (L.drop off).length n))).toArray = K) := ⟨_, rfl⟩
  have hK1 : Ones K := by rw [← hK9.out]; exact bcells_ones _
  rw [hK9.out] at hr hrs hrw
  obtain ⟨m, hm⟩ : ∃ m, Hid (L.length = m) := ⟨_, rfl⟩
  rw [hm.out] at hc hrs i1 hs
  rw [hm.out]
  have j1 : (off : Int) < m := by omega
  have j2 : (n : Int) ≤ N := by omega
  have j3 : (off : Int) ≤ m := by omega
  have j4 : ¬ cap = off := by omega
  have j5 : (m : Int) ≤ cap := by omega
  have j6 : (0 : Int) ≤ off := by omega
  have jw1 : IntKind.i64.wrap ((m : Int) - off) = ((m - off : Nat) : Int) := by rw [IntKind.wrap_i64]; omega
  have jw2 : IntKind.i64.wrap ((off : Int) + n) = (off : Int) + n := by rw [IntKind.wrap_i64]; omega
  have jw3 : IntKind.i64.wrap ((N : Int) - n) = ((N - n : Nat) : Int) := by rw [IntKind.wrap_i64]; omega
  have q1 : (n : Int) < ((m - off : Nat) : Int) := by omega
  have q2 : ((N - n : Nat) : Int) ≤ N := by omega
  have q3 : ¬ N = N - n := by omega
  have q4 : ¬ N - n = N := by omega
  have q5 : (off : Int) + n ≤ cap := by omega
  have q6 : (off : Int) ≤ (off : Int) + n := by omega
  go_enter Hvah.func260, Hvah.ntmps260
  go_upto_region 4 with (fail)
  refine w_ext ?_
  rintro W0 hW0
  refine wp_region_held_drew (S := fun w' => Mod (fun x => x = B) W0 w') (by kernel_rfl) (Mod.refl _ _).drew (fun hHeld => ?_)
  have HH : Hid (Mod (fun x => x = B) W0 _) := hHeld
  clear hHeld
  refine wpAnyH_take (i := 0) (v := ?_) rfl (by kernel_rfl) (by kernel_rfl) (by kernel_rfl) (fun _ _ _ h => h) (Or.inl ⟨by rfl, ?_⟩) HH.out ?_
  rotate_left
  · intro w hSw; go_simp; try with_reducible rfl
  change wpAnyH _ _ _ _ _ _ _ (Act.put _ (some 29) _) _
  simp only [Act.put, List.setIfInBounds_toArray, List.set_cons_zero, List.set_cons_succ]
  refine wpAnyH_take (i := 1) (v := ?_) rfl (by kernel_rfl) (by kernel_rfl) (by kernel_rfl) (fun _ _ _ h => h) (Or.inl ⟨by rfl, ?_⟩) HH.out ?_
  rotate_left
  · intro w hSw; go_simp; try with_reducible rfl
  change wpAnyH _ _ _ _ _ _ _ (Act.put _ (some 30) _) _
  simp only [Act.put, List.setIfInBounds_toArray, List.set_cons_zero, List.set_cons_succ]
  refine wpAnyH_take (i := 2) (v := ?_) rfl (by kernel_rfl) (by kernel_rfl) (by kernel_rfl) (fun _ _ _ h => h) (Or.inl ⟨by rfl, ?_⟩) HH.out ?_
  rotate_left
  · intro w hSw; go_simp; try with_reducible rfl
  change wpAnyH _ _ _ _ _ _ _ (Act.put _ (some 31) _) _
  simp only [Act.put, List.setIfInBounds_toArray, List.set_cons_zero, List.set_cons_succ]
  refine wpAnyH_take (i := 3) (v := ?_) rfl (by kernel_rfl) (by kernel_rfl) (by kernel_rfl) (fun _ _ _ h => h) (Or.inl ⟨by rfl, ?_⟩) HH.out ?_
  rotate_left
  · intro w hSw; go_simp; try with_reducible rfl
  change wpAnyH _ _ _ _ _ _ _ (Act.put _ (some 32) _) _
  simp only [Act.put, List.setIfInBounds_toArray, List.set_cons_zero, List.set_cons_succ]
  refine wpAnyH_take (i := 4) (v := ?_) rfl (by kernel_rfl) (by kernel_rfl) (by kernel_rfl) (fun _ _ _ h => h) (Or.inl ⟨by rfl, ?_⟩) HH.out ?_
  rotate_left
  · intro w hSw; go_simp; try with_reducible rfl
  change wpAnyH _ _ _ _ _ _ _ (Act.put _ (some 33) _) _
  simp only [Act.put, List.setIfInBounds_toArray, List.set_cons_zero, List.set_cons_succ]
  refine wpAnyH_take (i := 5) (v := ?_) rfl (by kernel_rfl) (by kernel_rfl) (by kernel_rfl) (fun _ _ _ h => h) (Or.inl ⟨by rfl, ?_⟩) HH.out ?_
  rotate_left
  · intro w hSw; go_simp; try with_reducible rfl
  change wpAnyH _ _ _ _ _ _ _ (Act.put _ (some 34) _) _
  simp only [Act.put, List.setIfInBounds_toArray, List.set_cons_zero, List.set_cons_succ]
  refine wpAnyH_take (i := 6) (v := ?_) rfl (by kernel_rfl) (by kernel_rfl) (by kernel_rfl) (fun _ _ _ h => h) (Or.inl ⟨by rfl, ?_⟩) HH.out ?_
  rotate_left
  · intro w hSw; go_simp; try with_reducible rfl
  change wpAnyH _ _ _ _ _ _ _ (Act.put _ (some 35) _) _
  simp only [Act.put, List.setIfInBounds_toArray, List.set_cons_zero, List.set_cons_succ]
  refine wpAnyH_take (i := 7) (v := ?_) rfl (by kernel_rfl) (by kernel_rfl) (by kernel_rfl) (fun _ _ _ h => h) (Or.inl ⟨by rfl, ?_⟩) HH.out ?_
  rotate_left
  · intro w hSw; go_simp; try with_reducible rfl
  change wpAnyH _ _ _ _ _ _ _ (Act.put _ (some 36) _) _
  simp only [Act.put, List.setIfInBounds_toArray, List.set_cons_zero, List.set_cons_succ]
  refine wpAnyH_take (i := 8) (v := ?_) rfl (by kernel_rfl) (by kernel_rfl) (by kernel_rfl) (fun _ _ _ h => h) (Or.inl ⟨by rfl, ?_⟩) HH.out ?_
  rotate_left
  · intro w hSw; go_simp; try with_reducible rfl
  change wpAnyH _ _ _ _ _ _ _ (Act.put _ (some 37) _) _
  simp only [Act.put, List.setIfInBounds_toArray, List.set_cons_zero, List.set_cons_succ]
  refine wpAnyH_take (i := 9) (v := ?_) rfl (by kernel_rfl) (by kernel_rfl) (by kernel_rfl) (fun _ _ _ h => h) (Or.inl ⟨by rfl, ?_⟩) HH.out ?_
  rotate_left
  · intro w hSw; go_simp; try with_reducible rfl
  change wpAnyH _ _ _ _ _ _ _ (Act.put _ (some 38) _) _
  simp only [Act.put, List.setIfInBounds_toArray, List.set_cons_zero, List.set_cons_succ]
  refine wpAnyH_ready (rs := [10]) (by kernel_rfl) (by simp) ?_
  refine AllReadyH.cons rfl (fun K hK => ?_) AllReadyH.nil
  refine step_any rfl (op_copyS (k := min (m - off) n) rfl (by kernel_rfl) u8map rfl rfl (hB.ext (by (repeat (first | with_reducible exact Ext.refl _ | with_reducible assumption | refine Ext.trans ?_ (by with_reducible assumption) | refine Ext.alloc ?_ _ _ | refine Ext.drew ?_ | refine Ext.drewN ?_ _)))) (hr _ (by (repeat (first | with_reducible exact Ext.refl _ | with_reducible assumption | refine Ext.trans ?_ (by with_reducible assumption) | refine Ext.alloc ?_ _ _ | refine Ext.drew ?_ | refine Ext.drewN ?_ _)))) (by omega) hrs (by omega) hK1 ?_)
  intro W8 b8 m8
  refine hK.out _ _ ?_ (fun hHeld => ?_)
  · exact HH.out.trans m8
  clear hK K HH
  have HH : Hid (Mod (fun x => x = B) W0 _) := hHeld
  clear hHeld
  change wpAnyH _ _ _ _ _ _ _ (Act.put _ (some 39) _) _
  simp only [Act.put, List.setIfInBounds_toArray, List.set_cons_zero, List.set_cons_succ]
  refine wpAnyH_done (by kernel_rfl) ?_ _
  go_end0
  exact ⟨rfl, _, b8, hrw, ((Mod.refl _ _).trans_ext hW0).trans HH.out⟩
set_option maxRecDepth 100000 in
set_option maxHeartbeats 6400000 in
theorem mPart4 {O : Nat → Prop} {v : Value} {L : List Nat} (hv : NL O w v L) {B N : Nat} {tt : TypeId} {c : Nat → Value} (hB : Blk w B N tt c) (hz : ∀ i, i < N → c i = .int .u8 0) (hN : N ≤ 4096) (off n : Nat) (hoff : off ≤ 4096) (hn : n ≤ N) (hc : off < L.length) (hn0 : 0 < n) (hs : L.length - off ≤ n) : Calls Hvah.prog 260 #[.slice (some ⟨B, 0, none⟩) N N, v, .int .i64 off, .int .i64 n] w fun e w' => e = .returned (.tuple #[]) ∧ ∃ c', Blk w' B N tt c' ∧ rowOf c' 0 N = (bcells (List.replicate (N - n) 0 ++ cutA L off n)).toArray ∧ Mod (· = B) w w' := by
  obtain ⟨o, cap, rfl, i1, i2, i3⟩ := hv
  have hrw := cut_rowG hz (L.drop off) n (min (L.drop off).length n) hn rfl
  obtain ⟨b, o, rfl, hb, hrow⟩ := i3.rowIn (fun q => by rw [q] at hc; cases hc)
  have hr := fun W (hW : Ext w W) => ((hrow off).ext hb hW).pre (min (L.drop off).length n)
  clear hrow
  have hrs : (bcells ((L.drop off).take (min (L.drop off).length n))).toArray.size = min (L.length - off) n * 1 := by rw [List.size_toArray, bcells_length, List.length_take, List.length_drop]; omega
  obtain ⟨K, hK9⟩ : ∃ K, Hid ((bcells ((L.drop off).take (min (L.drop off).length n))).toArray = K) := ⟨_, rfl⟩
  have hK1 : Ones K := by rw [← hK9.out]; exact bcells_ones _
  rw [hK9.out] at hr hrs hrw
  obtain ⟨m, hm⟩ : ∃ m, Hid (L.length = m) := ⟨_, rfl⟩
  rw [hm.out] at hc hrs i1 hs
  rw [hm.out]
  have j1 : (off : Int) < m := by omega
  have j2 : (n : Int) ≤ N := by omega
  have j3 : (off : Int) ≤ m := by omega
  have j4 : ¬ cap = off := by omega
  have j5 : (m : Int) ≤ cap := by omega
  have j6 : (0 : Int) ≤ off := by omega
  have jw1 : IntKind.i64.wrap ((m : Int) - off) = ((m - off : Nat) : Int) := by rw [IntKind.wrap_i64]; omega
  have jw2 : IntKind.i64.wrap ((off : Int) + n) = (off : Int) + n := by rw [IntKind.wrap_i64]; omega
  have jw3 : IntKind.i64.wrap ((N : Int) - n) = ((N - n : Nat) : Int) := by rw [IntKind.wrap_i64]; omega
  have q1 : ¬ (n : Int) < ((m - off : Nat) : Int) := by omega
  have q2 : ((N - n : Nat) : Int) ≤ N := by omega
  have q3 : ¬ N = N - n := by omega
  have q4 : ¬ N - n = N := by omega
  go_enter Hvah.func260, Hvah.ntmps260
  go_upto_region 4 with (fail)
  refine w_ext ?_
  rintro W0 hW0
  refine wp_region_held_drew (S := fun w' => Mod (fun x => x = B) W0 w') (by kernel_rfl) (Mod.refl _ _).drew (fun hHeld => ?_)
  have HH : Hid (Mod (fun x => x = B) W0 _) := hHeld
  clear hHeld
  refine wpAnyH_take (i := 0) (v := ?_) rfl (by kernel_rfl) (by kernel_rfl) (by kernel_rfl) (fun _ _ _ h => h) (Or.inl ⟨by rfl, ?_⟩) HH.out ?_
  rotate_left
  · intro w hSw; go_simp; try with_reducible rfl
  change wpAnyH _ _ _ _ _ _ _ (Act.put _ (some 29) _) _
  simp only [Act.put, List.setIfInBounds_toArray, List.set_cons_zero, List.set_cons_succ]
  refine wpAnyH_take (i := 1) (v := ?_) rfl (by kernel_rfl) (by kernel_rfl) (by kernel_rfl) (fun _ _ _ h => h) (Or.inl ⟨by rfl, ?_⟩) HH.out ?_
  rotate_left
  · intro w hSw; go_simp; try with_reducible rfl
  change wpAnyH _ _ _ _ _ _ _ (Act.put _ (some 30) _) _
  simp only [Act.put, List.setIfInBounds_toArray, List.set_cons_zero, List.set_cons_succ]
  refine wpAnyH_take (i := 2) (v := ?_) rfl (by kernel_rfl) (by kernel_rfl) (by kernel_rfl) (fun _ _ _ h => h) (Or.inl ⟨by rfl, ?_⟩) HH.out ?_
  rotate_left
  · intro w hSw; go_simp; try with_reducible rfl
  change wpAnyH _ _ _ _ _ _ _ (Act.put _ (some 31) _) _
  simp only [Act.put, List.setIfInBounds_toArray, List.set_cons_zero, List.set_cons_succ]
  refine wpAnyH_take (i := 3) (v := ?_) rfl (by kernel_rfl) (by kernel_rfl) (by kernel_rfl) (fun _ _ _ h => h) (Or.inl ⟨by rfl, ?_⟩) HH.out ?_
  rotate_left
  · intro w hSw; go_simp; try with_reducible rfl
  change wpAnyH _ _ _ _ _ _ _ (Act.put _ (some 32) _) _
  simp only [Act.put, List.setIfInBounds_toArray, List.set_cons_zero, List.set_cons_succ]
  refine wpAnyH_take (i := 4) (v := ?_) rfl (by kernel_rfl) (by kernel_rfl) (by kernel_rfl) (fun _ _ _ h => h) (Or.inl ⟨by rfl, ?_⟩) HH.out ?_
  rotate_left
  · intro w hSw; go_simp; try with_reducible rfl
  change wpAnyH _ _ _ _ _ _ _ (Act.put _ (some 33) _) _
  simp only [Act.put, List.setIfInBounds_toArray, List.set_cons_zero, List.set_cons_succ]
  refine wpAnyH_take (i := 5) (v := ?_) rfl (by kernel_rfl) (by kernel_rfl) (by kernel_rfl) (fun _ _ _ h => h) (Or.inl ⟨by rfl, ?_⟩) HH.out ?_
  rotate_left
  · intro w hSw; go_simp; try with_reducible rfl
  change wpAnyH _ _ _ _ _ _ _ (Act.put _ (some 34) _) _
  simp only [Act.put, List.setIfInBounds_toArray, List.set_cons_zero, List.set_cons_succ]
  refine wpAnyH_take (i := 6) (v := ?_) rfl (by kernel_rfl) (by kernel_rfl) (by kernel_rfl) (fun _ _ _ h => h) (Or.inl ⟨by rfl, ?_⟩) HH.out ?_
  rotate_left
  · intro w hSw; go_simp; try with_reducible rfl
  change wpAnyH _ _ _ _ _ _ _ (Act.put _ (some 35) _) _
  simp only [Act.put, List.setIfInBounds_toArray, List.set_cons_zero, List.set_cons_succ]
  refine wpAnyH_take (i := 7) (v := ?_) rfl (by kernel_rfl) (by kernel_rfl) (by kernel_rfl) (fun _ _ _ h => h) (Or.inl ⟨by rfl, ?_⟩) HH.out ?_
  rotate_left
  · intro w hSw; go_simp; try with_reducible rfl
  change wpAnyH _ _ _ _ _ _ _ (Act.put _ (some 36) _) _
  simp only [Act.put, List.setIfInBounds_toArray, List.set_cons_zero, List.set_cons_succ]
  refine wpAnyH_take (i := 8) (v := ?_) rfl (by kernel_rfl) (by kernel_rfl) (by kernel_rfl) (fun _ _ _ h => h) (Or.inl ⟨by rfl, ?_⟩) HH.out ?_
  rotate_left
  · intro w hSw; go_simp; try with_reducible rfl
  change wpAnyH _ _ _ _ _ _ _ (Act.put _ (some 37) _) _
  simp only [Act.put, List.setIfInBounds_toArray, List.set_cons_zero, List.set_cons_succ]
  refine wpAnyH_take (i := 9) (v := ?_) rfl (by kernel_rfl) (by kernel_rfl) (by kernel_rfl) (fun _ _ _ h => h) (Or.inl ⟨by rfl, ?_⟩) HH.out ?_
  rotate_left
  · intro w hSw; go_simp; try with_reducible rfl
  change wpAnyH _ _ _ _ _ _ _ (Act.put _ (some 38) _) _
  simp only [Act.put, List.setIfInBounds_toArray, List.set_cons_zero, List.set_cons_succ]
  refine wpAnyH_ready (rs := [10]) (by kernel_rfl) (by simp) ?_
  refine AllReadyH.cons rfl (fun K hK => ?_) AllReadyH.nil
  refine step_any rfl (op_copyS (k := min (m - off) n) rfl (by kernel_rfl) u8map rfl rfl (hB.ext (by (repeat (first | with_reducible exact Ext.refl _ | with_reducible assumption | refine Ext.trans ?_ (by with_reducible assumption) | refine Ext.alloc ?_ _ _ | refine Ext.drew ?_ | refine Ext.drewN ?_ _)))) (hr _ (by (repeat (first | with_reducible exact Ext.refl _ | with_reducible assumption | refine Ext.trans ?_ (by with_reducible assumption) | refine Ext.alloc ?_ _ _ | refine Ext.drew ?_ | refine Ext.drewN ?_ _)))) (by omega) hrs (by omega) hK1 ?_)
  intro W8 b8 m8
  refine hK.out _ _ ?_ (fun hHeld => ?_)
  · exact HH.out.trans m8
  clear hK K HH
  have HH : Hid (Mod (fun x => x = B) W0 _) := hHeld
  clear hHeld
  change wpAnyH _ _ _ _ _ _ _ (Act.put _ (some 39) _) _
  simp only [Act.put, List.setIfInBounds_toArray, List.set_cons_zero, List.set_cons_succ]
  refine wpAnyH_done (by kernel_rfl) ?_ _
  go_end0
  exact ⟨rfl, _, b8, hrw, ((Mod.refl _ _).trans_ext hW0).trans HH.out⟩
theorem mPart {O : Nat → Prop} {v : Value} {L : List Nat} (hv : NL O w v L) {B N : Nat} {tt : TypeId} {c : Nat → Value} (hB : Blk w B N tt c) (hz : ∀ i, i < N → c i = .int .u8 0) (hN : N ≤ 4096) (off n : Nat) (hoff : off ≤ 4096) (hn : n ≤ N) : Calls Hvah.prog 260 #[.slice (some ⟨B, 0, none⟩) N N, v, .int .i64 off, .int .i64 n] w fun e w' => e = .returned (.tuple #[]) ∧ ∃ c', Blk w' B N tt c' ∧ rowOf c' 0 N = (bcells (List.replicate (N - n) 0 ++ cutA L off n)).toArray ∧ Mod (· = B) w w' := by
  rcases Nat.lt_or_ge off L.length with q | q
  · rcases Nat.eq_zero_or_pos n with q2 | q2
    · exact mPart2 hv hB hz hN off n hoff hn q q2
    · rcases Nat.lt_or_ge n (L.length - off) with q3 | q3
      · exact mPart3 hv hB hz hN off n hoff hn q q2 q3
      · exact mPart4 hv hB hz hN off n hoff hn q q2 q3
  · exact mPart1 hv hB hz hN off n hoff hn q
end
end Go.Proofs.YgvahwGreat
