import Derived.Test.YgvahwGreatVaTb
import Derived.Test.YgvahwGreatVaultZ
namespace Go.Proofs.YgvahwGreat
open Go.RowKit
set_option linter.unusedSimpArgs false

theorem op_storeS {o : Oper} {a : Act} {w : World} {K : Act → World → Prop} {Q : Exit → Act → World → Prop} {x y : Operand} {t tt : TypeId} {b i n : Nat} {c : Nat → Value} {v : Value} (hop : o.op = .store t x y) (ht : OneT t) (hx : a.eval x = .pointer (some ⟨b, i, none⟩)) (hy : a.eval y = v) (h1 : v.oneCell' = true) (hB : Blk w b n tt c) (hi : i < n)
    (h : K (a.put o.dst undef) (w.setCell ⟨b, i, none⟩ v)) : Oper.wp Hvah.prog o a w K Q := by
  have hc : (w.cell? ⟨b, i, none⟩).isSome = true := by rw [hB.cell hi]; rfl
  unfold Oper.wp execOp
  simp only [hop, hx, hy, Instr.storeAt, Instr.sureAddr, Sem.run_bind, Sem.run_pure, Result.andThen_ok, run_storeVar_one ht h1 hc (hB.fz i)]
  exact h
theorem temp_val {c c3 : Nat → Value} {o v : Nat} {x : ETemp} (h : TempC c o x) (h1 : ∀ j, j < o + 5 ∨ o + 5 + 4 ≤ j → c3 j = c j) (h2 : WAt c3 (o + 5) v) (hv : v < P256) : TempC c3 o { x with val := v } where
  acct := (h1 _ (by omega)).trans h.acct
  aLt := h.aLt
  key := ⟨(h1 _ (by omega)).trans h.key.c0, (h1 _ (by omega)).trans h.key.c1, (h1 _ (by omega)).trans h.key.c2, (h1 _ (by omega)).trans h.key.c3⟩
  kLt := h.kLt
  val := h2
  vLt := hv
/-- The journal's entry of a transient slot. -/
abbrev jeT (i v : Nat) : Array Value := #[.int .u8 8, .int .i32 (i : Nat), .int .u64 0, .int .u64 (lim v 0 : Nat), .int .u64 (lim v 1 : Nat), .int .u64 (lim v 2 : Nat), .int .u64 (lim v 3 : Nat), .slice none 0 0, .bool false]
theorem jeT_one (i v : Nat) : ∀ u ∈ (jeT i v).toList, u.oneCell' = true := fun u hu => by
  simp only [List.mem_cons, List.not_mem_nil, or_false] at hu
  rcases hu with h | h | h | h | h | h | h | h | h <;> subst h <;> rfl
theorem b219 (i v : Nat) : ∀ w, (Instr.build 227 ([(0, .int .u8 8), (1, .int .i32 (i : Nat)), (3, wv v)] : List (Nat × Value)).toArray).run Hvah.prog w = .ok (.agg (jeT i v)) w := fun w => by
  rw [run_build_gen (pl := [(0, 1), (1, 1), (2, 1), (3, 4), (7, 1), (8, 1)]) (z := #[.int .u8 0, .int .i32 0, .int .u64 0, .int .u64 0, .int .u64 0, .int .u64 0, .int .u64 0, .slice none 0 0, .bool false]) (by kernel_rfl) (by kernel_rfl) ([(0, .int .u8 8), (1, .int .i32 (i : Nat)), (3, wv v)] : List (Nat × Value)) ⟨0, 1, rfl, rfl, by decide, 1, 1, rfl, rfl, by decide, 3, 4, rfl, rfl, by decide, trivial⟩]
  rfl
section
variable {own : Nat → Nat} {w : World} {g : Nat} {c : Nat → Value} {V : EV} {a k v i : Nat}
theorem needAT_journal (V : EV) (a k : Nat) : (V.needAT a k).journal = V.journal := by
  unfold EV.needAT EV.needT
  have : (V.need a).journal = V.journal := by unfold EV.need; split <;> rfl
  split <;> exact this
set_option maxRecDepth 100000 in
set_option maxHeartbeats 6400000 in
theorem vTStore0 (HT : ∀ W, Ext w W → Calls Hvah.prog 392 #[.pointer (some ⟨g, 2435, none⟩), .agg (av a), wv k] W fun e w' => e = .returned (.tuple #[.int .i32 (V.atAT a k : Nat), .bool true]) ∧ ∃ own' c', VRep own' w' g c' (V.needAT a k) ∧ VStep own W c own' w' c') (h : VRep own w g c V) (ha : a < 2 ^ 160) (hvv : v < P256) (hJ : V.journal.length < 65536) : Calls Hvah.prog 320 #[.pointer (some ⟨g, 2435, none⟩), .agg (av a), wv k, wv v] w fun e w' => e = .returned (.bool true) ∧ ∃ own' c', VRep own' w' g c' (V.tstore a k v) ∧ VStep own w c own' w' c' := by
  have HR : ∀ W, Ext w W → Calls Hvah.prog 179 #[.pointer (some ⟨g, 2435, none⟩)] W fun e w' => e = .returned (.bool true) ∧ w' = W := fun W hW => by
    have := vRoom (h.ext hW); rw [decide_eq_true hJ] at this; exact this
  obtain ⟨hil, htp⟩ := needAT_tp h.wf a k
  have hnJ : (V.needAT a k).journal = V.journal := needAT_journal V a k
  obtain ⟨i, hi⟩ : ∃ i, Hid (V.atAT a k = i) := ⟨_, rfl⟩
  have hil : i < (V.needAT a k).temps.length := by rw [← hi.out]; exact hil
  have htp : (V.needAT a k).temps[i].val = V.tp a k := by simp only [← hi.out]; exact htp
  rw [hi.out] at HT
  go_enter Hvah.func320, Hvah.ntmps320
  go_upto_region 1 with (first | ((with_reducible (refine Veil.out ?_; apply wl_boxA)); (case hx => rfl); (case hn => exact ha); rintro B1 W1 c1 e1 b1 a1 g1) | ((with_reducible (refine Veil.out ?_; apply wl_boxW (x := Operand.tmp 2))); (case hx => rfl); rintro B2 W2 c2 e2 b2 a2 g2) | ((with_reducible (refine Veil.out ?_; apply wl_boxW (x := Operand.tmp 3))); (case hx => rfl); rintro B3 W3 c3 e3 b3 a3 g3))
  go_upto_region 6 with (first | (go_at_call 179; refine (HR _ (by (repeat (first | with_reducible exact Ext.refl _ | with_reducible assumption | refine Ext.trans ?_ (by with_reducible assumption) | refine Ext.alloc ?_ _ _ | refine Ext.drew ?_ | refine Ext.drewN ?_ _)))).mono ?_; rintro e w4 ⟨rfl, hww⟩; replace hww := hww.symm; subst hww) | (go_at_call 392; refine (HT _ (by (repeat (first | with_reducible exact Ext.refl _ | with_reducible assumption | refine Ext.trans ?_ (by with_reducible assumption) | refine Ext.alloc ?_ _ _ | refine Ext.drew ?_ | refine Ext.drewN ?_ _)))).mono ?_; rintro e w2 ⟨rfl, own1, c7, h1, s1⟩) | ((with_reducible (refine Veil.out ?_; apply wl_loadA)); (case hx => rfl); (case hB => exact b1.ext (by (repeat (first | with_reducible exact Ext.refl _ | with_reducible assumption | refine Ext.trans ?_ (by with_reducible assumption) | refine Ext.alloc ?_ _ _ | refine Ext.drew ?_ | refine Ext.drewN ?_ _)))); (case hA => exact a1); (case hs => exact ha); (case ho => decide)) | ((with_reducible (refine Veil.out ?_; apply wl_loadWB)); (case hx => rfl); (case hB => exact b2.ext (by (repeat (first | with_reducible exact Ext.refl _ | with_reducible assumption | refine Ext.trans ?_ (by with_reducible assumption) | refine Ext.alloc ?_ _ _ | refine Ext.drew ?_ | refine Ext.drewN ?_ _)))); (case hW => exact a2); (case hi => decide)))
  have hf3 : own B3 = 0 := h.fresh B3 (Nat.le_trans (Ext.size (show Ext w W2 by (repeat (first | with_reducible exact Ext.refl _ | with_reducible assumption | refine Ext.trans ?_ (by with_reducible assumption) | refine Ext.alloc ?_ _ _ | refine Ext.drew ?_ | refine Ext.drewN ?_ _)))) g3)
  have hEw3 : Ext w W3 := by (repeat (first | with_reducible exact Ext.refl _ | with_reducible assumption | refine Ext.trans ?_ (by with_reducible assumption) | refine Ext.alloc ?_ _ _ | refine Ext.drew ?_ | refine Ext.drewN ?_ _))
  have s1' := (VStep.ext (own := own) (c := c) hEw3).trans s1
  have b3' := b3.mod s1.mod (fun q => q.1.1 hf3)
  have hf3' : own1 B3 = 0 := by rw [s1.keep B3 b3.lt]; exact hf3
  have hgB3 : ¬ g = B3 := fun q => by have := h1.tag; rw [q, hf3'] at this; omega
  obtain ⟨b, cap, c5, hv2, hlc, hcm, hb, hob, hrows⟩ := GRow.at_ h1.temps (fun q => by rw [q] at hil; cases hil)
  have hob : own1 b = 5 := hob
  have hT := hrows i hil
  have hval := hT.val
  rw [htp] at hval
  have hvl := hT.vLt
  rw [htp] at hvl
  obtain ⟨m, hm⟩ : ∃ m, Hid ((V.needAT a k).temps.length = m) := ⟨_, rfl⟩
  have hnT := h1.nT
  rw [hm.out] at hv2 hil hlc hnT
  obtain ⟨N, hN⟩ : ∃ N, Hid (V.tp a k = N) := ⟨_, rfl⟩
  rw [hN.out] at hval hvl htp
  have hii : (i : Int) < m := by omega
  obtain ⟨bj, cj, hArn, hTag, hJR⟩ := h1.jrn.arn
  rw [List.length_reverse, hnJ] at hArn hTag
  obtain ⟨oj, capj, hvj⟩ : ∃ o cap, c7 10629 = .slice o V.journal.length cap := by
    rcases hArn with ⟨q1, q2⟩ | ⟨cp, q1, _⟩
    · exact ⟨none, 0, by rw [q1]; exact q2⟩
    · exact ⟨_, _, q1⟩
  obtain ⟨n, hn⟩ : ∃ n, Hid (V.journal.length = n) := ⟨_, rfl⟩
  rw [hn.out] at hvj hArn hTag hJ
  rw [hvj] at hArn hTag
  have hbg : ¬ b = g := fun q => by have := h1.tag; rw [← q, hob] at this; omega
  have KJ : ∀ W, Ext w2 W → W.cell? ⟨g, 10629, none⟩ = some (.slice oj n capj) := fun W hW => by rw [(h1.blk.ext hW).cell (i := 10629) (by omega), hvj]
  have K17 : ∀ W, Ext w2 W → W.cell? ⟨g, 27017, none⟩ = some (.slice (some ⟨b, 0, none⟩) m cap) := fun W hW => by rw [(h1.blk.ext hW).cell (i := 27017) (by omega), hv2]
  have HA : ∀ W, Ext w2 W → Arn W 227 9 (.slice oj n capj) n bj cj := fun W hW => by
    rcases hArn with q | ⟨cp, q1, q2, q3, q4⟩
    · exact Or.inl q
    · exact Or.inr ⟨cp, q1, q2, q3, q4.ext hW⟩
  refine w_ext ?_
  rintro W0 hW0
  refine wp_region_held_drew (S := fun w' => (Mod (fun x => ¬ x = b) W0 w' ∧ (w' : World).cell? ⟨g, 27017, none⟩ = some (.slice (some ⟨b, 0, none⟩) m cap))) (by kernel_rfl) ⟨(Mod.refl _ _).drew, K17 _ (by (repeat (first | with_reducible exact Ext.refl _ | with_reducible assumption | refine Ext.trans ?_ (by with_reducible assumption) | refine Ext.alloc ?_ _ _ | refine Ext.drew ?_ | refine Ext.drewN ?_ _)))⟩ (fun hHeld => ?_)
  have HH : Hid ((Mod (fun x => ¬ x = b) W0 _ ∧ (_ : World).cell? ⟨g, 27017, none⟩ = some (.slice (some ⟨b, 0, none⟩) m cap))) := hHeld
  clear hHeld
  refine wpAnyH_take (i := 0) (v := ?_) rfl (by kernel_rfl) (by kernel_rfl) (by kernel_rfl) (fun _ _ _ h => h) (Or.inl ⟨by rfl, ?_⟩) HH.out ?_
  rotate_left
  · intro w hSw; go_simp; try with_reducible rfl
  change wpAnyH _ _ _ _ _ _ _ (Act.put _ (some 23) _) _
  simp only [Act.put, List.setIfInBounds_toArray, List.set_cons_zero, List.set_cons_succ]
  refine wpAnyH_take (i := 1) (v := ?_) rfl (by kernel_rfl) (by kernel_rfl) (by kernel_rfl) (fun _ _ _ h => h) (Or.inl ⟨by rfl, ?_⟩) HH.out ?_
  rotate_left
  · intro w hSw; go_simp; try with_reducible rfl
  change wpAnyH _ _ _ _ _ _ _ (Act.put _ (some 24) _) _
  simp only [Act.put, List.setIfInBounds_toArray, List.set_cons_zero, List.set_cons_succ]
  refine wpAnyH_take (i := 2) (v := ?_) rfl (by kernel_rfl) (by kernel_rfl) (by kernel_rfl) (fun _ _ _ h => h) (Or.inl ⟨by rfl, ?_⟩) HH.out ?_
  rotate_left
  · intro w hSw; go_simp; try with_reducible rfl
  change wpAnyH _ _ _ _ _ _ _ (Act.put _ (some 25) _) _
  simp only [Act.put, List.setIfInBounds_toArray, List.set_cons_zero, List.set_cons_succ]
  refine wpAnyH_take (i := 3) (v := ?_) rfl (by kernel_rfl) (by kernel_rfl) (by kernel_rfl) (fun _ _ _ h => h) (Or.inl ⟨by rfl, ?_⟩) HH.out ?_
  rotate_left
  · intro w hSw; go_simp; try with_reducible rfl
  change wpAnyH _ _ _ _ _ _ _ (Act.put _ (some 26) _) _
  simp only [Act.put, List.setIfInBounds_toArray, List.set_cons_zero, List.set_cons_succ]
  refine wpAnyH_take (i := 5) (v := ?_) rfl (by kernel_rfl) (by kernel_rfl) (by kernel_rfl) (fun _ _ _ h => h) (Or.inl ⟨by rfl, ?_⟩) HH.out ?_
  rotate_left
  · intro w hSw; go_simp; try with_reducible rfl
  change wpAnyH _ _ _ _ _ _ _ (Act.put _ (some 28) _) _
  simp only [Act.put, List.setIfInBounds_toArray, List.set_cons_zero, List.set_cons_succ]
  refine wpAnyH_take (i := 6) (v := ?_) rfl (by kernel_rfl) (by kernel_rfl) (by kernel_rfl) (fun _ _ _ h => h) (Or.inl ⟨by rfl, ?_⟩) HH.out ?_
  rotate_left
  · intro w hSw; go_simp; try with_reducible rfl
  change wpAnyH _ _ _ _ _ _ _ (Act.put _ (some 29) _) _
  simp only [Act.put, List.setIfInBounds_toArray, List.set_cons_zero, List.set_cons_succ]
  refine wpAnyH_take (i := 7) (v := ?_) rfl (by kernel_rfl) (by kernel_rfl) (by kernel_rfl) (fun _ _ _ h => h) (Or.inl ⟨by rfl, ?_⟩) HH.out ?_
  rotate_left
  · intro w hSw; go_simp; try with_reducible rfl
  change wpAnyH _ _ _ _ _ _ _ (Act.put _ (some 30) _) _
  simp only [Act.put, List.setIfInBounds_toArray, List.set_cons_zero, List.set_cons_succ]
  refine wpAnyH_take (i := 8) (v := ?_) rfl (by kernel_rfl) (by kernel_rfl) (by kernel_rfl) (fun _ _ _ h => h) (Or.inl ⟨by rfl, ?_⟩) HH.out ?_
  rotate_left
  · intro w hSw; go_simp; try with_reducible rfl
  change wpAnyH _ _ _ _ _ _ _ (Act.put _ (some 31) _) _
  simp only [Act.put, List.setIfInBounds_toArray, List.set_cons_zero, List.set_cons_succ]
  refine wpAnyH_take (i := 9) rfl (by kernel_rfl) (by kernel_rfl) (by kernel_rfl) (fun _ _ _ h => h) (yieldsIf_load1 (by rfl) _ _ rfl _ _ rfl one82 _ (fun w hSw => hSw.2)) HH.out ?_
  change wpAnyH _ _ _ _ _ _ _ (Act.put _ (some 32) _) _
  simp only [Act.put, List.setIfInBounds_toArray, List.set_cons_zero, List.set_cons_succ]
  refine wpAnyH_take (i := 10) (v := ?_) rfl (by kernel_rfl) (by kernel_rfl) (by kernel_rfl) (fun _ _ _ h => h) (Or.inl ⟨by rfl, ?_⟩) HH.out ?_
  rotate_left
  · intro w hSw; go_simp; try with_reducible rfl
  change wpAnyH _ _ _ _ _ _ _ (Act.put _ (some 33) _) _
  simp only [Act.put, List.setIfInBounds_toArray, List.set_cons_zero, List.set_cons_succ]
  refine wpAnyH_take (i := 11) (v := ?_) rfl (by kernel_rfl) (by kernel_rfl) (by kernel_rfl) (fun _ _ _ h => h) (Or.inl ⟨by rfl, ?_⟩) HH.out ?_
  rotate_left
  · intro w hSw; go_simp; try with_reducible rfl
  change wpAnyH _ _ _ _ _ _ _ (Act.put _ (some 34) _) _
  simp only [Act.put, List.setIfInBounds_toArray, List.set_cons_zero, List.set_cons_succ]
  refine wpAnyH_take (i := 12) (v := ?_) rfl (by kernel_rfl) (by kernel_rfl) (by kernel_rfl) (fun _ _ _ h => h) (Or.inl ⟨by rfl, ?_⟩) HH.out ?_
  rotate_left
  · intro w hSw; go_simp; try with_reducible rfl
  change wpAnyH _ _ _ _ _ _ _ (Act.put _ (some 35) _) _
  simp only [Act.put, List.setIfInBounds_toArray, List.set_cons_zero, List.set_cons_succ]
  refine wpAnyH_take (i := 13) rfl (by kernel_rfl) (by kernel_rfl) (by kernel_rfl) (fun _ _ _ h => h) (yields_W (by rfl) rfl rfl (fun w hSw => (hb.ext (show Ext w2 W0 by (repeat (first | with_reducible exact Ext.refl _ | with_reducible assumption | refine Ext.trans ?_ (by with_reducible assumption) | refine Ext.alloc ?_ _ _ | refine Ext.drew ?_ | refine Ext.drewN ?_ _)))).mod hSw.1 (fun q => q rfl)) hval (by omega)) HH.out ?_
  change wpAnyH _ _ _ _ _ _ _ (Act.put _ (some 36) _) _
  simp only [Act.put, List.setIfInBounds_toArray, List.set_cons_zero, List.set_cons_succ]
  refine wpAnyH_take (i := 14) rfl (by kernel_rfl) (by kernel_rfl) (by kernel_rfl) (fun _ _ _ h => h) (yields_build (ps := [(0, .int .u8 8), (1, .int .i32 (i : Nat)), (3, wv N)]) (by rfl) rfl (b219 i N) (by simp [Act.eval])) HH.out ?_
  change wpAnyH _ _ _ _ _ _ _ (Act.put _ (some 37) _) _
  simp only [Act.put, List.setIfInBounds_toArray, List.set_cons_zero, List.set_cons_succ]
  refine wpAnyH_ready (rs := [4, 15]) (by kernel_rfl) (by simp) ?_
  refine (AllReadyH.cons rfl (fun K hK => ?_) (AllReadyH.cons rfl (fun K hK => ?_) AllReadyH.nil))
  refine step_any rfl (op_loadC rfl one80 rfl (KJ _ (by (repeat (first | with_reducible exact Ext.refl _ | with_reducible assumption | refine Ext.trans ?_ (by with_reducible assumption) | refine Ext.alloc ?_ _ _ | refine Ext.drew ?_ | refine Ext.drewN ?_ _)))) ?_)
  refine hK.out _ _ HH.out (fun hHeld => ?_)
  clear hK K HH
  have HH : Hid ((Mod (fun x => ¬ x = b) W0 _ ∧ (_ : World).cell? ⟨g, 27017, none⟩ = some (.slice (some ⟨b, 0, none⟩) m cap))) := hHeld
  clear hHeld
  change wpAnyH _ _ _ _ _ _ _ (Act.put _ (some 27) _) _
  simp only [Act.put, List.setIfInBounds_toArray, List.set_cons_zero, List.set_cons_succ]
  refine wpAnyH_ready (rs := [15]) (by kernel_rfl) (by simp) ?_
  refine AllReadyH.cons rfl (fun K hK => ?_) AllReadyH.nil
  refine step_any rfl (op_build1 227 Hvah.t227 _ 9 rfl under80 info219 zero219 size219 rfl (by decide) (by decide) (jeT i N) rfl rfl ?_)
  rintro B9 W9 e9 r9 g9
  refine hK.out _ _ ⟨HH.out.1.trans_ext e9, K17 _ (by (repeat (first | with_reducible exact Ext.refl _ | with_reducible assumption | refine Ext.trans ?_ (by with_reducible assumption) | refine Ext.alloc ?_ _ _ | refine Ext.drew ?_ | refine Ext.drewN ?_ _)))⟩ (fun hHeld => ?_)
  clear hK K HH
  have HH : Hid ((Mod (fun x => ¬ x = b) W0 _ ∧ (_ : World).cell? ⟨g, 27017, none⟩ = some (.slice (some ⟨b, 0, none⟩) m cap))) := hHeld
  clear hHeld
  change wpAnyH _ _ _ _ _ _ _ (Act.put _ (some 38) _) _
  simp only [Act.put, List.setIfInBounds_toArray, List.set_cons_zero, List.set_cons_succ]
  refine wpAnyH_ready (rs := [16]) (by kernel_rfl) (by simp) ?_
  refine AllReadyH.cons rfl (fun K hK => ?_) AllReadyH.nil
  refine step_append1 rfl _ _ 93 rfl 227 Hvah.t227 _ 9 under80 info219 zero219 size219 rfl bytes219 (.slice oj n capj) n bj cj (HA _ (by (repeat (first | with_reducible exact Ext.refl _ | with_reducible assumption | refine Ext.trans ?_ (by with_reducible assumption) | refine Ext.alloc ?_ _ _ | refine Ext.drew ?_ | refine Ext.drewN ?_ _)))) (by omega) ⟨B9, 0, none⟩ 1 (jeT i N).toList rfl r9 (jeT_one i N) rfl rfl ?_
  rintro v' W10 b' c' hG
  obtain ⟨capj', rfl⟩ := hG.some
  have hEW9 : Ext w2 W9 := by (repeat (first | with_reducible exact Ext.refl _ | with_reducible assumption | refine Ext.trans ?_ (by with_reducible assumption) | refine Ext.alloc ?_ _ _ | refine Ext.drew ?_ | refine Ext.drewN ?_ _))
  have hBoth : Blk W10 g 27024 105 c7 ∧ Mod (fun x => ¬ x = b) W9 W10 := by
    rcases hG.how with ⟨_, ⟨cp, hc⟩, hm⟩ | ⟨_, hx⟩
    · have hobj : own1 bj = 3 := hTag cp hc
      exact ⟨(h1.blk.ext hEW9).mod hm (fun e => by have h8 := h1.tag; rw [e, hobj] at h8; omega), hm.sub (fun x hx hq => by have hx2 : x = bj := hx; rw [← hx2, hq, hob] at hobj; omega)⟩
    · exact ⟨(h1.blk.ext hEW9).ext hx, hx.mod _⟩
  obtain ⟨hBg, hmB⟩ := hBoth
  refine hK.out _ _ ⟨HH.out.1.trans hmB, by rw [hBg.cell (by decide), hv2]⟩ (fun hHeld => ?_)
  clear hK K HH
  have HH : Hid ((Mod (fun x => ¬ x = b) W0 _ ∧ (_ : World).cell? ⟨g, 27017, none⟩ = some (.slice (some ⟨b, 0, none⟩) m cap))) := hHeld
  clear hHeld
  change wpAnyH _ _ _ _ _ _ _ (Act.put _ (some 39) _) _
  simp only [Act.put, List.setIfInBounds_toArray, List.set_cons_zero, List.set_cons_succ]
  refine wpAnyH_take (i := 17) (v := ?_) rfl (by kernel_rfl) (by kernel_rfl) (by kernel_rfl) (fun _ _ _ h => h) (Or.inl ⟨by rfl, ?_⟩) HH.out ?_
  rotate_left
  · intro w hSw; go_simp; try with_reducible rfl
  change wpAnyH _ _ _ _ _ _ _ (Act.put _ (some 40) _) _
  simp only [Act.put, List.setIfInBounds_toArray, List.set_cons_zero, List.set_cons_succ]
  refine wpAnyH_take (i := 18) (v := ?_) rfl (by kernel_rfl) (by kernel_rfl) (by kernel_rfl) (fun _ _ _ h => h) (Or.inl ⟨by rfl, ?_⟩) HH.out ?_
  rotate_left
  · intro w hSw; go_simp; try with_reducible rfl
  change wpAnyH _ _ _ _ _ _ _ (Act.put _ (some 41) _) _
  simp only [Act.put, List.setIfInBounds_toArray, List.set_cons_zero, List.set_cons_succ]
  refine wpAnyH_ready (rs := [19]) (by kernel_rfl) (by simp) ?_
  refine AllReadyH.cons rfl (fun K hK => ?_) AllReadyH.nil
  refine step_any rfl (op_storeS rfl one80 rfl rfl rfl hBg (by decide) ?_)
  refine hK.out _ _ ⟨HH.out.1.trans ((Mod.refl (fun x => ¬ x = b) _).setCell (Or.inl (fun q => hbg q.symm)) _), by rw [(hBg.set 10629 _).cell (by decide), updv_ne _ _ (by decide), hv2]⟩ (fun hHeld => ?_)
  clear hK K HH
  have HH : Hid ((Mod (fun x => ¬ x = b) W0 _ ∧ (_ : World).cell? ⟨g, 27017, none⟩ = some (.slice (some ⟨b, 0, none⟩) m cap))) := hHeld
  clear hHeld
  change wpAnyH _ _ _ _ _ _ _ (Act.put _ none _) _
  simp only [Act.put, List.setIfInBounds_toArray, List.set_cons_zero, List.set_cons_succ]
  refine wpAnyH_done (by kernel_rfl) ?_ _
  · obtain ⟨own2, c4, h2, s2⟩ := push_end (e := ⟨8, i, 0, N, [], false⟩) (z := jeT i N) h1 (by rw [hnJ, hn.out]; exact hJ) ⟨fun q => by simp at q, fun q => by simp at q, fun _ => by rw [hm.out]; exact hil, by simp⟩ hEW9 (by rw [hvj, hnJ, hn.out]; exact hTag) hJR (by rw [hvj, hnJ, hn.out]; exact hG)
      (fun own' w' c3 o K hnw => ⟨hnw 0 _ rfl, hnw 1 _ rfl, hnw 2 _ rfl, ⟨hnw 3 _ rfl, hnw 4 _ rfl, hnw 5 _ rfl, hnw 6 _ rfl⟩, by rw [hnw 7 _ rfl]; exact NL.nil, hnw 8 _ rfl, by show (8 : Nat) ≤ 10; decide, by show i < 16384; omega, by show (0 : Nat) < _; decide, hvl⟩)
    refine w_gen (fun X => VRep own2 X g c4 ((V.needAT a k).push ⟨8, i, 0, N, [], false⟩) ∧ VStep own1 w2 c7 own2 X c4) ⟨h2, s2⟩ ?_
    rintro X ⟨h2, s2⟩
    have b3x := b3'.mod s2.mod (fun q => q.1.1 hf3')
    have hf3x : own2 B3 = 0 := by rw [s2.keep B3 b3'.lt]; exact hf3'
    clear hG HA KJ K17 hBg hmB hb hob hbg hEW9
    have hil2 : i < ((V.needAT a k).push ⟨8, i, 0, N, [], false⟩).temps.length := by show i < (V.needAT a k).temps.length; rw [hm.out]; exact hil
    obtain ⟨b2y, cap2, c6, hv6, hlc6, hcm6, hb6, hob6, hrows6⟩ := GRow.at_ h2.temps (fun q => by rw [q] at hil2; cases hil2)
    have hob6 : own2 b2y = 5 := hob6
    have hml : ((V.needAT a k).push ⟨8, i, 0, N, [], false⟩).temps.length = m := hm.out
    have hB3b : ¬ B3 = b2y := fun q => by rw [← q, hf3x] at hob6; omega
    have hgb6 : ¬ g = b2y := fun q => by have := h2.tag; rw [q, hob6] at this; omega
    have K17b : ∀ W, Mod (fun x => x = b2y) X W → W.cell? ⟨g, 27017, none⟩ = some (.slice (some ⟨b2y, 0, none⟩) m cap2) := fun W hW => by rw [(h2.blk.mod hW hgb6).cell (i := 27017) (by omega), hv6, hml]
    have hcap6 : i * 9 + 5 + 4 ≤ cap2 * 9 := by rw [hml] at hlc6; omega
    go_upto_region 7 with (fail)
    refine w_ext ?_
    rintro W0 hW0
    refine wp_region_held_drew (S := fun w' => Mod (fun x => x = b2y) W0 w') (by kernel_rfl) (Mod.refl _ _).drew (fun hHeld => ?_)
    have HH : Hid (Mod (fun x => x = b2y) W0 _) := hHeld
    clear hHeld
    refine wpAnyH_take (i := 0) (v := ?_) rfl (by kernel_rfl) (by kernel_rfl) (by kernel_rfl) (fun _ _ _ h => h) (Or.inl ⟨by rfl, ?_⟩) HH.out ?_
    rotate_left
    · intro w hSw; go_simp; try with_reducible rfl
    change wpAnyH _ _ _ _ _ _ _ (Act.put _ (some 42) _) _
    simp only [Act.put, List.setIfInBounds_toArray, List.set_cons_zero, List.set_cons_succ]
    refine wpAnyH_take (i := 1) (v := ?_) rfl (by kernel_rfl) (by kernel_rfl) (by kernel_rfl) (fun _ _ _ h => h) (Or.inl ⟨by rfl, ?_⟩) HH.out ?_
    rotate_left
    · intro w hSw; go_simp; try with_reducible rfl
    change wpAnyH _ _ _ _ _ _ _ (Act.put _ (some 43) _) _
    simp only [Act.put, List.setIfInBounds_toArray, List.set_cons_zero, List.set_cons_succ]
    refine wpAnyH_take (i := 2) (v := ?_) rfl (by kernel_rfl) (by kernel_rfl) (by kernel_rfl) (fun _ _ _ h => h) (Or.inl ⟨by rfl, ?_⟩) HH.out ?_
    rotate_left
    · intro w hSw; go_simp; try with_reducible rfl
    change wpAnyH _ _ _ _ _ _ _ (Act.put _ (some 44) _) _
    simp only [Act.put, List.setIfInBounds_toArray, List.set_cons_zero, List.set_cons_succ]
    refine wpAnyH_take (i := 3) rfl (by kernel_rfl) (by kernel_rfl) (by kernel_rfl) (fun _ _ _ h => h) (yieldsIf_load1 (by rfl) _ _ rfl _ _ rfl one82 _ (fun w hSw => K17b _ (((show Ext X W0 by (repeat (first | with_reducible exact Ext.refl _ | with_reducible assumption | refine Ext.trans ?_ (by with_reducible assumption) | refine Ext.alloc ?_ _ _ | refine Ext.drew ?_ | refine Ext.drewN ?_ _))).mod _).trans hSw))) HH.out ?_
    change wpAnyH _ _ _ _ _ _ _ (Act.put _ (some 45) _) _
    simp only [Act.put, List.setIfInBounds_toArray, List.set_cons_zero, List.set_cons_succ]
    refine wpAnyH_take (i := 4) (v := ?_) rfl (by kernel_rfl) (by kernel_rfl) (by kernel_rfl) (fun _ _ _ h => h) (Or.inl ⟨by rfl, ?_⟩) HH.out ?_
    rotate_left
    · intro w hSw; go_simp; try with_reducible rfl
    change wpAnyH _ _ _ _ _ _ _ (Act.put _ (some 46) _) _
    simp only [Act.put, List.setIfInBounds_toArray, List.set_cons_zero, List.set_cons_succ]
    refine wpAnyH_take (i := 5) rfl (by kernel_rfl) (by kernel_rfl) (by kernel_rfl) (fun _ _ _ h => h) (yields_W (by rfl) rfl rfl (fun w hSw => (b3x.ext (show Ext X W0 by (repeat (first | with_reducible exact Ext.refl _ | with_reducible assumption | refine Ext.trans ?_ (by with_reducible assumption) | refine Ext.alloc ?_ _ _ | refine Ext.drew ?_ | refine Ext.drewN ?_ _)))).mod hSw hB3b) a3 (by decide)) HH.out ?_
    change wpAnyH _ _ _ _ _ _ _ (Act.put _ (some 47) _) _
    simp only [Act.put, List.setIfInBounds_toArray, List.set_cons_zero, List.set_cons_succ]
    refine wpAnyH_take (i := 6) (v := ?_) rfl (by kernel_rfl) (by kernel_rfl) (by kernel_rfl) (fun _ _ _ h => h) (Or.inl ⟨by rfl, ?_⟩) HH.out ?_
    rotate_left
    · intro w hSw; go_simp; try with_reducible rfl
    change wpAnyH _ _ _ _ _ _ _ (Act.put _ (some 48) _) _
    simp only [Act.put, List.setIfInBounds_toArray, List.set_cons_zero, List.set_cons_succ]
    refine wpAnyH_take (i := 7) (v := ?_) rfl (by kernel_rfl) (by kernel_rfl) (by kernel_rfl) (fun _ _ _ h => h) (Or.inl ⟨by rfl, ?_⟩) HH.out ?_
    rotate_left
    · intro w hSw; go_simp; try with_reducible rfl
    change wpAnyH _ _ _ _ _ _ _ (Act.put _ (some 49) _) _
    simp only [Act.put, List.setIfInBounds_toArray, List.set_cons_zero, List.set_cons_succ]
    refine wpAnyH_ready (rs := [8]) (by kernel_rfl) (by simp) ?_
    refine AllReadyH.cons rfl (fun K hK => ?_) AllReadyH.nil
    refine step_any rfl (op_storeWB rfl rfl rfl (hb6.ext (show Ext X _ by (repeat (first | with_reducible exact Ext.refl _ | with_reducible assumption | refine Ext.trans ?_ (by with_reducible assumption) | refine Ext.alloc ?_ _ _ | refine Ext.drew ?_ | refine Ext.drewN ?_ _)))) hcap6 ?_)
    rintro W12 c12 b12 a12 o12 m12
    have m12X : Mod (fun x => x = b2y) X W12 := ((show Ext X _ by (repeat (first | with_reducible exact Ext.refl _ | with_reducible assumption | refine Ext.trans ?_ (by with_reducible assumption) | refine Ext.alloc ?_ _ _ | refine Ext.drew ?_ | refine Ext.drewN ?_ _))).mod _).trans m12
    refine hK.out _ _ ?_ (fun hHeld => ?_)
    · exact HH.out.trans m12
    clear hK K HH
    have HH : Hid (Mod (fun x => x = b2y) W0 _) := hHeld
    clear hHeld
    change wpAnyH _ _ _ _ _ _ _ (Act.put _ none _) _
    simp only [Act.put, List.setIfInBounds_toArray, List.set_cons_zero, List.set_cons_succ]
    refine wpAnyH_done (by kernel_rfl) ?_ _
    go_wp2
    go_ret
    have hfin := modT_end (v := v) (i := i) h2 hv6 hlc6 hcm6 hob6 hil2 hrows6 (b12) (fun j hj => o12 j (by omega)) (m12X) (temp_val (hrows6 i hil2) o12 a12 hvv)
    refine ⟨rfl, own2, c4, ?_, s1'.trans (s2.trans hfin.2)⟩
    have hV : V.tstore a k v = ((V.needAT a k).push ⟨8, i, 0, N, [], false⟩).modT i (fun x => { x with val := v }) := by
      unfold EV.tstore
      rw [hi.out, hN.out]; rfl
    rw [hV]
    exact hfin.1
  
  refine step_any rfl (op_build1 227 Hvah.t227 _ 9 rfl under80 info219 zero219 size219 rfl (by decide) (by decide) (jeT i N) rfl rfl ?_)
  rintro B9 W9 e9 r9 g9
  refine hK.out _ _ ⟨HH.out.1.trans_ext e9, K17 _ (by (repeat (first | with_reducible exact Ext.refl _ | with_reducible assumption | refine Ext.trans ?_ (by with_reducible assumption) | refine Ext.alloc ?_ _ _ | refine Ext.drew ?_ | refine Ext.drewN ?_ _)))⟩ (fun hHeld => ?_)
  clear hK K HH
  have HH : Hid ((Mod (fun x => ¬ x = b) W0 _ ∧ (_ : World).cell? ⟨g, 27017, none⟩ = some (.slice (some ⟨b, 0, none⟩) m cap))) := hHeld
  clear hHeld
  change wpAnyH _ _ _ _ _ _ _ (Act.put _ (some 38) _) _
  simp only [Act.put, List.setIfInBounds_toArray, List.set_cons_zero, List.set_cons_succ]
  refine wpAnyH_ready (rs := [4]) (by kernel_rfl) (by simp) ?_
  refine AllReadyH.cons rfl (fun K hK => ?_) AllReadyH.nil
  refine step_any rfl (op_loadC rfl one80 rfl (KJ _ (by (repeat (first | with_reducible exact Ext.refl _ | with_reducible assumption | refine Ext.trans ?_ (by with_reducible assumption) | refine Ext.alloc ?_ _ _ | refine Ext.drew ?_ | refine Ext.drewN ?_ _)))) ?_)
  refine hK.out _ _ HH.out (fun hHeld => ?_)
  clear hK K HH
  have HH : Hid ((Mod (fun x => ¬ x = b) W0 _ ∧ (_ : World).cell? ⟨g, 27017, none⟩ = some (.slice (some ⟨b, 0, none⟩) m cap))) := hHeld
  clear hHeld
  change wpAnyH _ _ _ _ _ _ _ (Act.put _ (some 27) _) _
  simp only [Act.put, List.setIfInBounds_toArray, List.set_cons_zero, List.set_cons_succ]
  refine wpAnyH_ready (rs := [16]) (by kernel_rfl) (by simp) ?_
  refine AllReadyH.cons rfl (fun K hK => ?_) AllReadyH.nil
  refine step_append1 rfl _ _ 93 rfl 227 Hvah.t227 _ 9 under80 info219 zero219 size219 rfl bytes219 (.slice oj n capj) n bj cj (HA _ (by (repeat (first | with_reducible exact Ext.refl _ | with_reducible assumption | refine Ext.trans ?_ (by with_reducible assumption) | refine Ext.alloc ?_ _ _ | refine Ext.drew ?_ | refine Ext.drewN ?_ _)))) (by omega) ⟨B9, 0, none⟩ 1 (jeT i N).toList rfl r9 (jeT_one i N) rfl rfl ?_
  rintro v' W10 b' c' hG
  obtain ⟨capj', rfl⟩ := hG.some
  have hEW9 : Ext w2 W9 := by (repeat (first | with_reducible exact Ext.refl _ | with_reducible assumption | refine Ext.trans ?_ (by with_reducible assumption) | refine Ext.alloc ?_ _ _ | refine Ext.drew ?_ | refine Ext.drewN ?_ _))
  have hBoth : Blk W10 g 27024 105 c7 ∧ Mod (fun x => ¬ x = b) W9 W10 := by
    rcases hG.how with ⟨_, ⟨cp, hc⟩, hm⟩ | ⟨_, hx⟩
    · have hobj : own1 bj = 3 := hTag cp hc
      exact ⟨(h1.blk.ext hEW9).mod hm (fun e => by have h8 := h1.tag; rw [e, hobj] at h8; omega), hm.sub (fun x hx hq => by have hx2 : x = bj := hx; rw [← hx2, hq, hob] at hobj; omega)⟩
    · exact ⟨(h1.blk.ext hEW9).ext hx, hx.mod _⟩
  obtain ⟨hBg, hmB⟩ := hBoth
  refine hK.out _ _ ⟨HH.out.1.trans hmB, by rw [hBg.cell (by decide), hv2]⟩ (fun hHeld => ?_)
  clear hK K HH
  have HH : Hid ((Mod (fun x => ¬ x = b) W0 _ ∧ (_ : World).cell? ⟨g, 27017, none⟩ = some (.slice (some ⟨b, 0, none⟩) m cap))) := hHeld
  clear hHeld
  change wpAnyH _ _ _ _ _ _ _ (Act.put _ (some 39) _) _
  simp only [Act.put, List.setIfInBounds_toArray, List.set_cons_zero, List.set_cons_succ]
  refine wpAnyH_take (i := 17) (v := ?_) rfl (by kernel_rfl) (by kernel_rfl) (by kernel_rfl) (fun _ _ _ h => h) (Or.inl ⟨by rfl, ?_⟩) HH.out ?_
  rotate_left
  · intro w hSw; go_simp; try with_reducible rfl
  change wpAnyH _ _ _ _ _ _ _ (Act.put _ (some 40) _) _
  simp only [Act.put, List.setIfInBounds_toArray, List.set_cons_zero, List.set_cons_succ]
  refine wpAnyH_take (i := 18) (v := ?_) rfl (by kernel_rfl) (by kernel_rfl) (by kernel_rfl) (fun _ _ _ h => h) (Or.inl ⟨by rfl, ?_⟩) HH.out ?_
  rotate_left
  · intro w hSw; go_simp; try with_reducible rfl
  change wpAnyH _ _ _ _ _ _ _ (Act.put _ (some 41) _) _
  simp only [Act.put, List.setIfInBounds_toArray, List.set_cons_zero, List.set_cons_succ]
  refine wpAnyH_ready (rs := [19]) (by kernel_rfl) (by simp) ?_
  refine AllReadyH.cons rfl (fun K hK => ?_) AllReadyH.nil
  refine step_any rfl (op_storeS rfl one80 rfl rfl rfl hBg (by decide) ?_)
  refine hK.out _ _ ⟨HH.out.1.trans ((Mod.refl (fun x => ¬ x = b) _).setCell (Or.inl (fun q => hbg q.symm)) _), by rw [(hBg.set 10629 _).cell (by decide), updv_ne _ _ (by decide), hv2]⟩ (fun hHeld => ?_)
  clear hK K HH
  have HH : Hid ((Mod (fun x => ¬ x = b) W0 _ ∧ (_ : World).cell? ⟨g, 27017, none⟩ = some (.slice (some ⟨b, 0, none⟩) m cap))) := hHeld
  clear hHeld
  change wpAnyH _ _ _ _ _ _ _ (Act.put _ none _) _
  simp only [Act.put, List.setIfInBounds_toArray, List.set_cons_zero, List.set_cons_succ]
  refine wpAnyH_done (by kernel_rfl) ?_ _
  · obtain ⟨own2, c4, h2, s2⟩ := push_end (e := ⟨8, i, 0, N, [], false⟩) (z := jeT i N) h1 (by rw [hnJ, hn.out]; exact hJ) ⟨fun q => by simp at q, fun q => by simp at q, fun _ => by rw [hm.out]; exact hil, by simp⟩ hEW9 (by rw [hvj, hnJ, hn.out]; exact hTag) hJR (by rw [hvj, hnJ, hn.out]; exact hG)
      (fun own' w' c3 o K hnw => ⟨hnw 0 _ rfl, hnw 1 _ rfl, hnw 2 _ rfl, ⟨hnw 3 _ rfl, hnw 4 _ rfl, hnw 5 _ rfl, hnw 6 _ rfl⟩, by rw [hnw 7 _ rfl]; exact NL.nil, hnw 8 _ rfl, by show (8 : Nat) ≤ 10; decide, by show i < 16384; omega, by show (0 : Nat) < _; decide, hvl⟩)
    refine w_gen (fun X => VRep own2 X g c4 ((V.needAT a k).push ⟨8, i, 0, N, [], false⟩) ∧ VStep own1 w2 c7 own2 X c4) ⟨h2, s2⟩ ?_
    rintro X ⟨h2, s2⟩
    have b3x := b3'.mod s2.mod (fun q => q.1.1 hf3')
    have hf3x : own2 B3 = 0 := by rw [s2.keep B3 b3'.lt]; exact hf3'
    clear hG HA KJ K17 hBg hmB hb hob hbg hEW9
    have hil2 : i < ((V.needAT a k).push ⟨8, i, 0, N, [], false⟩).temps.length := by show i < (V.needAT a k).temps.length; rw [hm.out]; exact hil
    obtain ⟨b2y, cap2, c6, hv6, hlc6, hcm6, hb6, hob6, hrows6⟩ := GRow.at_ h2.temps (fun q => by rw [q] at hil2; cases hil2)
    have hob6 : own2 b2y = 5 := hob6
    have hml : ((V.needAT a k).push ⟨8, i, 0, N, [], false⟩).temps.length = m := hm.out
    have hB3b : ¬ B3 = b2y := fun q => by rw [← q, hf3x] at hob6; omega
    have hgb6 : ¬ g = b2y := fun q => by have := h2.tag; rw [q, hob6] at this; omega
    have K17b : ∀ W, Mod (fun x => x = b2y) X W → W.cell? ⟨g, 27017, none⟩ = some (.slice (some ⟨b2y, 0, none⟩) m cap2) := fun W hW => by rw [(h2.blk.mod hW hgb6).cell (i := 27017) (by omega), hv6, hml]
    have hcap6 : i * 9 + 5 + 4 ≤ cap2 * 9 := by rw [hml] at hlc6; omega
    go_upto_region 7 with (fail)
    refine w_ext ?_
    rintro W0 hW0
    refine wp_region_held_drew (S := fun w' => Mod (fun x => x = b2y) W0 w') (by kernel_rfl) (Mod.refl _ _).drew (fun hHeld => ?_)
    have HH : Hid (Mod (fun x => x = b2y) W0 _) := hHeld
    clear hHeld
    refine wpAnyH_take (i := 0) (v := ?_) rfl (by kernel_rfl) (by kernel_rfl) (by kernel_rfl) (fun _ _ _ h => h) (Or.inl ⟨by rfl, ?_⟩) HH.out ?_
    rotate_left
    · intro w hSw; go_simp; try with_reducible rfl
    change wpAnyH _ _ _ _ _ _ _ (Act.put _ (some 42) _) _
    simp only [Act.put, List.setIfInBounds_toArray, List.set_cons_zero, List.set_cons_succ]
    refine wpAnyH_take (i := 1) (v := ?_) rfl (by kernel_rfl) (by kernel_rfl) (by kernel_rfl) (fun _ _ _ h => h) (Or.inl ⟨by rfl, ?_⟩) HH.out ?_
    rotate_left
    · intro w hSw; go_simp; try with_reducible rfl
    change wpAnyH _ _ _ _ _ _ _ (Act.put _ (some 43) _) _
    simp only [Act.put, List.setIfInBounds_toArray, List.set_cons_zero, List.set_cons_succ]
    refine wpAnyH_take (i := 2) (v := ?_) rfl (by kernel_rfl) (by kernel_rfl) (by kernel_rfl) (fun _ _ _ h => h) (Or.inl ⟨by rfl, ?_⟩) HH.out ?_
    rotate_left
    · intro w hSw; go_simp; try with_reducible rfl
    change wpAnyH _ _ _ _ _ _ _ (Act.put _ (some 44) _) _
    simp only [Act.put, List.setIfInBounds_toArray, List.set_cons_zero, List.set_cons_succ]
    refine wpAnyH_take (i := 3) rfl (by kernel_rfl) (by kernel_rfl) (by kernel_rfl) (fun _ _ _ h => h) (yieldsIf_load1 (by rfl) _ _ rfl _ _ rfl one82 _ (fun w hSw => K17b _ (((show Ext X W0 by (repeat (first | with_reducible exact Ext.refl _ | with_reducible assumption | refine Ext.trans ?_ (by with_reducible assumption) | refine Ext.alloc ?_ _ _ | refine Ext.drew ?_ | refine Ext.drewN ?_ _))).mod _).trans hSw))) HH.out ?_
    change wpAnyH _ _ _ _ _ _ _ (Act.put _ (some 45) _) _
    simp only [Act.put, List.setIfInBounds_toArray, List.set_cons_zero, List.set_cons_succ]
    refine wpAnyH_take (i := 4) (v := ?_) rfl (by kernel_rfl) (by kernel_rfl) (by kernel_rfl) (fun _ _ _ h => h) (Or.inl ⟨by rfl, ?_⟩) HH.out ?_
    rotate_left
    · intro w hSw; go_simp; try with_reducible rfl
    change wpAnyH _ _ _ _ _ _ _ (Act.put _ (some 46) _) _
    simp only [Act.put, List.setIfInBounds_toArray, List.set_cons_zero, List.set_cons_succ]
    refine wpAnyH_take (i := 5) rfl (by kernel_rfl) (by kernel_rfl) (by kernel_rfl) (fun _ _ _ h => h) (yields_W (by rfl) rfl rfl (fun w hSw => (b3x.ext (show Ext X W0 by (repeat (first | with_reducible exact Ext.refl _ | with_reducible assumption | refine Ext.trans ?_ (by with_reducible assumption) | refine Ext.alloc ?_ _ _ | refine Ext.drew ?_ | refine Ext.drewN ?_ _)))).mod hSw hB3b) a3 (by decide)) HH.out ?_
    change wpAnyH _ _ _ _ _ _ _ (Act.put _ (some 47) _) _
    simp only [Act.put, List.setIfInBounds_toArray, List.set_cons_zero, List.set_cons_succ]
    refine wpAnyH_take (i := 6) (v := ?_) rfl (by kernel_rfl) (by kernel_rfl) (by kernel_rfl) (fun _ _ _ h => h) (Or.inl ⟨by rfl, ?_⟩) HH.out ?_
    rotate_left
    · intro w hSw; go_simp; try with_reducible rfl
    change wpAnyH _ _ _ _ _ _ _ (Act.put _ (some 48) _) _
    simp only [Act.put, List.setIfInBounds_toArray, List.set_cons_zero, List.set_cons_succ]
    refine wpAnyH_take (i := 7) (v := ?_) rfl (by kernel_rfl) (by kernel_rfl) (by kernel_rfl) (fun _ _ _ h => h) (Or.inl ⟨by rfl, ?_⟩) HH.out ?_
    rotate_left
    · intro w hSw; go_simp; try with_reducible rfl
    change wpAnyH _ _ _ _ _ _ _ (Act.put _ (some 49) _) _
    simp only [Act.put, List.setIfInBounds_toArray, List.set_cons_zero, List.set_cons_succ]
    refine wpAnyH_ready (rs := [8]) (by kernel_rfl) (by simp) ?_
    refine AllReadyH.cons rfl (fun K hK => ?_) AllReadyH.nil
    refine step_any rfl (op_storeWB rfl rfl rfl (hb6.ext (show Ext X _ by (repeat (first | with_reducible exact Ext.refl _ | with_reducible assumption | refine Ext.trans ?_ (by with_reducible assumption) | refine Ext.alloc ?_ _ _ | refine Ext.drew ?_ | refine Ext.drewN ?_ _)))) hcap6 ?_)
    rintro W12 c12 b12 a12 o12 m12
    have m12X : Mod (fun x => x = b2y) X W12 := ((show Ext X _ by (repeat (first | with_reducible exact Ext.refl _ | with_reducible assumption | refine Ext.trans ?_ (by with_reducible assumption) | refine Ext.alloc ?_ _ _ | refine Ext.drew ?_ | refine Ext.drewN ?_ _))).mod _).trans m12
    refine hK.out _ _ ?_ (fun hHeld => ?_)
    · exact HH.out.trans m12
    clear hK K HH
    have HH : Hid (Mod (fun x => x = b2y) W0 _) := hHeld
    clear hHeld
    change wpAnyH _ _ _ _ _ _ _ (Act.put _ none _) _
    simp only [Act.put, List.setIfInBounds_toArray, List.set_cons_zero, List.set_cons_succ]
    refine wpAnyH_done (by kernel_rfl) ?_ _
    go_wp2
    go_ret
    have hfin := modT_end (v := v) (i := i) h2 hv6 hlc6 hcm6 hob6 hil2 hrows6 (b12) (fun j hj => o12 j (by omega)) (m12X) (temp_val (hrows6 i hil2) o12 a12 hvv)
    refine ⟨rfl, own2, c4, ?_, s1'.trans (s2.trans hfin.2)⟩
    have hV : V.tstore a k v = ((V.needAT a k).push ⟨8, i, 0, N, [], false⟩).modT i (fun x => { x with val := v }) := by
      unfold EV.tstore
      rw [hi.out, hN.out]; rfl
    rw [hV]
    exact hfin.1
  
end
end Go.Proofs.YgvahwGreat
