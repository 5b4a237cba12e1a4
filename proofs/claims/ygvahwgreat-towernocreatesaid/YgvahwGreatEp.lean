import Derived.Test.YgvahwGreatEa
import Derived.Test.YgvahwGreatVg
import Derived.Test.YgvahwGreatLb
import Derived.Test.YgvahwGreatMm
import Derived.Test.YgvahwGreatOc
import Derived.Test.YgvahwGreatAp0
import Derived.Test.YgvahwGreatQd0
import Derived.Test.YgvahwGreatNx1
import Derived.Test.YgvahwGreatYr
namespace Go.Proofs.YgvahwGreat
open Go.RowKit
set_option linter.unusedSimpArgs false
theorem oneP5 : OneT 5 := oneT_of (by kernel_rfl) (by kernel_rfl)
theorem oneP26 : OneT 24 := oneT_of (by kernel_rfl) (by kernel_rfl)
theorem oneP32 : OneT 23 := oneT_of (by kernel_rfl) (by kernel_rfl)
theorem oneP60 : OneT 73 := oneT_of (by kernel_rfl) (by kernel_rfl)
theorem rtP46 : RowT 51 25 := rowT_of (by kernel_rfl) (by kernel_rfl)
theorem b66s {x : Nat} (hx : x < 18446744073709551616) : ∀ w, (Instr.build 79 ([(0, .int .u64 (x : Nat))] : List (Nat × Value)).toArray).run Hvah.prog w = .ok (wv x) w := fun w => by
  rw [wv_small hx]
  kernel_rfl
theorem z46one : ∀ i, i < 25 → (cf z46a i).oneCell' = true := fun i hi => by
  rcases (show i = 0 ∨ i = 1 ∨ i = 2 ∨ i = 3 ∨ i = 4 ∨ i = 5 ∨ i = 6 ∨ i = 7 ∨ i = 8 ∨ i = 9 ∨ i = 10 ∨ i = 11 ∨ i = 12 ∨ i = 13 ∨ i = 14 ∨ i = 15 ∨ i = 16 ∨ i = 17 ∨ i = 18 ∨ i = 19 ∨ i = 20 ∨ i = 21 ∨ i = 22 ∨ i = 23 ∨ i = 24 by omega) with rfl | rfl | rfl | rfl | rfl | rfl | rfl | rfl | rfl | rfl | rfl | rfl | rfl | rfl | rfl | rfl | rfl | rfl | rfl | rfl | rfl | rfl | rfl | rfl | rfl <;> rfl
/-- The receipt's row as pay builds it. -/
def payR (s u9 : Nat) (u v : Value) : Array Value := bld z46a (partsA [(0, 1), (1, 1), (2, 1), (3, 1), (4, 1), (5, 20)] [(1, .int .u8 (s : Nat)), (2, .int .u64 (u9 : Nat)), (3, u), (4, v)])
theorem payR_run {s u9 : Nat} {u v : Value} (hu : u.oneCell' = true) (hv : v.oneCell' = true) : ∀ w, (Instr.build 51 ([(1, .int .u8 (s : Nat)), (2, .int .u64 (u9 : Nat)), (3, u), (4, v)] : List (Nat × Value)).toArray).run Hvah.prog w = .ok (.agg (payR s u9 u v)) w := fun w =>
  run_build_gen (pl := [(0, 1), (1, 1), (2, 1), (3, 1), (4, 1), (5, 20)]) (z := z46a) (by kernel_rfl) z46 [(1, .int .u8 (s : Nat)), (2, .int .u64 (u9 : Nat)), (3, u), (4, v)] ⟨1, 1, rfl, rfl, by decide, 2, 1, rfl, rfl, by decide, 3, 1, rfl, by rw [one_cells hu]; rfl, by decide, 4, 1, rfl, by rw [one_cells hv]; rfl, by decide, trivial⟩ w
theorem payR_size {s u9 : Nat} {u v : Value} : (payR s u9 u v).size = 25 := by unfold payR; rw [bld_size]; rfl
theorem payR_cf {s u9 : Nat} {u v : Value} (hu : u.oneCell' = true) (hv : v.oneCell' = true) (i : Nat) (hi : i < 25) : cf (payR s u9 u v) i = updv (updv (updv (updv (cf z46a) 1 (.int .u8 (s : Nat))) 2 (.int .u64 (u9 : Nat))) 3 u) 4 v i := by
  unfold payR
  rw [bld_get _ _ _ (by rw [z46s]; exact hi)]
  simp only [partsA, List.map_cons, List.map_nil, List.getD_cons_zero, List.getD_cons_succ, bldc, one_cells hu, one_cells hv, one_cells (v := .int .u8 (s : Nat)) rfl, one_cells (v := .int .u64 (u9 : Nat)) rfl, layv_one, one_agg]
theorem payR_ones {s u9 : Nat} {u v : Value} (hu : u.oneCell' = true) (hv : v.oneCell' = true) : Ones (payR s u9 u v) := ones_of (fun i hi => by
  rw [payR_size] at hi
  rw [payR_cf hu hv i hi]
  by_cases q4 : i = 4
  · subst q4; rw [updv_same]; exact hv
  by_cases q3 : i = 3
  · subst q3; rw [updv_ne _ _ (by decide), updv_same]; exact hu
  by_cases q2 : i = 2
  · subst q2; rw [updv_ne _ _ (by decide), updv_ne _ _ (by decide), updv_same]; rfl
  by_cases q1 : i = 1
  · subst q1; rw [updv_ne _ _ (by decide), updv_ne _ _ (by decide), updv_ne _ _ (by decide), updv_same]; rfl
  rw [updv_ne _ _ q4, updv_ne _ _ q3, updv_ne _ _ q2, updv_ne _ _ q1]
  exact z46one i hi)
/-- One block more is put aside. -/
def ow (own : Nat → Nat) (B : Nat) : Nat → Nat := fun b => if b = B then 7 else own b
theorem ow_same (own : Nat → Nat) (B : Nat) : ow own B B = 7 := if_pos rfl
theorem ow_ne {own : Nat → Nat} {B b : Nat} (h : b ≠ B) : ow own B b = own b := if_neg h
theorem ow_apart {own : Nat → Nat} {B : Nat} : ∀ b, ¬ Mu (ow own B) b → ¬ b = B := fun b hb q => hb (by rw [q]; show ow own B B ≠ 0; rw [ow_same]; decide)
theorem ow_mu {own : Nat → Nat} {B b : Nat} (h : b ≠ B) (q : Mu (ow own B) b) : Mu own b := by
  have q2 : ow own B b ≠ 0 := q
  rw [ow_ne h] at q2
  exact q2
theorem MRep.reserveD {own : Nat → Nat} {w w' : World} {g : Nat} {c : Nat → Value} {V : EV} {st : ASt} {sn stale : List Nat} {B : Nat} (h : MRep own w g c V st sn stale) (e : Ext w w') (hB : w.heap.size ≤ B) (hl : B < w'.heap.size) : MRep (ow own B) w' g c V st sn stale := by
  obtain ⟨o7, h1, _, h3, h4⟩ := h.reserve e hB hl
  have : o7 = ow own B := funext (fun b => by
    by_cases q : b = B
    · rw [q, h1, ow_same]
    · rw [h3 b q, ow_ne q])
  rw [← this]
  exact h4
theorem zero_made {d : Nat → Value} (h : ∀ j, j < 20 → d (5 + j) = .int .u8 0) : AAt d 5 0 := fun i v hv => by
  have hi := (Array.getElem?_eq_some_iff.1 hv).1
  have hs : (av 0).size = 20 := av_size (by decide)
  rw [hs] at hi
  rw [h i hi]
  have e : (av 0)[i]? = some (.int .u8 0) := by
    rcases (show i = 0 ∨ i = 1 ∨ i = 2 ∨ i = 3 ∨ i = 4 ∨ i = 5 ∨ i = 6 ∨ i = 7 ∨ i = 8 ∨ i = 9 ∨ i = 10 ∨ i = 11 ∨ i = 12 ∨ i = 13 ∨ i = 14 ∨ i = 15 ∨ i = 16 ∨ i = 17 ∨ i = 18 ∨ i = 19 by omega) with rfl | rfl | rfl | rfl | rfl | rfl | rfl | rfl | rfl | rfl | rfl | rfl | rfl | rfl | rfl | rfl | rfl | rfl | rfl | rfl <;> rfl
  rw [e] at hv
  injection hv
theorem joinP {P Fc : Nat → World → Value → Value → Prop} {G : Prop} (h : (∀ B W u v, Fc B W u v → P B W u v) → G) (k : ∀ B W u v, Fc B W u v → P B W u v) : G := h k
section
variable {own : Nat → Nat} {w : World} {g : Nat} {c : Nat → Value} {V : EV} {st : ASt} {stale : List Nat}
set_option maxRecDepth 100000 in
set_option maxHeartbeats 6400000 in
theorem ePay (h : MRep own w g c V st [] stale) (hf : st.frames = []) (hph : st.phase = 2) (hle : st.left ≤ st.limit) (hlim : st.limit ≤ 1048576) (hbf : st.env.baseFee ≤ st.price) (hr : Room V 2) (hrf : st.now.refund < 18446744073709551616) (ho1 : st.now.bal st.origin + (st.limit - st.used) * st.price < P256) (ho2 : (st.now.setBal st.origin (st.now.bal st.origin + (st.limit - st.used) * st.price)).bal st.env.coinbase + st.used * (st.price - st.env.baseFee) < P256) (hfew : ∀ x ∈ st.now.logs, x.topics.length ≤ 4) (_hst : st.status < 256) : Calls Hvah.prog 47 #[.pointer (some ⟨g, 0, none⟩)] w fun e w' => ∃ q, e = .returned (.agg q) ∧ q.size = 25 ∧ Ones q ∧ ∃ own' c', MRep own' w' g c' ((V.putBal st.origin (st.now.bal st.origin + (st.limit - st.used) * st.price)).putBal st.env.coinbase ((st.now.setBal st.origin (st.now.bal st.origin + (st.limit - st.used) * st.price)).bal st.env.coinbase + st.used * (st.price - st.env.baseFee))) { st with now := st.paid } [] stale ∧ MStep own w own' w' ∧ RecC (Mu own') w' (cf q) st.receipt := by
  have hm := h.m
  have hpr := hm.price
  have hprl := hm.pLt
  have hen := hm.env
  obtain ⟨bt, hbt⟩ : ∃ z, Hid (st.limit - st.left = z) := ⟨_, rfl⟩
  obtain ⟨us, hus⟩ : ∃ z, Hid (st.used = z) := ⟨_, rfl⟩
  obtain ⟨q5, hq5⟩ : ∃ z, Hid (bt / 5 = z) := ⟨_, rfl⟩
  obtain ⟨mn, hmn⟩ : ∃ z, Hid (min st.now.refund q5 = z) := ⟨_, rfl⟩
  obtain ⟨lu, hlu⟩ : ∃ z, Hid (st.limit - us = z) := ⟨_, rfl⟩
  have hbt2 := hbt.out
  have hq52 := hq5.out
  have hmn2 := hmn.out
  have hlu2 := hlu.out
  have husE : us = bt - mn := by rw [← hus.out, ← hmn2, ← hq52, ← hbt2]; rfl
  have kleft := hm.left hf hph
  have w1 : IntKind.u64.wrap ((st.limit : Int) - (st.left : Int)) = (bt : Int) := by rw [IntKind.wrap_u64]; omega
  have w2 : (bt : Int) / 5 = (q5 : Int) := by omega
  have w2' : (bt : Int).tdiv 5 = (q5 : Int) := by rw [Int.tdiv_eq_ediv_of_nonneg (by omega)]; omega
  have w3 : IntKind.u64.wrap (q5 : Int) = (q5 : Int) := by rw [IntKind.wrap_u64]; omega
  have w4 : min (st.now.refund : Int) (q5 : Int) = (mn : Int) := by omega
  have w5 : IntKind.u64.wrap ((bt : Int) - (mn : Int)) = (us : Int) := by rw [IntKind.wrap_u64]; omega
  have w6 : IntKind.u64.wrap ((st.limit : Int) - (us : Int)) = (lu : Int) := by rw [IntKind.wrap_u64]; omega
  have husl : us < 18446744073709551616 := by omega
  have hlul : lu < 18446744073709551616 := by omega
  have h256 : (18446744073709551616 : Nat) ≤ P256 := by rw [P256_eq]; decide
  have husp : us < P256 := by omega
  have hlup : lu < P256 := by omega
  obtain ⟨pd, hpd⟩ : ∃ z, Hid (st.price - st.env.baseFee = z) := ⟨_, rfl⟩
  obtain ⟨bk, hbk⟩ : ∃ z, Hid (lu * st.price = z) := ⟨_, rfl⟩
  obtain ⟨fe, hfe⟩ : ∃ z, Hid (us * pd = z) := ⟨_, rfl⟩
  rw [hus.out, hlu2, hbk.out] at ho1
  rw [hus.out, hlu2, hbk.out, hpd.out, hfe.out] at ho2
  have hbkl : bk < P256 := by omega
  have hfel : fe < P256 := by omega
  have hpdl : pd < P256 := by rw [← hpd.out]; omega
  have HM1 : ∀ W, Calls Hvah.prog 104 #[wv lu, wv st.price] W fun e w' => e = .returned (wv bk) ∧ Ext W w' := fun W => by
    have q := uMul lu st.price W hlup hprl
    rw [hbk.out, Nat.mod_eq_of_lt hbkl] at q
    exact q
  have HS1 : ∀ W, Calls Hvah.prog 107 #[wv st.price, wv st.env.baseFee] W fun e w' => e = .returned (wv pd) ∧ Ext W w' := fun W => by
    have q := uSub st.price st.env.baseFee W hprl hen.bLt
    rw [show (st.price + P256 - st.env.baseFee) % P256 = pd by rw [show st.price + P256 - st.env.baseFee = (st.price - st.env.baseFee) + P256 by omega, Nat.add_mod_right, hpd.out]; exact Nat.mod_eq_of_lt hpdl] at q
    exact q
  have HM2 : ∀ W, Calls Hvah.prog 104 #[wv us, wv pd] W fun e w' => e = .returned (wv fe) ∧ Ext W w' := fun W => by
    have q := uMul us pd W husp hpdl
    rw [hfe.out, Nat.mod_eq_of_lt hfel] at q
    exact q
  have HL1 : ∀ W, Calls Hvah.prog 121 #[wv st.price, wv st.env.baseFee] W fun e w' => e = .returned (.bool false) ∧ Ext W w' := fun W => by
    have q := uLt st.price st.env.baseFee W hprl hen.bLt
    rw [show decide (st.price < st.env.baseFee) = false by simp; omega] at q
    exact q
  have HFB := fun W => uFromB hen.bLt W
  have eref : V.ref = st.now.refund := congrArg AW.refund h.abs
  have hja := hr.j
  have haa := hr.a
  have zs1 : ¬ ((2558 : Int) < (V.accts.length : Int)) := by omega
  have zs2 : ¬ ((65534 : Int) < (V.journal.length : Int)) := by omega
  have zs1' : ¬ (((V.accts.length : Nat) : Int) > 2558) := by omega
  have zg : ¬ ((st.limit : Int) < (st.left : Int)) := by omega
  have zgd : decide ((st.limit : Int) < (st.left : Int)) = false := decide_eq_false zg
  clear hbt2 hq52 hmn2 hlu2 husE
  go_enter Hvah.func47, Hvah.ntmps47
  go_upto_region 1 with ((with_reducible (refine Veil.out ?_; apply wl_allocB z46)); (case hn => exact z46s); rintro B2 W0a e0a b2 g2)
  have hbuf := h.bufOld g2
  obtain ⟨own7, o7B, o7k, o7n, h7⟩ := h.reserve e0a g2 b2.lt
  have s0 : MStep own w own7 W0a := ⟨o7k, e0a.mod _⟩
  have HSz := fun W (hW : Ext W0a W) => vSizes (h7.ext hW).v
  have HRf := fun W (hW : Ext W0a W) => vRefund (h7.ext hW).v
  rw [eref] at HRf
  have hg2 : ¬ B2 = g := fun q => by have := h.v.blk.lt; omega
  have hE0 : Ext W0a W0a := Ext.refl _
  refine w_ext ?_
  rintro W0 hW0
  refine wp_region_held_drew (S := fun w' => Ext W0 w') (by kernel_rfl) (Ext.refl _).drew (fun hHeld => ?_)
  have HH : Hid (Ext W0 _) := hHeld
  clear hHeld
  refine wpAnyH_take (i := 0) (v := ?_) rfl (by kernel_rfl) (by kernel_rfl) (by kernel_rfl) (fun _ _ _ h => h) (Or.inl ⟨by rfl, ?_⟩) HH.out ?_
  rotate_left
  · intro w hSw; go_simp; try with_reducible rfl
  change wpAnyH _ _ _ _ _ _ _ (Act.put _ (some 12) _) _
  simp only [Act.put, List.setIfInBounds_toArray, List.set_cons_zero, List.set_cons_succ]
  refine wpAnyH_take (i := 1) (v := ?_) rfl (by kernel_rfl) (by kernel_rfl) (by kernel_rfl) (fun _ _ _ h => h) (Or.inl ⟨by rfl, ?_⟩) HH.out ?_
  rotate_left
  · intro w hSw; go_simp; try with_reducible rfl
  change wpAnyH _ _ _ _ _ _ _ (Act.put _ (some 13) _) _
  simp only [Act.put, List.setIfInBounds_toArray, List.set_cons_zero, List.set_cons_succ]
  refine wpAnyH_take (i := 2) (v := ?_) rfl (by kernel_rfl) (by kernel_rfl) (by kernel_rfl) (fun _ _ _ h => h) (Or.inl ⟨by rfl, ?_⟩) HH.out ?_
  rotate_left
  · intro w hSw; go_simp; try with_reducible rfl
  change wpAnyH _ _ _ _ _ _ _ (Act.put _ (some 14) _) _
  simp only [Act.put, List.setIfInBounds_toArray, List.set_cons_zero, List.set_cons_succ]
  refine wpAnyH_take (i := 3) rfl (by kernel_rfl) (by kernel_rfl) (by kernel_rfl) (fun _ _ _ h => h) (yieldsIf_load1 (by rfl) _ _ rfl _ _ rfl oneP5 _ (fun w hSw => by rw [((h7.ext (hE0.trans (hW0.trans hSw))).v.blk).cell (by decide), hm.phase, hph])) HH.out ?_
  change wpAnyH _ _ _ _ _ _ _ (Act.put _ (some 15) _) _
  simp only [Act.put, List.setIfInBounds_toArray, List.set_cons_zero, List.set_cons_succ]
  refine wpAnyH_take (i := 4) (v := .bool false) rfl (by kernel_rfl) (by kernel_rfl) (by kernel_rfl) (fun _ _ _ h => h) (Or.inl ⟨by rfl, ?_⟩) HH.out ?_
  · intro w hSw; go_simp; first | rfl | (simp; done) | done
  change wpAnyH _ _ _ _ _ _ _ (Act.put _ (some 16) _) _
  simp only [Act.put, List.setIfInBounds_toArray, List.set_cons_zero, List.set_cons_succ]
  refine wpAnyH_take (i := 5) (v := ?_) rfl (by kernel_rfl) (by kernel_rfl) (by kernel_rfl) (fun _ _ _ h => h) (Or.inl ⟨by rfl, ?_⟩) HH.out ?_
  rotate_left
  · intro w hSw; go_simp; try with_reducible rfl
  change wpAnyH _ _ _ _ _ _ _ (Act.put _ (some 17) _) _
  simp only [Act.put, List.setIfInBounds_toArray, List.set_cons_zero, List.set_cons_succ]
  refine wpAnyH_take (i := 6) (v := ?_) rfl (by kernel_rfl) (by kernel_rfl) (by kernel_rfl) (fun _ _ _ h => h) (Or.inl ⟨by rfl, ?_⟩) HH.out ?_
  rotate_left
  · intro w hSw; go_simp; try with_reducible rfl
  change wpAnyH _ _ _ _ _ _ _ (Act.put _ (some 18) _) _
  simp only [Act.put, List.setIfInBounds_toArray, List.set_cons_zero, List.set_cons_succ]
  refine wpAnyH_take (i := 7) (v := ?_) rfl (by kernel_rfl) (by kernel_rfl) (by kernel_rfl) (fun _ _ _ h => h) (Or.inl ⟨by rfl, ?_⟩) HH.out ?_
  rotate_left
  · intro w hSw; go_simp; try with_reducible rfl
  change wpAnyH _ _ _ _ _ _ _ (Act.put _ (some 19) _) _
  simp only [Act.put, List.setIfInBounds_toArray, List.set_cons_zero, List.set_cons_succ]
  refine wpAnyH_take (i := 8) (v := ?_) rfl (by kernel_rfl) (by kernel_rfl) (by kernel_rfl) (fun _ _ _ h => h) (Or.inl ⟨by rfl, ?_⟩) HH.out ?_
  rotate_left
  · intro w hSw; go_simp; try with_reducible rfl
  change wpAnyH _ _ _ _ _ _ _ (Act.put _ (some 20) _) _
  simp only [Act.put, List.setIfInBounds_toArray, List.set_cons_zero, List.set_cons_succ]
  refine wpAnyH_take (i := 9) rfl (by kernel_rfl) (by kernel_rfl) (by kernel_rfl) (fun _ _ _ h => h) (yieldsIf_load1 (by rfl) _ _ rfl _ _ rfl oneP60 _ (fun w hSw => by rw [((h7.ext (hE0.trans (hW0.trans hSw))).v.blk).cell (by decide), hm.ptr])) HH.out ?_
  change wpAnyH _ _ _ _ _ _ _ (Act.put _ (some 21) _) _
  simp only [Act.put, List.setIfInBounds_toArray, List.set_cons_zero, List.set_cons_succ]
  refine wpAnyH_take (i := 10) (v := .bool false) rfl (by kernel_rfl) (by kernel_rfl) (by kernel_rfl) (fun _ _ _ h => h) (Or.inl ⟨by rfl, ?_⟩) HH.out ?_
  · intro w hSw; go_simp; first | rfl | (simp; done) | done
  change wpAnyH _ _ _ _ _ _ _ (Act.put _ (some 22) _) _
  simp only [Act.put, List.setIfInBounds_toArray, List.set_cons_zero, List.set_cons_succ]
  refine wpAnyH_take (i := 11) (v := ?_) rfl (by kernel_rfl) (by kernel_rfl) (by kernel_rfl) (fun _ _ _ h => h) (Or.inl ⟨by rfl, ?_⟩) HH.out ?_
  rotate_left
  · intro w hSw; go_simp; try with_reducible rfl
  change wpAnyH _ _ _ _ _ _ _ (Act.put _ (some 23) _) _
  simp only [Act.put, List.setIfInBounds_toArray, List.set_cons_zero, List.set_cons_succ]
  refine wpAnyH_take (i := 12) (v := ?_) rfl (by kernel_rfl) (by kernel_rfl) (by kernel_rfl) (fun _ _ _ h => h) (Or.inl ⟨by rfl, ?_⟩) HH.out ?_
  rotate_left
  · intro w hSw; go_simp; try with_reducible rfl
  change wpAnyH _ _ _ _ _ _ _ (Act.put _ (some 24) _) _
  simp only [Act.put, List.setIfInBounds_toArray, List.set_cons_zero, List.set_cons_succ]
  refine wpAnyH_take (i := 13) (v := ?_) rfl (by kernel_rfl) (by kernel_rfl) (by kernel_rfl) (fun _ _ _ h => h) (Or.inl ⟨by rfl, ?_⟩) HH.out ?_
  rotate_left
  · intro w hSw; go_simp; try with_reducible rfl
  change wpAnyH _ _ _ _ _ _ _ (Act.put _ (some 25) _) _
  simp only [Act.put, List.setIfInBounds_toArray, List.set_cons_zero, List.set_cons_succ]
  refine wpAnyH_take (i := 14) (v := ?_) rfl (by kernel_rfl) (by kernel_rfl) (by kernel_rfl) (fun _ _ _ h => h) (Or.inl ⟨by rfl, ?_⟩) HH.out ?_
  rotate_left
  · intro w hSw; go_simp; try with_reducible rfl
  change wpAnyH _ _ _ _ _ _ _ (Act.put _ (some 26) _) _
  simp only [Act.put, List.setIfInBounds_toArray, List.set_cons_zero, List.set_cons_succ]
  refine wpAnyH_take (i := 15) (v := ?_) rfl (by kernel_rfl) (by kernel_rfl) (by kernel_rfl) (fun _ _ _ h => h) (Or.inl ⟨by rfl, ?_⟩) HH.out ?_
  rotate_left
  · intro w hSw; go_simp; try with_reducible rfl
  change wpAnyH _ _ _ _ _ _ _ (Act.put _ (some 27) _) _
  simp only [Act.put, List.setIfInBounds_toArray, List.set_cons_zero, List.set_cons_succ]
  refine wpAnyH_take (i := 16) (v := ?_) rfl (by kernel_rfl) (by kernel_rfl) (by kernel_rfl) (fun _ _ _ h => h) (Or.inl ⟨by rfl, ?_⟩) HH.out ?_
  rotate_left
  · intro w hSw; go_simp; try with_reducible rfl
  change wpAnyH _ _ _ _ _ _ _ (Act.put _ (some 28) _) _
  simp only [Act.put, List.setIfInBounds_toArray, List.set_cons_zero, List.set_cons_succ]
  refine wpAnyH_take (i := 17) (v := ?_) rfl (by kernel_rfl) (by kernel_rfl) (by kernel_rfl) (fun _ _ _ h => h) (Or.inl ⟨by rfl, ?_⟩) HH.out ?_
  rotate_left
  · intro w hSw; go_simp; try with_reducible rfl
  change wpAnyH _ _ _ _ _ _ _ (Act.put _ (some 29) _) _
  simp only [Act.put, List.setIfInBounds_toArray, List.set_cons_zero, List.set_cons_succ]
  refine wpAnyH_take (i := 18) rfl (by kernel_rfl) (by kernel_rfl) (by kernel_rfl) (fun _ _ _ h => h) (yieldsIf_load1 (by rfl) _ _ rfl _ _ rfl oneP26 _ (fun w hSw => by rw [((h7.ext (hE0.trans (hW0.trans hSw))).v.blk).cell (by decide), kleft])) HH.out ?_
  change wpAnyH _ _ _ _ _ _ _ (Act.put _ (some 30) _) _
  simp only [Act.put, List.setIfInBounds_toArray, List.set_cons_zero, List.set_cons_succ]
  refine wpAnyH_take (i := 19) (v := ?_) rfl (by kernel_rfl) (by kernel_rfl) (by kernel_rfl) (fun _ _ _ h => h) (Or.inl ⟨by rfl, ?_⟩) HH.out ?_
  rotate_left
  · intro w hSw; go_simp; try with_reducible rfl
  change wpAnyH _ _ _ _ _ _ _ (Act.put _ (some 31) _) _
  simp only [Act.put, List.setIfInBounds_toArray, List.set_cons_zero, List.set_cons_succ]
  refine wpAnyH_take (i := 20) (v := ?_) rfl (by kernel_rfl) (by kernel_rfl) (by kernel_rfl) (fun _ _ _ h => h) (Or.inl ⟨by rfl, ?_⟩) HH.out ?_
  rotate_left
  · intro w hSw; go_simp; try with_reducible rfl
  change wpAnyH _ _ _ _ _ _ _ (Act.put _ (some 32) _) _
  simp only [Act.put, List.setIfInBounds_toArray, List.set_cons_zero, List.set_cons_succ]
  refine wpAnyH_take (i := 21) (v := ?_) rfl (by kernel_rfl) (by kernel_rfl) (by kernel_rfl) (fun _ _ _ h => h) (Or.inl ⟨by rfl, ?_⟩) HH.out ?_
  rotate_left
  · intro w hSw; go_simp; try with_reducible rfl
  change wpAnyH _ _ _ _ _ _ _ (Act.put _ (some 33) _) _
  simp only [Act.put, List.setIfInBounds_toArray, List.set_cons_zero, List.set_cons_succ]
  refine wpAnyH_take (i := 22) rfl (by kernel_rfl) (by kernel_rfl) (by kernel_rfl) (fun _ _ _ h => h) (yieldsIf_load1 (by rfl) _ _ rfl _ _ rfl oneP26 _ (fun w hSw => by rw [((h7.ext (hE0.trans (hW0.trans hSw))).v.blk).cell (by decide), hm.limit])) HH.out ?_
  change wpAnyH _ _ _ _ _ _ _ (Act.put _ (some 34) _) _
  simp only [Act.put, List.setIfInBounds_toArray, List.set_cons_zero, List.set_cons_succ]
  refine wpAnyH_take (i := 23) (v := .bool false) rfl (by kernel_rfl) (by kernel_rfl) (by kernel_rfl) (fun _ _ _ h => h) (Or.inl ⟨by rfl, ?_⟩) HH.out ?_
  · intro w hSw; go_simp; first | rfl | (simp; omega) | done
  change wpAnyH _ _ _ _ _ _ _ (Act.put _ (some 35) _) _
  simp only [Act.put, List.setIfInBounds_toArray, List.set_cons_zero, List.set_cons_succ]
  refine wpAnyH_take (i := 24) (v := ?_) rfl (by kernel_rfl) (by kernel_rfl) (by kernel_rfl) (fun _ _ _ h => h) (Or.inl ⟨by rfl, ?_⟩) HH.out ?_
  rotate_left
  · intro w hSw; go_simp; try with_reducible rfl
  change wpAnyH _ _ _ _ _ _ _ (Act.put _ (some 36) _) _
  simp only [Act.put, List.setIfInBounds_toArray, List.set_cons_zero, List.set_cons_succ]
  refine wpAnyH_take (i := 25) (v := ?_) rfl (by kernel_rfl) (by kernel_rfl) (by kernel_rfl) (fun _ _ _ h => h) (Or.inl ⟨by rfl, ?_⟩) HH.out ?_
  rotate_left
  · intro w hSw; go_simp; try with_reducible rfl
  change wpAnyH _ _ _ _ _ _ _ (Act.put _ (some 37) _) _
  simp only [Act.put, List.setIfInBounds_toArray, List.set_cons_zero, List.set_cons_succ]
  refine wpAnyH_take (i := 26) (v := ?_) rfl (by kernel_rfl) (by kernel_rfl) (by kernel_rfl) (fun _ _ _ h => h) (Or.inl ⟨by rfl, ?_⟩) HH.out ?_
  rotate_left
  · intro w hSw; go_simp; try with_reducible rfl
  change wpAnyH _ _ _ _ _ _ _ (Act.put _ (some 38) _) _
  simp only [Act.put, List.setIfInBounds_toArray, List.set_cons_zero, List.set_cons_succ]
  refine wpAnyH_take (i := 27) (v := ?_) rfl (by kernel_rfl) (by kernel_rfl) (by kernel_rfl) (fun _ _ _ h => h) (Or.inl ⟨by rfl, ?_⟩) HH.out ?_
  rotate_left
  · intro w hSw; go_simp; try with_reducible rfl
  change wpAnyH _ _ _ _ _ _ _ (Act.put _ (some 39) _) _
  simp only [Act.put, List.setIfInBounds_toArray, List.set_cons_zero, List.set_cons_succ]
  refine wpAnyH_take (i := 28) (v := ?_) rfl (by kernel_rfl) (by kernel_rfl) (by kernel_rfl) (fun _ _ _ h => h) (Or.inl ⟨by rfl, ?_⟩) HH.out ?_
  rotate_left
  · intro w hSw; go_simp; try with_reducible rfl
  change wpAnyH _ _ _ _ _ _ _ (Act.put _ (some 40) _) _
  simp only [Act.put, List.setIfInBounds_toArray, List.set_cons_zero, List.set_cons_succ]
  refine wpAnyH_take (i := 29) rfl (by kernel_rfl) (by kernel_rfl) (by kernel_rfl) (fun _ _ _ h => h) (yields_W (by rfl) rfl rfl (fun w hSw => (h7.ext (hE0.trans (hW0.trans hSw))).v.blk) hpr (by decide)) HH.out ?_
  change wpAnyH _ _ _ _ _ _ _ (Act.put _ (some 41) _) _
  simp only [Act.put, List.setIfInBounds_toArray, List.set_cons_zero, List.set_cons_succ]
  refine wpAnyH_take (i := 30) (v := ?_) rfl (by kernel_rfl) (by kernel_rfl) (by kernel_rfl) (fun _ _ _ h => h) (Or.inl ⟨by rfl, ?_⟩) HH.out ?_
  rotate_left
  · intro w hSw; go_simp; try with_reducible rfl
  change wpAnyH _ _ _ _ _ _ _ (Act.put _ (some 42) _) _
  simp only [Act.put, List.setIfInBounds_toArray, List.set_cons_zero, List.set_cons_succ]
  refine wpAnyH_take (i := 31) (v := ?_) rfl (by kernel_rfl) (by kernel_rfl) (by kernel_rfl) (fun _ _ _ h => h) (Or.inl ⟨by rfl, ?_⟩) HH.out ?_
  rotate_left
  · intro w hSw; go_simp; try with_reducible rfl
  change wpAnyH _ _ _ _ _ _ _ (Act.put _ (some 43) _) _
  simp only [Act.put, List.setIfInBounds_toArray, List.set_cons_zero, List.set_cons_succ]
  refine wpAnyH_take (i := 32) (v := ?_) rfl (by kernel_rfl) (by kernel_rfl) (by kernel_rfl) (fun _ _ _ h => h) (Or.inl ⟨by rfl, ?_⟩) HH.out ?_
  rotate_left
  · intro w hSw; go_simp; try with_reducible rfl
  change wpAnyH _ _ _ _ _ _ _ (Act.put _ (some 44) _) _
  simp only [Act.put, List.setIfInBounds_toArray, List.set_cons_zero, List.set_cons_succ]
  refine wpAnyH_take (i := 33) (v := ?_) rfl (by kernel_rfl) (by kernel_rfl) (by kernel_rfl) (fun _ _ _ h => h) (Or.inl ⟨by rfl, ?_⟩) HH.out ?_
  rotate_left
  · intro w hSw; go_simp; try with_reducible rfl
  change wpAnyH _ _ _ _ _ _ _ (Act.put _ (some 45) _) _
  simp only [Act.put, List.setIfInBounds_toArray, List.set_cons_zero, List.set_cons_succ]
  refine wpAnyH_take (i := 34) rfl (by kernel_rfl) (by kernel_rfl) (by kernel_rfl) (fun _ _ _ h => h) (yields_B (by rfl) rfl rfl (fun w hSw => (h7.ext (hE0.trans (hW0.trans hSw))).v.blk) hen.baseFee hen.bLt (by decide)) HH.out ?_
  change wpAnyH _ _ _ _ _ _ _ (Act.put _ (some 46) _) _
  simp only [Act.put, List.setIfInBounds_toArray, List.set_cons_zero, List.set_cons_succ]
  refine wpAnyH_ready (rs := [35]) (by kernel_rfl) (by simp) ?_
  refine AllReadyH.cons rfl (fun K hK => ?_) AllReadyH.nil
  go_simp
  go_at_call 92; refine (HFB _).mono ?_; rintro e wa ⟨rfl, he⟩
  refine hK.out _ _ ?_ (fun hHeld => ?_)
  · first | exact HH.out.trans hmY | exact HH.out.trans he | exact HH.out
  clear hK K HH
  have HH : Hid (Ext W0 _) := hHeld
  clear hHeld
  refine wpAnyH_ready (rs := [36]) (by kernel_rfl) (by simp) ?_
  refine AllReadyH.cons rfl (fun K hK => ?_) AllReadyH.nil
  go_simp
  go_at_call 121; refine (HL1 _).mono ?_; rintro e wb ⟨rfl, he⟩
  refine hK.out _ _ ?_ (fun hHeld => ?_)
  · first | exact HH.out.trans hmY | exact HH.out.trans he | exact HH.out
  clear hK K HH
  have HH : Hid (Ext W0 _) := hHeld
  clear hHeld
  refine wpAnyH_take (i := 37) (v := ?_) rfl (by kernel_rfl) (by kernel_rfl) (by kernel_rfl) (fun _ _ _ h => h) (Or.inl ⟨by rfl, ?_⟩) HH.out ?_
  rotate_left
  · intro w hSw; go_simp; try with_reducible rfl
  change wpAnyH _ _ _ _ _ _ _ (Act.put _ (some 49) _) _
  simp only [Act.put, List.setIfInBounds_toArray, List.set_cons_zero, List.set_cons_succ]
  refine wpAnyH_done (by kernel_rfl) ?_ _
  have hE1 : Ext W0a wb := hE0.trans (hW0.trans HH.out)
  have b21 : Blk wb B2 25 51 (cf z46a) := b2.ext (hW0.trans HH.out)
  clear HH hW0
  go_upto_region 6 with (first | ((with_reducible (refine Veil.out ?_; apply wl_loadC oneP60)); (case hw => rfl); (case hx => rfl); (case hc => rw [((h7.ext hE1).v.blk).cell (by decide), hm.ptr])) | (go_at_call 101; refine (HSz _ hE1).mono ?_; rintro e w3 ⟨rfl, he3⟩))
  have hE3 : Ext W0a w3 := hE1.trans he3
  have b23 := b21.ext he3
  refine w_ext ?_
  rintro W0 hW0
  refine wp_region_held_drew (S := fun w' => Ext W0 w') (by kernel_rfl) (Ext.refl _).drew (fun hHeld => ?_)
  have HH : Hid (Ext W0 _) := hHeld
  clear hHeld
  refine wpAnyH_take (i := 0) (v := ?_) rfl (by kernel_rfl) (by kernel_rfl) (by kernel_rfl) (fun _ _ _ h => h) (Or.inl ⟨by rfl, ?_⟩) HH.out ?_
  rotate_left
  · intro w hSw; go_simp; try with_reducible rfl
  change wpAnyH _ _ _ _ _ _ _ (Act.put _ (some 68) _) _
  simp only [Act.put, List.setIfInBounds_toArray, List.set_cons_zero, List.set_cons_succ]
  refine wpAnyH_take (i := 1) (v := ?_) rfl (by kernel_rfl) (by kernel_rfl) (by kernel_rfl) (fun _ _ _ h => h) (Or.inl ⟨by rfl, ?_⟩) HH.out ?_
  rotate_left
  · intro w hSw; go_simp; try with_reducible rfl
  change wpAnyH _ _ _ _ _ _ _ (Act.put _ (some 69) _) _
  simp only [Act.put, List.setIfInBounds_toArray, List.set_cons_zero, List.set_cons_succ]
  refine wpAnyH_take (i := 2) (v := ?_) rfl (by kernel_rfl) (by kernel_rfl) (by kernel_rfl) (fun _ _ _ h => h) (Or.inl ⟨by rfl, ?_⟩) HH.out ?_
  rotate_left
  · intro w hSw; go_simp; try with_reducible rfl
  change wpAnyH _ _ _ _ _ _ _ (Act.put _ (some 70) _) _
  simp only [Act.put, List.setIfInBounds_toArray, List.set_cons_zero, List.set_cons_succ]
  refine wpAnyH_take (i := 3) rfl (by kernel_rfl) (by kernel_rfl) (by kernel_rfl) (fun _ _ _ h => h) (yieldsIf_load1 (by rfl) _ _ rfl _ _ rfl oneP26 _ (fun w hSw => by rw [((h7.ext (hE3.trans (hW0.trans hSw))).v.blk).cell (by decide), hm.limit])) HH.out ?_
  change wpAnyH _ _ _ _ _ _ _ (Act.put _ (some 71) _) _
  simp only [Act.put, List.setIfInBounds_toArray, List.set_cons_zero, List.set_cons_succ]
  refine wpAnyH_take (i := 4) (v := ?_) rfl (by kernel_rfl) (by kernel_rfl) (by kernel_rfl) (fun _ _ _ h => h) (Or.inl ⟨by rfl, ?_⟩) HH.out ?_
  rotate_left
  · intro w hSw; go_simp; try with_reducible rfl
  change wpAnyH _ _ _ _ _ _ _ (Act.put _ (some 72) _) _
  simp only [Act.put, List.setIfInBounds_toArray, List.set_cons_zero, List.set_cons_succ]
  refine wpAnyH_take (i := 5) (v := ?_) rfl (by kernel_rfl) (by kernel_rfl) (by kernel_rfl) (fun _ _ _ h => h) (Or.inl ⟨by rfl, ?_⟩) HH.out ?_
  rotate_left
  · intro w hSw; go_simp; try with_reducible rfl
  change wpAnyH _ _ _ _ _ _ _ (Act.put _ (some 73) _) _
  simp only [Act.put, List.setIfInBounds_toArray, List.set_cons_zero, List.set_cons_succ]
  refine wpAnyH_take (i := 6) (v := ?_) rfl (by kernel_rfl) (by kernel_rfl) (by kernel_rfl) (fun _ _ _ h => h) (Or.inl ⟨by rfl, ?_⟩) HH.out ?_
  rotate_left
  · intro w hSw; go_simp; try with_reducible rfl
  change wpAnyH _ _ _ _ _ _ _ (Act.put _ (some 74) _) _
  simp only [Act.put, List.setIfInBounds_toArray, List.set_cons_zero, List.set_cons_succ]
  refine wpAnyH_take (i := 7) (v := ?_) rfl (by kernel_rfl) (by kernel_rfl) (by kernel_rfl) (fun _ _ _ h => h) (Or.inl ⟨by rfl, ?_⟩) HH.out ?_
  rotate_left
  · intro w hSw; go_simp; try with_reducible rfl
  change wpAnyH _ _ _ _ _ _ _ (Act.put _ (some 75) _) _
  simp only [Act.put, List.setIfInBounds_toArray, List.set_cons_zero, List.set_cons_succ]
  refine wpAnyH_take (i := 8) (v := ?_) rfl (by kernel_rfl) (by kernel_rfl) (by kernel_rfl) (fun _ _ _ h => h) (Or.inl ⟨by rfl, ?_⟩) HH.out ?_
  rotate_left
  · intro w hSw; go_simp; try with_reducible rfl
  change wpAnyH _ _ _ _ _ _ _ (Act.put _ (some 76) _) _
  simp only [Act.put, List.setIfInBounds_toArray, List.set_cons_zero, List.set_cons_succ]
  refine wpAnyH_take (i := 9) rfl (by kernel_rfl) (by kernel_rfl) (by kernel_rfl) (fun _ _ _ h => h) (yieldsIf_load1 (by rfl) _ _ rfl _ _ rfl oneP26 _ (fun w hSw => by rw [((h7.ext (hE3.trans (hW0.trans hSw))).v.blk).cell (by decide), kleft])) HH.out ?_
  change wpAnyH _ _ _ _ _ _ _ (Act.put _ (some 77) _) _
  simp only [Act.put, List.setIfInBounds_toArray, List.set_cons_zero, List.set_cons_succ]
  refine wpAnyH_take (i := 10) (v := ?_) rfl (by kernel_rfl) (by kernel_rfl) (by kernel_rfl) (fun _ _ _ h => h) (Or.inl ⟨by rfl, ?_⟩) HH.out ?_
  rotate_left
  · intro w hSw; go_simp; try with_reducible rfl
  change wpAnyH _ _ _ _ _ _ _ (Act.put _ (some 78) _) _
  simp only [Act.put, List.setIfInBounds_toArray, List.set_cons_zero, List.set_cons_succ]
  refine wpAnyH_take (i := 11) (v := ?_) rfl (by kernel_rfl) (by kernel_rfl) (by kernel_rfl) (fun _ _ _ h => h) (Or.inl ⟨by rfl, ?_⟩) HH.out ?_
  rotate_left
  · intro w hSw; go_simp; try with_reducible rfl
  change wpAnyH _ _ _ _ _ _ _ (Act.put _ (some 7) _) _
  simp only [Act.put, List.setIfInBounds_toArray, List.set_cons_zero, List.set_cons_succ]
  refine wpAnyH_done (by kernel_rfl) ?_ _
  have hE6 : Ext W0a _ := hE3.trans (hW0.trans HH.out)
  have b26 : Blk _ B2 25 51 (cf z46a) := b23.ext (hW0.trans HH.out)
  clear HH hW0 w1
  refine w_ext ?_
  rintro W6 hW6
  replace hE6 := hE6.trans hW6
  replace b26 := b26.ext hW6
  clear hW6
  go_upto_region 8 with (first | ((with_reducible (refine Veil.out ?_; apply wl_loadC oneP60)); (case hw => rfl); (case hx => rfl); (case hc => rw [((h7.ext hE6).v.blk).cell (by decide), hm.ptr])) | (go_at_call 122; refine (HRf _ hE6).mono ?_; rintro e w7 ⟨rfl, hww⟩; replace hww := hww.symm; subst hww))
  refine w_ext ?_
  rintro W0 hW0
  refine' joinB (P := _) (Fc := fun B W1 c1 => Ext W0 W1 ∧ Blk W1 B 4 79 c1 ∧ WAt c1 0 (bk) ∧ W0.heap.size ≤ B) (fun key => _) _
  rotate_left
  refine wp_region_held_drew (S := fun w' => Ext W0 w') (by kernel_rfl) (Ext.refl _).drew (fun hHeld => ?_)
  have HH : Hid (Ext W0 _) := hHeld
  clear hHeld
  refine wpAnyH_take (i := 0) (v := ?_) rfl (by kernel_rfl) (by kernel_rfl) (by kernel_rfl) (fun _ _ _ h => h) (Or.inl ⟨by rfl, ?_⟩) HH.out ?_
  rotate_left
  · intro w hSw; go_simp; try with_reducible rfl
  change wpAnyH _ _ _ _ _ _ _ (Act.put _ (some 89) _) _
  simp only [Act.put, List.setIfInBounds_toArray, List.set_cons_zero, List.set_cons_succ]
  refine wpAnyH_take (i := 1) (v := ?_) rfl (by kernel_rfl) (by kernel_rfl) (by kernel_rfl) (fun _ _ _ h => h) (Or.inl ⟨by rfl, ?_⟩) HH.out ?_
  rotate_left
  · intro w hSw; go_simp; try with_reducible rfl
  change wpAnyH _ _ _ _ _ _ _ (Act.put _ (some 90) _) _
  simp only [Act.put, List.setIfInBounds_toArray, List.set_cons_zero, List.set_cons_succ]
  refine wpAnyH_take (i := 2) (v := ?_) rfl (by kernel_rfl) (by kernel_rfl) (by kernel_rfl) (fun _ _ _ h => h) (Or.inl ⟨by rfl, ?_⟩) HH.out ?_
  rotate_left
  · intro w hSw; go_simp; try with_reducible rfl
  change wpAnyH _ _ _ _ _ _ _ (Act.put _ (some 91) _) _
  simp only [Act.put, List.setIfInBounds_toArray, List.set_cons_zero, List.set_cons_succ]
  refine wpAnyH_take (i := 3) rfl (by kernel_rfl) (by kernel_rfl) (by kernel_rfl) (fun _ _ _ h => h) (yieldsIf_load1 (by rfl) _ _ rfl _ _ rfl oneP26 _ (fun w hSw => by rw [((h7.ext (hE6.trans (hW0.trans hSw))).v.blk).cell (by decide), hm.limit])) HH.out ?_
  change wpAnyH _ _ _ _ _ _ _ (Act.put _ (some 92) _) _
  simp only [Act.put, List.setIfInBounds_toArray, List.set_cons_zero, List.set_cons_succ]
  refine wpAnyH_take (i := 4) (v := ?_) rfl (by kernel_rfl) (by kernel_rfl) (by kernel_rfl) (fun _ _ _ h => h) (Or.inl ⟨by rfl, ?_⟩) HH.out ?_
  rotate_left
  · intro w hSw; go_simp; try with_reducible rfl
  change wpAnyH _ _ _ _ _ _ _ (Act.put _ (some 93) _) _
  simp only [Act.put, List.setIfInBounds_toArray, List.set_cons_zero, List.set_cons_succ]
  refine wpAnyH_take (i := 5) (v := ?_) rfl (by kernel_rfl) (by kernel_rfl) (by kernel_rfl) (fun _ _ _ h => h) (Or.inl ⟨by rfl, ?_⟩) HH.out ?_
  rotate_left
  · intro w hSw; go_simp; try with_reducible rfl
  change wpAnyH _ _ _ _ _ _ _ (Act.put _ (some 94) _) _
  simp only [Act.put, List.setIfInBounds_toArray, List.set_cons_zero, List.set_cons_succ]
  refine wpAnyH_take (i := 6) rfl (by kernel_rfl) (by kernel_rfl) (by kernel_rfl) (fun _ _ _ h => h) (yields_build (ps := [(0, .int .u64 (lu : Nat))]) (by rfl) rfl (b66s hlul) (by simp [Act.eval])) HH.out ?_
  change wpAnyH _ _ _ _ _ _ _ (Act.put _ (some 95) _) _
  simp only [Act.put, List.setIfInBounds_toArray, List.set_cons_zero, List.set_cons_succ]
  refine wpAnyH_take (i := 7) (v := ?_) rfl (by kernel_rfl) (by kernel_rfl) (by kernel_rfl) (fun _ _ _ h => h) (Or.inl ⟨by rfl, ?_⟩) HH.out ?_
  rotate_left
  · intro w hSw; go_simp; try with_reducible rfl
  change wpAnyH _ _ _ _ _ _ _ (Act.put _ (some 96) _) _
  simp only [Act.put, List.setIfInBounds_toArray, List.set_cons_zero, List.set_cons_succ]
  refine wpAnyH_take (i := 8) (v := ?_) rfl (by kernel_rfl) (by kernel_rfl) (by kernel_rfl) (fun _ _ _ h => h) (Or.inl ⟨by rfl, ?_⟩) HH.out ?_
  rotate_left
  · intro w hSw; go_simp; try with_reducible rfl
  change wpAnyH _ _ _ _ _ _ _ (Act.put _ (some 97) _) _
  simp only [Act.put, List.setIfInBounds_toArray, List.set_cons_zero, List.set_cons_succ]
  refine wpAnyH_take (i := 9) (v := ?_) rfl (by kernel_rfl) (by kernel_rfl) (by kernel_rfl) (fun _ _ _ h => h) (Or.inl ⟨by rfl, ?_⟩) HH.out ?_
  rotate_left
  · intro w hSw; go_simp; try with_reducible rfl
  change wpAnyH _ _ _ _ _ _ _ (Act.put _ (some 98) _) _
  simp only [Act.put, List.setIfInBounds_toArray, List.set_cons_zero, List.set_cons_succ]
  refine wpAnyH_take (i := 10) rfl (by kernel_rfl) (by kernel_rfl) (by kernel_rfl) (fun _ _ _ h => h) (yields_W (by rfl) rfl rfl (fun w hSw => (h7.ext (hE6.trans (hW0.trans hSw))).v.blk) hpr (by decide)) HH.out ?_
  change wpAnyH _ _ _ _ _ _ _ (Act.put _ (some 99) _) _
  simp only [Act.put, List.setIfInBounds_toArray, List.set_cons_zero, List.set_cons_succ]
  refine wpAnyH_ready (rs := [11, 12]) (by kernel_rfl) (by simp) ?_
  refine (AllReadyH.cons rfl (fun K hK => ?_) (AllReadyH.cons rfl (fun K hK => ?_) AllReadyH.nil))
  go_simp
  go_at_call 104; refine (HM1 _).mono ?_; rintro e wm ⟨rfl, he⟩
  refine hK.out _ _ ?_ (fun hHeld => ?_)
  · first | exact HH.out.trans hmY | exact HH.out.trans he | exact HH.out
  clear hK K HH
  have HH : Hid (Ext W0 _) := hHeld
  clear hHeld
  refine wpAnyH_ready (rs := [12]) (by kernel_rfl) (by simp) ?_
  refine AllReadyH.cons rfl (fun K hK => ?_) AllReadyH.nil
  refine step_any rfl (op_allocW rfl ?_)
  rintro B9 W9 c9 e9 b9 _ g9
  refine hK.out _ _ ?_ (fun hHeld => ?_)
  · exact HH.out.trans e9
  clear hK K HH
  have HH : Hid (Ext W0 _) := hHeld
  clear hHeld
  change wpAnyH _ _ _ _ _ _ _ (Act.put _ (some 9) _) _
  simp only [Act.put, List.setIfInBounds_toArray, List.set_cons_zero, List.set_cons_succ]
  refine wpAnyH_ready (rs := [13]) (by kernel_rfl) (by simp) ?_
  refine AllReadyH.cons rfl (fun K hK => ?_) AllReadyH.nil
  refine step_any rfl (op_storeWB rfl rfl rfl (b9.ext (by (repeat (first | with_reducible exact Ext.refl _ | with_reducible assumption | refine Ext.trans ?_ (by with_reducible assumption) | refine Ext.alloc ?_ _ _ | refine Ext.drew ?_ | refine Ext.drewN ?_ _)))) (by decide) ?_)
  rintro W8 c8 b8 a8 _ m8
  refine hK.out _ _ ?_ (fun hHeld => ?_)
  · exact Ext.trans_mod HH.out m8 (fun i hi => by have hi2 : i = B9 := hi; rw [hi2]; exact Nat.le_trans (Ext.size (by (repeat (first | with_reducible exact Ext.refl _ | with_reducible assumption | refine Ext.trans ?_ (by with_reducible assumption) | refine Ext.alloc ?_ _ _ | refine Ext.drew ?_ | refine Ext.drewN ?_ _)))) g9)
  clear hK K HH
  have HH : Hid (Ext W0 _) := hHeld
  clear hHeld
  change wpAnyH _ _ _ _ _ _ _ (Act.put _ none _) _
  simp only [Act.put, List.setIfInBounds_toArray, List.set_cons_zero, List.set_cons_succ]
  refine wpAnyH_done (by kernel_rfl) ?_ _
  exact key B9 W8 c8 ⟨HH.out, b8, a8, Nat.le_trans (Ext.size (by (repeat (first | with_reducible exact Ext.refl _ | with_reducible assumption | refine Ext.trans ?_ (by with_reducible assumption) | refine Ext.alloc ?_ _ _ | refine Ext.drew ?_ | refine Ext.drewN ?_ _)))) g9⟩
  refine step_any rfl (op_allocW rfl ?_)
  rintro B9 W9 c9 e9 b9 _ g9
  refine hK.out _ _ ?_ (fun hHeld => ?_)
  · exact HH.out.trans e9
  clear hK K HH
  have HH : Hid (Ext W0 _) := hHeld
  clear hHeld
  change wpAnyH _ _ _ _ _ _ _ (Act.put _ (some 9) _) _
  simp only [Act.put, List.setIfInBounds_toArray, List.set_cons_zero, List.set_cons_succ]
  refine wpAnyH_ready (rs := [11]) (by kernel_rfl) (by simp) ?_
  refine AllReadyH.cons rfl (fun K hK => ?_) AllReadyH.nil
  go_simp
  go_at_call 104; refine (HM1 _).mono ?_; rintro e wm ⟨rfl, he⟩
  refine hK.out _ _ ?_ (fun hHeld => ?_)
  · first | exact HH.out.trans hmY | exact HH.out.trans he | exact HH.out
  clear hK K HH
  have HH : Hid (Ext W0 _) := hHeld
  clear hHeld
  refine wpAnyH_ready (rs := [13]) (by kernel_rfl) (by simp) ?_
  refine AllReadyH.cons rfl (fun K hK => ?_) AllReadyH.nil
  refine step_any rfl (op_storeWB rfl rfl rfl (b9.ext (by (repeat (first | with_reducible exact Ext.refl _ | with_reducible assumption | refine Ext.trans ?_ (by with_reducible assumption) | refine Ext.alloc ?_ _ _ | refine Ext.drew ?_ | refine Ext.drewN ?_ _)))) (by decide) ?_)
  rintro W8 c8 b8 a8 _ m8
  refine hK.out _ _ ?_ (fun hHeld => ?_)
  · exact Ext.trans_mod HH.out m8 (fun i hi => by have hi2 : i = B9 := hi; rw [hi2]; exact Nat.le_trans (Ext.size (by (repeat (first | with_reducible exact Ext.refl _ | with_reducible assumption | refine Ext.trans ?_ (by with_reducible assumption) | refine Ext.alloc ?_ _ _ | refine Ext.drew ?_ | refine Ext.drewN ?_ _)))) g9)
  clear hK K HH
  have HH : Hid (Ext W0 _) := hHeld
  clear hHeld
  change wpAnyH _ _ _ _ _ _ _ (Act.put _ none _) _
  simp only [Act.put, List.setIfInBounds_toArray, List.set_cons_zero, List.set_cons_succ]
  refine wpAnyH_done (by kernel_rfl) ?_ _
  exact key B9 W8 c8 ⟨HH.out, b8, a8, Nat.le_trans (Ext.size (by (repeat (first | with_reducible exact Ext.refl _ | with_reducible assumption | refine Ext.trans ?_ (by with_reducible assumption) | refine Ext.alloc ?_ _ _ | refine Ext.drew ?_ | refine Ext.drewN ?_ _)))) g9⟩
  rintro B9 W8 c8 ⟨hE8', b8, a8, g8⟩
  have hE8 : Ext W0a W8 := hE6.trans (hW0.trans hE8')
  have g9w : W0a.heap.size ≤ B9 := Nat.le_trans (hE6.trans hW0).size g8
  have b28 : Blk W8 B2 25 51 (cf z46a) := b26.ext (hW0.trans hE8')
  clear hE8' hW0 b26
  go_upto_region 9 with (fail)
  refine w_ext ?_
  rintro W0 hW0
  refine' joinB (P := _) (Fc := fun B W1 c1 => Ext W0 W1 ∧ Blk W1 B 4 79 c1 ∧ WAt c1 0 (fe) ∧ W0.heap.size ≤ B) (fun key => _) _
  rotate_left
  refine wp_region_held_drew (S := fun w' => Ext W0 w') (by kernel_rfl) (Ext.refl _).drew (fun hHeld => ?_)
  have HH : Hid (Ext W0 _) := hHeld
  clear hHeld
  refine wpAnyH_take (i := 0) (v := ?_) rfl (by kernel_rfl) (by kernel_rfl) (by kernel_rfl) (fun _ _ _ h => h) (Or.inl ⟨by rfl, ?_⟩) HH.out ?_
  rotate_left
  · intro w hSw; go_simp; try with_reducible rfl
  change wpAnyH _ _ _ _ _ _ _ (Act.put _ (some 101) _) _
  simp only [Act.put, List.setIfInBounds_toArray, List.set_cons_zero, List.set_cons_succ]
  refine wpAnyH_take (i := 1) rfl (by kernel_rfl) (by kernel_rfl) (by kernel_rfl) (fun _ _ _ h => h) (yields_build (ps := [(0, .int .u64 (us : Nat))]) (by rfl) rfl (b66s husl) (by simp [Act.eval])) HH.out ?_
  change wpAnyH _ _ _ _ _ _ _ (Act.put _ (some 102) _) _
  simp only [Act.put, List.setIfInBounds_toArray, List.set_cons_zero, List.set_cons_succ]
  refine wpAnyH_take (i := 2) (v := ?_) rfl (by kernel_rfl) (by kernel_rfl) (by kernel_rfl) (fun _ _ _ h => h) (Or.inl ⟨by rfl, ?_⟩) HH.out ?_
  rotate_left
  · intro w hSw; go_simp; try with_reducible rfl
  change wpAnyH _ _ _ _ _ _ _ (Act.put _ (some 103) _) _
  simp only [Act.put, List.setIfInBounds_toArray, List.set_cons_zero, List.set_cons_succ]
  refine wpAnyH_take (i := 3) (v := ?_) rfl (by kernel_rfl) (by kernel_rfl) (by kernel_rfl) (fun _ _ _ h => h) (Or.inl ⟨by rfl, ?_⟩) HH.out ?_
  rotate_left
  · intro w hSw; go_simp; try with_reducible rfl
  change wpAnyH _ _ _ _ _ _ _ (Act.put _ (some 104) _) _
  simp only [Act.put, List.setIfInBounds_toArray, List.set_cons_zero, List.set_cons_succ]
  refine wpAnyH_take (i := 4) (v := ?_) rfl (by kernel_rfl) (by kernel_rfl) (by kernel_rfl) (fun _ _ _ h => h) (Or.inl ⟨by rfl, ?_⟩) HH.out ?_
  rotate_left
  · intro w hSw; go_simp; try with_reducible rfl
  change wpAnyH _ _ _ _ _ _ _ (Act.put _ (some 105) _) _
  simp only [Act.put, List.setIfInBounds_toArray, List.set_cons_zero, List.set_cons_succ]
  refine wpAnyH_take (i := 5) rfl (by kernel_rfl) (by kernel_rfl) (by kernel_rfl) (fun _ _ _ h => h) (yields_W (by rfl) rfl rfl (fun w hSw => (h7.ext (hE8.trans (hW0.trans hSw))).v.blk) hpr (by decide)) HH.out ?_
  change wpAnyH _ _ _ _ _ _ _ (Act.put _ (some 106) _) _
  simp only [Act.put, List.setIfInBounds_toArray, List.set_cons_zero, List.set_cons_succ]
  refine wpAnyH_take (i := 6) (v := ?_) rfl (by kernel_rfl) (by kernel_rfl) (by kernel_rfl) (fun _ _ _ h => h) (Or.inl ⟨by rfl, ?_⟩) HH.out ?_
  rotate_left
  · intro w hSw; go_simp; try with_reducible rfl
  change wpAnyH _ _ _ _ _ _ _ (Act.put _ (some 107) _) _
  simp only [Act.put, List.setIfInBounds_toArray, List.set_cons_zero, List.set_cons_succ]
  refine wpAnyH_take (i := 7) (v := ?_) rfl (by kernel_rfl) (by kernel_rfl) (by kernel_rfl) (fun _ _ _ h => h) (Or.inl ⟨by rfl, ?_⟩) HH.out ?_
  rotate_left
  · intro w hSw; go_simp; try with_reducible rfl
  change wpAnyH _ _ _ _ _ _ _ (Act.put _ (some 108) _) _
  simp only [Act.put, List.setIfInBounds_toArray, List.set_cons_zero, List.set_cons_succ]
  refine wpAnyH_take (i := 8) (v := ?_) rfl (by kernel_rfl) (by kernel_rfl) (by kernel_rfl) (fun _ _ _ h => h) (Or.inl ⟨by rfl, ?_⟩) HH.out ?_
  rotate_left
  · intro w hSw; go_simp; try with_reducible rfl
  change wpAnyH _ _ _ _ _ _ _ (Act.put _ (some 109) _) _
  simp only [Act.put, List.setIfInBounds_toArray, List.set_cons_zero, List.set_cons_succ]
  refine wpAnyH_take (i := 9) (v := ?_) rfl (by kernel_rfl) (by kernel_rfl) (by kernel_rfl) (fun _ _ _ h => h) (Or.inl ⟨by rfl, ?_⟩) HH.out ?_
  rotate_left
  · intro w hSw; go_simp; try with_reducible rfl
  change wpAnyH _ _ _ _ _ _ _ (Act.put _ (some 110) _) _
  simp only [Act.put, List.setIfInBounds_toArray, List.set_cons_zero, List.set_cons_succ]
  refine wpAnyH_take (i := 10) rfl (by kernel_rfl) (by kernel_rfl) (by kernel_rfl) (fun _ _ _ h => h) (yields_B (by rfl) rfl rfl (fun w hSw => (h7.ext (hE8.trans (hW0.trans hSw))).v.blk) hen.baseFee hen.bLt (by decide)) HH.out ?_
  change wpAnyH _ _ _ _ _ _ _ (Act.put _ (some 111) _) _
  simp only [Act.put, List.setIfInBounds_toArray, List.set_cons_zero, List.set_cons_succ]
  refine wpAnyH_ready (rs := [11, 14]) (by kernel_rfl) (by simp) ?_
  refine (AllReadyH.cons rfl (fun K hK => ?_) (AllReadyH.cons rfl (fun K hK => ?_) AllReadyH.nil))
  go_simp
  go_at_call 92; refine (HFB _).mono ?_; rintro e wf ⟨rfl, he⟩
  refine hK.out _ _ ?_ (fun hHeld => ?_)
  · first | exact HH.out.trans hmY | exact HH.out.trans he | exact HH.out
  clear hK K HH
  have HH : Hid (Ext W0 _) := hHeld
  clear hHeld
  refine wpAnyH_ready (rs := [12, 14]) (by kernel_rfl) (by simp) ?_
  refine (AllReadyH.cons rfl (fun K hK => ?_) (AllReadyH.cons rfl (fun K hK => ?_) AllReadyH.nil))
  go_simp
  go_at_call 107; refine (HS1 _).mono ?_; rintro e ws ⟨rfl, he⟩
  refine hK.out _ _ ?_ (fun hHeld => ?_)
  · first | exact HH.out.trans hmY | exact HH.out.trans he | exact HH.out
  clear hK K HH
  have HH : Hid (Ext W0 _) := hHeld
  clear hHeld
  refine wpAnyH_ready (rs := [13, 14]) (by kernel_rfl) (by simp) ?_
  refine (AllReadyH.cons rfl (fun K hK => ?_) (AllReadyH.cons rfl (fun K hK => ?_) AllReadyH.nil))
  go_simp
  go_at_call 104; refine (HM2 _).mono ?_; rintro e wm ⟨rfl, he⟩
  refine hK.out _ _ ?_ (fun hHeld => ?_)
  · first | exact HH.out.trans hmY | exact HH.out.trans he | exact HH.out
  clear hK K HH
  have HH : Hid (Ext W0 _) := hHeld
  clear hHeld
  refine wpAnyH_ready (rs := [14]) (by kernel_rfl) (by simp) ?_
  refine AllReadyH.cons rfl (fun K hK => ?_) AllReadyH.nil
  refine step_any rfl (op_allocW rfl ?_)
  rintro B10 W10 c10 e10 b10 _ g10
  refine hK.out _ _ ?_ (fun hHeld => ?_)
  · exact HH.out.trans e10
  clear hK K HH
  have HH : Hid (Ext W0 _) := hHeld
  clear hHeld
  change wpAnyH _ _ _ _ _ _ _ (Act.put _ (some 10) _) _
  simp only [Act.put, List.setIfInBounds_toArray, List.set_cons_zero, List.set_cons_succ]
  refine wpAnyH_ready (rs := [15]) (by kernel_rfl) (by simp) ?_
  refine AllReadyH.cons rfl (fun K hK => ?_) AllReadyH.nil
  refine step_any rfl (op_storeWB rfl rfl rfl (b10.ext (by (repeat (first | with_reducible exact Ext.refl _ | with_reducible assumption | refine Ext.trans ?_ (by with_reducible assumption) | refine Ext.alloc ?_ _ _ | refine Ext.drew ?_ | refine Ext.drewN ?_ _)))) (by decide) ?_)
  rintro W11 c11 b11 a11 _ m11
  refine hK.out _ _ ?_ (fun hHeld => ?_)
  · exact Ext.trans_mod HH.out m11 (fun i hi => by have hi2 : i = B10 := hi; rw [hi2]; exact Nat.le_trans (Ext.size (by (repeat (first | with_reducible exact Ext.refl _ | with_reducible assumption | refine Ext.trans ?_ (by with_reducible assumption) | refine Ext.alloc ?_ _ _ | refine Ext.drew ?_ | refine Ext.drewN ?_ _)))) g10)
  clear hK K HH
  have HH : Hid (Ext W0 _) := hHeld
  clear hHeld
  change wpAnyH _ _ _ _ _ _ _ (Act.put _ none _) _
  simp only [Act.put, List.setIfInBounds_toArray, List.set_cons_zero, List.set_cons_succ]
  refine wpAnyH_done (by kernel_rfl) ?_ _
  exact key B10 W11 c11 ⟨HH.out, b11, a11, Nat.le_trans (Ext.size (by (repeat (first | with_reducible exact Ext.refl _ | with_reducible assumption | refine Ext.trans ?_ (by with_reducible assumption) | refine Ext.alloc ?_ _ _ | refine Ext.drew ?_ | refine Ext.drewN ?_ _)))) g10⟩
  refine step_any rfl (op_allocW rfl ?_)
  rintro B10 W10 c10 e10 b10 _ g10
  refine hK.out _ _ ?_ (fun hHeld => ?_)
  · exact HH.out.trans e10
  clear hK K HH
  have HH : Hid (Ext W0 _) := hHeld
  clear hHeld
  change wpAnyH _ _ _ _ _ _ _ (Act.put _ (some 10) _) _
  simp only [Act.put, List.setIfInBounds_toArray, List.set_cons_zero, List.set_cons_succ]
  refine wpAnyH_ready (rs := [13]) (by kernel_rfl) (by simp) ?_
  refine AllReadyH.cons rfl (fun K hK => ?_) AllReadyH.nil
  go_simp
  go_at_call 104; refine (HM2 _).mono ?_; rintro e wm ⟨rfl, he⟩
  refine hK.out _ _ ?_ (fun hHeld => ?_)
  · first | exact HH.out.trans hmY | exact HH.out.trans he | exact HH.out
  clear hK K HH
  have HH : Hid (Ext W0 _) := hHeld
  clear hHeld
  refine wpAnyH_ready (rs := [15]) (by kernel_rfl) (by simp) ?_
  refine AllReadyH.cons rfl (fun K hK => ?_) AllReadyH.nil
  refine step_any rfl (op_storeWB rfl rfl rfl (b10.ext (by (repeat (first | with_reducible exact Ext.refl _ | with_reducible assumption | refine Ext.trans ?_ (by with_reducible assumption) | refine Ext.alloc ?_ _ _ | refine Ext.drew ?_ | refine Ext.drewN ?_ _)))) (by decide) ?_)
  rintro W11 c11 b11 a11 _ m11
  refine hK.out _ _ ?_ (fun hHeld => ?_)
  · exact Ext.trans_mod HH.out m11 (fun i hi => by have hi2 : i = B10 := hi; rw [hi2]; exact Nat.le_trans (Ext.size (by (repeat (first | with_reducible exact Ext.refl _ | with_reducible assumption | refine Ext.trans ?_ (by with_reducible assumption) | refine Ext.alloc ?_ _ _ | refine Ext.drew ?_ | refine Ext.drewN ?_ _)))) g10)
  clear hK K HH
  have HH : Hid (Ext W0 _) := hHeld
  clear hHeld
  change wpAnyH _ _ _ _ _ _ _ (Act.put _ none _) _
  simp only [Act.put, List.setIfInBounds_toArray, List.set_cons_zero, List.set_cons_succ]
  refine wpAnyH_done (by kernel_rfl) ?_ _
  exact key B10 W11 c11 ⟨HH.out, b11, a11, Nat.le_trans (Ext.size (by (repeat (first | with_reducible exact Ext.refl _ | with_reducible assumption | refine Ext.trans ?_ (by with_reducible assumption) | refine Ext.alloc ?_ _ _ | refine Ext.drew ?_ | refine Ext.drewN ?_ _)))) g10⟩
  refine step_any rfl (op_allocW rfl ?_)
  rintro B10 W10 c10 e10 b10 _ g10
  refine hK.out _ _ ?_ (fun hHeld => ?_)
  · exact HH.out.trans e10
  clear hK K HH
  have HH : Hid (Ext W0 _) := hHeld
  clear hHeld
  change wpAnyH _ _ _ _ _ _ _ (Act.put _ (some 10) _) _
  simp only [Act.put, List.setIfInBounds_toArray, List.set_cons_zero, List.set_cons_succ]
  refine wpAnyH_ready (rs := [12]) (by kernel_rfl) (by simp) ?_
  refine AllReadyH.cons rfl (fun K hK => ?_) AllReadyH.nil
  go_simp
  go_at_call 107; refine (HS1 _).mono ?_; rintro e ws ⟨rfl, he⟩
  refine hK.out _ _ ?_ (fun hHeld => ?_)
  · first | exact HH.out.trans hmY | exact HH.out.trans he | exact HH.out
  clear hK K HH
  have HH : Hid (Ext W0 _) := hHeld
  clear hHeld
  refine wpAnyH_ready (rs := [13]) (by kernel_rfl) (by simp) ?_
  refine AllReadyH.cons rfl (fun K hK => ?_) AllReadyH.nil
  go_simp
  go_at_call 104; refine (HM2 _).mono ?_; rintro e wm ⟨rfl, he⟩
  refine hK.out _ _ ?_ (fun hHeld => ?_)
  · first | exact HH.out.trans hmY | exact HH.out.trans he | exact HH.out
  clear hK K HH
  have HH : Hid (Ext W0 _) := hHeld
  clear hHeld
  refine wpAnyH_ready (rs := [15]) (by kernel_rfl) (by simp) ?_
  refine AllReadyH.cons rfl (fun K hK => ?_) AllReadyH.nil
  refine step_any rfl (op_storeWB rfl rfl rfl (b10.ext (by (repeat (first | with_reducible exact Ext.refl _ | with_reducible assumption | refine Ext.trans ?_ (by with_reducible assumption) | refine Ext.alloc ?_ _ _ | refine Ext.drew ?_ | refine Ext.drewN ?_ _)))) (by decide) ?_)
  rintro W11 c11 b11 a11 _ m11
  refine hK.out _ _ ?_ (fun hHeld => ?_)
  · exact Ext.trans_mod HH.out m11 (fun i hi => by have hi2 : i = B10 := hi; rw [hi2]; exact Nat.le_trans (Ext.size (by (repeat (first | with_reducible exact Ext.refl _ | with_reducible assumption | refine Ext.trans ?_ (by with_reducible assumption) | refine Ext.alloc ?_ _ _ | refine Ext.drew ?_ | refine Ext.drewN ?_ _)))) g10)
  clear hK K HH
  have HH : Hid (Ext W0 _) := hHeld
  clear hHeld
  change wpAnyH _ _ _ _ _ _ _ (Act.put _ none _) _
  simp only [Act.put, List.setIfInBounds_toArray, List.set_cons_zero, List.set_cons_succ]
  refine wpAnyH_done (by kernel_rfl) ?_ _
  exact key B10 W11 c11 ⟨HH.out, b11, a11, Nat.le_trans (Ext.size (by (repeat (first | with_reducible exact Ext.refl _ | with_reducible assumption | refine Ext.trans ?_ (by with_reducible assumption) | refine Ext.alloc ?_ _ _ | refine Ext.drew ?_ | refine Ext.drewN ?_ _)))) g10⟩
  refine step_any rfl (op_allocW rfl ?_)
  rintro B10 W10 c10 e10 b10 _ g10
  refine hK.out _ _ ?_ (fun hHeld => ?_)
  · exact HH.out.trans e10
  clear hK K HH
  have HH : Hid (Ext W0 _) := hHeld
  clear hHeld
  change wpAnyH _ _ _ _ _ _ _ (Act.put _ (some 10) _) _
  simp only [Act.put, List.setIfInBounds_toArray, List.set_cons_zero, List.set_cons_succ]
  refine wpAnyH_ready (rs := [11]) (by kernel_rfl) (by simp) ?_
  refine AllReadyH.cons rfl (fun K hK => ?_) AllReadyH.nil
  go_simp
  go_at_call 92; refine (HFB _).mono ?_; rintro e wf ⟨rfl, he⟩
  refine hK.out _ _ ?_ (fun hHeld => ?_)
  · first | exact HH.out.trans hmY | exact HH.out.trans he | exact HH.out
  clear hK K HH
  have HH : Hid (Ext W0 _) := hHeld
  clear hHeld
  refine wpAnyH_ready (rs := [12]) (by kernel_rfl) (by simp) ?_
  refine AllReadyH.cons rfl (fun K hK => ?_) AllReadyH.nil
  go_simp
  go_at_call 107; refine (HS1 _).mono ?_; rintro e ws ⟨rfl, he⟩
  refine hK.out _ _ ?_ (fun hHeld => ?_)
  · first | exact HH.out.trans hmY | exact HH.out.trans he | exact HH.out
  clear hK K HH
  have HH : Hid (Ext W0 _) := hHeld
  clear hHeld
  refine wpAnyH_ready (rs := [13]) (by kernel_rfl) (by simp) ?_
  refine AllReadyH.cons rfl (fun K hK => ?_) AllReadyH.nil
  go_simp
  go_at_call 104; refine (HM2 _).mono ?_; rintro e wm ⟨rfl, he⟩
  refine hK.out _ _ ?_ (fun hHeld => ?_)
  · first | exact HH.out.trans hmY | exact HH.out.trans he | exact HH.out
  clear hK K HH
  have HH : Hid (Ext W0 _) := hHeld
  clear hHeld
  refine wpAnyH_ready (rs := [15]) (by kernel_rfl) (by simp) ?_
  refine AllReadyH.cons rfl (fun K hK => ?_) AllReadyH.nil
  refine step_any rfl (op_storeWB rfl rfl rfl (b10.ext (by (repeat (first | with_reducible exact Ext.refl _ | with_reducible assumption | refine Ext.trans ?_ (by with_reducible assumption) | refine Ext.alloc ?_ _ _ | refine Ext.drew ?_ | refine Ext.drewN ?_ _)))) (by decide) ?_)
  rintro W11 c11 b11 a11 _ m11
  refine hK.out _ _ ?_ (fun hHeld => ?_)
  · exact Ext.trans_mod HH.out m11 (fun i hi => by have hi2 : i = B10 := hi; rw [hi2]; exact Nat.le_trans (Ext.size (by (repeat (first | with_reducible exact Ext.refl _ | with_reducible assumption | refine Ext.trans ?_ (by with_reducible assumption) | refine Ext.alloc ?_ _ _ | refine Ext.drew ?_ | refine Ext.drewN ?_ _)))) g10)
  clear hK K HH
  have HH : Hid (Ext W0 _) := hHeld
  clear hHeld
  change wpAnyH _ _ _ _ _ _ _ (Act.put _ none _) _
  simp only [Act.put, List.setIfInBounds_toArray, List.set_cons_zero, List.set_cons_succ]
  refine wpAnyH_done (by kernel_rfl) ?_ _
  exact key B10 W11 c11 ⟨HH.out, b11, a11, Nat.le_trans (Ext.size (by (repeat (first | with_reducible exact Ext.refl _ | with_reducible assumption | refine Ext.trans ?_ (by with_reducible assumption) | refine Ext.alloc ?_ _ _ | refine Ext.drew ?_ | refine Ext.drewN ?_ _)))) g10⟩
  rintro B10 W9 c9 ⟨hE9', b9, a9, g9⟩
  have hE9 : Ext W0a W9 := hE8.trans (hW0.trans hE9')
  have g10w : W0a.heap.size ≤ B10 := Nat.le_trans (hE8.trans hW0).size g9
  have b29 : Blk W9 B2 25 51 (cf z46a) := b28.ext (hW0.trans hE9')
  have b89 : Blk W9 B9 4 79 c8 := b8.ext (hW0.trans hE9')
  have h9 := h7.ext hE9
  have o9 : own7 B9 = 0 := by
    have hne : B9 ≠ B2 := fun q => by rw [q] at g9w; have := b2.lt; omega
    rw [o7n B9 hne]
    exact h.v.fresh B9 (Nat.le_trans e0a.size g9w)
  have o10 : own7 B10 = 0 := by
    have hne : B10 ≠ B2 := fun q => by rw [q] at g10w; have := b2.lt; omega
    rw [o7n B10 hne]
    exact h.v.fresh B10 (Nat.le_trans e0a.size g10w)
  clear hE9' hW0 b28 b8 b2 HM1 HM2 HS1 HL1 HFB HSz HRf
  obtain ⟨b0, hb0⟩ : ∃ z, Hid (st.now.bal st.origin = z) := ⟨_, rfl⟩
  have eb0 : (V.acct st.origin).bal = b0 := (congrFun (congrArg AW.bal h.abs) st.origin).trans hb0.out
  have HB0 := fun W (hW : Ext W9 W) => vBalance (h9.ext hW).v hm.oLt
  rw [eb0] at HB0
  obtain ⟨n1, hn1⟩ : ∃ z, Hid (b0 + bk = z) := ⟨_, rfl⟩
  rw [hb0.out] at ho1 ho2
  rw [hn1.out] at ho1 ho2
  have HA0 : ∀ W, Calls Hvah.prog 123 #[wv b0, wv bk] W fun e w' => e = .returned (wv n1) ∧ Ext W w' := fun W => by
    have q := uAdd b0 bk W (by have := hn1.out; omega) hbkl
    rw [hn1.out, Nat.mod_eq_of_lt ho1] at q
    exact q
  have HP1 := fun W (hW : Ext W9 W) => mPutBal (n := 1) (h9.ext hW) hr st.origin hm.oLt n1 ho1
  have horig := hm.origin
  go_upto_region 10 with (fail)
  refine w_ext ?_
  rintro W0 hW0
  refine wp_region_held_drew (S := fun w' => SV own7 g c W0 w') (by kernel_rfl) (SV.start (h9.v.blk.ext hW0) (Ext.refl _).drew) (fun hHeld => ?_)
  have HH : Hid (SV own7 g c W0 _) := hHeld
  clear hHeld
  refine wpAnyH_take (i := 0) (v := ?_) rfl (by kernel_rfl) (by kernel_rfl) (by kernel_rfl) (fun _ _ _ h => h) (Or.inl ⟨by rfl, ?_⟩) HH.out ?_
  rotate_left
  · intro w hSw; go_simp; try with_reducible rfl
  change wpAnyH _ _ _ _ _ _ _ (Act.put _ (some 115) _) _
  simp only [Act.put, List.setIfInBounds_toArray, List.set_cons_zero, List.set_cons_succ]
  refine wpAnyH_take (i := 1) (v := ?_) rfl (by kernel_rfl) (by kernel_rfl) (by kernel_rfl) (fun _ _ _ h => h) (Or.inl ⟨by rfl, ?_⟩) HH.out ?_
  rotate_left
  · intro w hSw; go_simp; try with_reducible rfl
  change wpAnyH _ _ _ _ _ _ _ (Act.put _ (some 116) _) _
  simp only [Act.put, List.setIfInBounds_toArray, List.set_cons_zero, List.set_cons_succ]
  refine wpAnyH_take (i := 2) (v := ?_) rfl (by kernel_rfl) (by kernel_rfl) (by kernel_rfl) (fun _ _ _ h => h) (Or.inl ⟨by rfl, ?_⟩) HH.out ?_
  rotate_left
  · intro w hSw; go_simp; try with_reducible rfl
  change wpAnyH _ _ _ _ _ _ _ (Act.put _ (some 117) _) _
  simp only [Act.put, List.setIfInBounds_toArray, List.set_cons_zero, List.set_cons_succ]
  refine wpAnyH_take (i := 3) rfl (by kernel_rfl) (by kernel_rfl) (by kernel_rfl) (fun _ _ _ h => h) (yieldsIf_load1 (by rfl) _ _ rfl _ _ rfl oneP60 _ (fun w hSw => by rw [SV.cell hSw (by decide), hm.ptr])) HH.out ?_
  change wpAnyH _ _ _ _ _ _ _ (Act.put _ (some 118) _) _
  simp only [Act.put, List.setIfInBounds_toArray, List.set_cons_zero, List.set_cons_succ]
  refine wpAnyH_take (i := 4) (v := ?_) rfl (by kernel_rfl) (by kernel_rfl) (by kernel_rfl) (fun _ _ _ h => h) (Or.inl ⟨by rfl, ?_⟩) HH.out ?_
  rotate_left
  · intro w hSw; go_simp; try with_reducible rfl
  change wpAnyH _ _ _ _ _ _ _ (Act.put _ (some 119) _) _
  simp only [Act.put, List.setIfInBounds_toArray, List.set_cons_zero, List.set_cons_succ]
  refine wpAnyH_take (i := 5) (v := ?_) rfl (by kernel_rfl) (by kernel_rfl) (by kernel_rfl) (fun _ _ _ h => h) (Or.inl ⟨by rfl, ?_⟩) HH.out ?_
  rotate_left
  · intro w hSw; go_simp; try with_reducible rfl
  change wpAnyH _ _ _ _ _ _ _ (Act.put _ (some 120) _) _
  simp only [Act.put, List.setIfInBounds_toArray, List.set_cons_zero, List.set_cons_succ]
  refine wpAnyH_take (i := 6) (v := ?_) rfl (by kernel_rfl) (by kernel_rfl) (by kernel_rfl) (fun _ _ _ h => h) (Or.inl ⟨by rfl, ?_⟩) HH.out ?_
  rotate_left
  · intro w hSw; go_simp; try with_reducible rfl
  change wpAnyH _ _ _ _ _ _ _ (Act.put _ (some 121) _) _
  simp only [Act.put, List.setIfInBounds_toArray, List.set_cons_zero, List.set_cons_succ]
  refine wpAnyH_take (i := 7) rfl (by kernel_rfl) (by kernel_rfl) (by kernel_rfl) (fun _ _ _ h => h) (yieldsS_A (by rfl) rfl rfl (fun w hSw j hj => SV.cell hSw (by omega)) horig hm.oLt) HH.out ?_
  change wpAnyH _ _ _ _ _ _ _ (Act.put _ (some 122) _) _
  simp only [Act.put, List.setIfInBounds_toArray, List.set_cons_zero, List.set_cons_succ]
  refine wpAnyH_take (i := 8) (v := ?_) rfl (by kernel_rfl) (by kernel_rfl) (by kernel_rfl) (fun _ _ _ h => h) (Or.inl ⟨by rfl, ?_⟩) HH.out ?_
  rotate_left
  · intro w hSw; go_simp; try with_reducible rfl
  change wpAnyH _ _ _ _ _ _ _ (Act.put _ (some 123) _) _
  simp only [Act.put, List.setIfInBounds_toArray, List.set_cons_zero, List.set_cons_succ]
  refine wpAnyH_take (i := 9) (v := ?_) rfl (by kernel_rfl) (by kernel_rfl) (by kernel_rfl) (fun _ _ _ h => h) (Or.inl ⟨by rfl, ?_⟩) HH.out ?_
  rotate_left
  · intro w hSw; go_simp; try with_reducible rfl
  change wpAnyH _ _ _ _ _ _ _ (Act.put _ (some 124) _) _
  simp only [Act.put, List.setIfInBounds_toArray, List.set_cons_zero, List.set_cons_succ]
  refine wpAnyH_take (i := 10) (v := ?_) rfl (by kernel_rfl) (by kernel_rfl) (by kernel_rfl) (fun _ _ _ h => h) (Or.inl ⟨by rfl, ?_⟩) HH.out ?_
  rotate_left
  · intro w hSw; go_simp; try with_reducible rfl
  change wpAnyH _ _ _ _ _ _ _ (Act.put _ (some 125) _) _
  simp only [Act.put, List.setIfInBounds_toArray, List.set_cons_zero, List.set_cons_succ]
  refine wpAnyH_take (i := 11) rfl (by kernel_rfl) (by kernel_rfl) (by kernel_rfl) (fun _ _ _ h => h) (yieldsIf_load1 (by rfl) _ _ rfl _ _ rfl oneP60 _ (fun w hSw => by rw [SV.cell hSw (by decide), hm.ptr])) HH.out ?_
  change wpAnyH _ _ _ _ _ _ _ (Act.put _ (some 126) _) _
  simp only [Act.put, List.setIfInBounds_toArray, List.set_cons_zero, List.set_cons_succ]
  refine wpAnyH_take (i := 12) (v := ?_) rfl (by kernel_rfl) (by kernel_rfl) (by kernel_rfl) (fun _ _ _ h => h) (Or.inl ⟨by rfl, ?_⟩) HH.out ?_
  rotate_left
  · intro w hSw; go_simp; try with_reducible rfl
  change wpAnyH _ _ _ _ _ _ _ (Act.put _ (some 127) _) _
  simp only [Act.put, List.setIfInBounds_toArray, List.set_cons_zero, List.set_cons_succ]
  refine wpAnyH_take (i := 13) (v := ?_) rfl (by kernel_rfl) (by kernel_rfl) (by kernel_rfl) (fun _ _ _ h => h) (Or.inl ⟨by rfl, ?_⟩) HH.out ?_
  rotate_left
  · intro w hSw; go_simp; try with_reducible rfl
  change wpAnyH _ _ _ _ _ _ _ (Act.put _ (some 128) _) _
  simp only [Act.put, List.setIfInBounds_toArray, List.set_cons_zero, List.set_cons_succ]
  refine wpAnyH_take (i := 14) (v := ?_) rfl (by kernel_rfl) (by kernel_rfl) (by kernel_rfl) (fun _ _ _ h => h) (Or.inl ⟨by rfl, ?_⟩) HH.out ?_
  rotate_left
  · intro w hSw; go_simp; try with_reducible rfl
  change wpAnyH _ _ _ _ _ _ _ (Act.put _ (some 129) _) _
  simp only [Act.put, List.setIfInBounds_toArray, List.set_cons_zero, List.set_cons_succ]
  refine wpAnyH_take (i := 15) rfl (by kernel_rfl) (by kernel_rfl) (by kernel_rfl) (fun _ _ _ h => h) (yieldsS_A (by rfl) rfl rfl (fun w hSw j hj => SV.cell hSw (by omega)) horig hm.oLt) HH.out ?_
  change wpAnyH _ _ _ _ _ _ _ (Act.put _ (some 130) _) _
  simp only [Act.put, List.setIfInBounds_toArray, List.set_cons_zero, List.set_cons_succ]
  refine wpAnyH_take (i := 17) rfl (by kernel_rfl) (by kernel_rfl) (by kernel_rfl) (fun _ _ _ h => h) (yields_W (by rfl) rfl rfl (fun w hSw => SV.box hSw (b89.ext hW0) o9) a8 (by decide)) HH.out ?_
  change wpAnyH _ _ _ _ _ _ _ (Act.put _ (some 132) _) _
  simp only [Act.put, List.setIfInBounds_toArray, List.set_cons_zero, List.set_cons_succ]
  refine wpAnyH_ready (rs := [16]) (by kernel_rfl) (by simp) ?_
  refine AllReadyH.cons rfl (fun K hK => ?_) AllReadyH.nil
  go_simp
  go_at_call 108; refine (HB0 _ (hW0.trans (by (repeat (first | with_reducible exact Ext.refl _ | with_reducible assumption | refine Ext.trans ?_ (by with_reducible assumption) | refine Ext.alloc ?_ _ _ | refine Ext.drew ?_ | refine Ext.drewN ?_ _))))).mono ?_; rintro e wa ⟨rfl, he⟩
  refine hK.out _ _ ?_ (fun hHeld => ?_)
  · first | exact ⟨own8, c8x, (VStep.ext (by (repeat (first | with_reducible exact Ext.refl _ | with_reducible assumption | refine Ext.trans ?_ (by with_reducible assumption) | refine Ext.alloc ?_ _ _ | refine Ext.drew ?_ | refine Ext.drewN ?_ _)))).trans k8, h8.v.blk⟩ | exact HH.out.ext he
  clear hK K HH
  have HH : Hid (SV own7 g c W0 _) := hHeld
  clear hHeld
  refine wpAnyH_ready (rs := [18]) (by kernel_rfl) (by simp) ?_
  refine AllReadyH.cons rfl (fun K hK => ?_) AllReadyH.nil
  go_simp
  go_at_call 123; refine (HA0 _).mono ?_; rintro e wb ⟨rfl, he⟩
  refine hK.out _ _ ?_ (fun hHeld => ?_)
  · first | exact ⟨own8, c8x, (VStep.ext (by (repeat (first | with_reducible exact Ext.refl _ | with_reducible assumption | refine Ext.trans ?_ (by with_reducible assumption) | refine Ext.alloc ?_ _ _ | refine Ext.drew ?_ | refine Ext.drewN ?_ _)))).trans k8, h8.v.blk⟩ | exact HH.out.ext he
  clear hK K HH
  have HH : Hid (SV own7 g c W0 _) := hHeld
  clear hHeld
  refine wpAnyH_ready (rs := [19]) (by kernel_rfl) (by simp) ?_
  refine AllReadyH.cons rfl (fun K hK => ?_) AllReadyH.nil
  go_simp
  go_at_call 106; refine (HP1 _ (hW0.trans (by (repeat (first | with_reducible exact Ext.refl _ | with_reducible assumption | refine Ext.trans ?_ (by with_reducible assumption) | refine Ext.alloc ?_ _ _ | refine Ext.drew ?_ | refine Ext.drewN ?_ _))))).mono ?_; rintro e w10 ⟨rfl, own8, c8x, h8, k8⟩
  refine hK.out _ _ ?_ (fun hHeld => ?_)
  · first | exact ⟨own8, c8x, (VStep.ext (by (repeat (first | with_reducible exact Ext.refl _ | with_reducible assumption | refine Ext.trans ?_ (by with_reducible assumption) | refine Ext.alloc ?_ _ _ | refine Ext.drew ?_ | refine Ext.drewN ?_ _)))).trans k8, h8.v.blk⟩ | exact HH.out.ext he
  clear hK K HH
  have HH : Hid (SV own7 g c W0 _) := hHeld
  clear hHeld
  refine wpAnyH_done (by kernel_rfl) ?_ _
  have hE10 : Ext W9 _ := hW0.trans (show Ext W0 wb by (repeat (first | with_reducible exact Ext.refl _ | with_reducible assumption | refine Ext.trans ?_ (by with_reducible assumption) | refine Ext.alloc ?_ _ _ | refine Ext.drew ?_ | refine Ext.drewN ?_ _)))
  have k10 : VStep own7 W9 c own8 w10 c8x := (VStep.ext hE10).trans k8
  have s10 : MStep own w own8 w10 := s0.trans ((MStep.ext hE9).trans k10.mstep)
  have b210 : Blk w10 B2 25 51 (cf z46a) := b29.mod k10.mod (fun q => q.2 o7B)
  have b910 : Blk w10 B10 4 79 c9 := b9.mod k10.mod (fun q => q.1.1 o10)
  have o8B : own8 B2 = 7 := by rw [k10.keep B2 b29.lt]; exact o7B
  have o810 : own8 B10 = 0 := by rw [k10.keep B10 b9.lt]; exact o10
  have hm8 := h8.m
  clear HH hW0 HB0 HA0 HP1 hE10 k8
  obtain ⟨b1, hb1⟩ : ∃ z, Hid ((st.now.setBal st.origin n1).bal st.env.coinbase = z) := ⟨_, rfl⟩
  have eb1 : ((V.putBal st.origin n1).acct st.env.coinbase).bal = b1 := (congrFun (congrArg AW.bal h8.abs) st.env.coinbase).trans hb1.out
  have HB1 := fun W (hW : Ext w10 W) => vBalance (h8.ext hW).v hen.cLt
  rw [eb1] at HB1
  obtain ⟨n2, hn2⟩ : ∃ z, Hid (b1 + fe = z) := ⟨_, rfl⟩
  rw [hb1.out, hn2.out] at ho2
  have HA1 : ∀ W, Calls Hvah.prog 123 #[wv b1, wv fe] W fun e w' => e = .returned (wv n2) ∧ Ext W w' := fun W => by
    have q := uAdd b1 fe W (by have := hn2.out; omega) hfel
    rw [hn2.out, Nat.mod_eq_of_lt ho2] at q
    exact q
  have HP2 := fun W (hW : Ext w10 W) => mPutBal (n := 0) (h8.ext hW) (Room.opA (n := 1) hr) st.env.coinbase hen.cLt n2 ho2
  have hcoin := hm8.env.coinbase
  have hptr8 := hm8.ptr
  go_upto_region 11 with (fail)
  refine w_ext ?_
  rintro W0 hW0
  refine wp_region_held_drew (S := fun w' => SV own8 g c8x W0 w') (by kernel_rfl) (SV.start (h8.v.blk.ext hW0) (Ext.refl _).drew) (fun hHeld => ?_)
  have HH : Hid (SV own8 g c8x W0 _) := hHeld
  clear hHeld
  refine wpAnyH_take (i := 0) (v := ?_) rfl (by kernel_rfl) (by kernel_rfl) (by kernel_rfl) (fun _ _ _ h => h) (Or.inl ⟨by rfl, ?_⟩) HH.out ?_
  rotate_left
  · intro w hSw; go_simp; try with_reducible rfl
  change wpAnyH _ _ _ _ _ _ _ (Act.put _ (some 135) _) _
  simp only [Act.put, List.setIfInBounds_toArray, List.set_cons_zero, List.set_cons_succ]
  refine wpAnyH_take (i := 1) (v := ?_) rfl (by kernel_rfl) (by kernel_rfl) (by kernel_rfl) (fun _ _ _ h => h) (Or.inl ⟨by rfl, ?_⟩) HH.out ?_
  rotate_left
  · intro w hSw; go_simp; try with_reducible rfl
  change wpAnyH _ _ _ _ _ _ _ (Act.put _ (some 136) _) _
  simp only [Act.put, List.setIfInBounds_toArray, List.set_cons_zero, List.set_cons_succ]
  refine wpAnyH_take (i := 2) (v := ?_) rfl (by kernel_rfl) (by kernel_rfl) (by kernel_rfl) (fun _ _ _ h => h) (Or.inl ⟨by rfl, ?_⟩) HH.out ?_
  rotate_left
  · intro w hSw; go_simp; try with_reducible rfl
  change wpAnyH _ _ _ _ _ _ _ (Act.put _ (some 137) _) _
  simp only [Act.put, List.setIfInBounds_toArray, List.set_cons_zero, List.set_cons_succ]
  refine wpAnyH_take (i := 3) rfl (by kernel_rfl) (by kernel_rfl) (by kernel_rfl) (fun _ _ _ h => h) (yieldsIf_load1 (by rfl) _ _ rfl _ _ rfl oneP60 _ (fun w hSw => by rw [SV.cell hSw (by decide), hptr8])) HH.out ?_
  change wpAnyH _ _ _ _ _ _ _ (Act.put _ (some 138) _) _
  simp only [Act.put, List.setIfInBounds_toArray, List.set_cons_zero, List.set_cons_succ]
  refine wpAnyH_take (i := 4) (v := ?_) rfl (by kernel_rfl) (by kernel_rfl) (by kernel_rfl) (fun _ _ _ h => h) (Or.inl ⟨by rfl, ?_⟩) HH.out ?_
  rotate_left
  · intro w hSw; go_simp; try with_reducible rfl
  change wpAnyH _ _ _ _ _ _ _ (Act.put _ (some 139) _) _
  simp only [Act.put, List.setIfInBounds_toArray, List.set_cons_zero, List.set_cons_succ]
  refine wpAnyH_take (i := 5) (v := ?_) rfl (by kernel_rfl) (by kernel_rfl) (by kernel_rfl) (fun _ _ _ h => h) (Or.inl ⟨by rfl, ?_⟩) HH.out ?_
  rotate_left
  · intro w hSw; go_simp; try with_reducible rfl
  change wpAnyH _ _ _ _ _ _ _ (Act.put _ (some 140) _) _
  simp only [Act.put, List.setIfInBounds_toArray, List.set_cons_zero, List.set_cons_succ]
  refine wpAnyH_take (i := 6) (v := ?_) rfl (by kernel_rfl) (by kernel_rfl) (by kernel_rfl) (fun _ _ _ h => h) (Or.inl ⟨by rfl, ?_⟩) HH.out ?_
  rotate_left
  · intro w hSw; go_simp; try with_reducible rfl
  change wpAnyH _ _ _ _ _ _ _ (Act.put _ (some 141) _) _
  simp only [Act.put, List.setIfInBounds_toArray, List.set_cons_zero, List.set_cons_succ]
  refine wpAnyH_take (i := 7) (v := ?_) rfl (by kernel_rfl) (by kernel_rfl) (by kernel_rfl) (fun _ _ _ h => h) (Or.inl ⟨by rfl, ?_⟩) HH.out ?_
  rotate_left
  · intro w hSw; go_simp; try with_reducible rfl
  change wpAnyH _ _ _ _ _ _ _ (Act.put _ (some 142) _) _
  simp only [Act.put, List.setIfInBounds_toArray, List.set_cons_zero, List.set_cons_succ]
  refine wpAnyH_take (i := 8) rfl (by kernel_rfl) (by kernel_rfl) (by kernel_rfl) (fun _ _ _ h => h) (yieldsS_A (by rfl) rfl rfl (fun w hSw j hj => SV.cell hSw (by omega)) hcoin hen.cLt) HH.out ?_
  change wpAnyH _ _ _ _ _ _ _ (Act.put _ (some 143) _) _
  simp only [Act.put, List.setIfInBounds_toArray, List.set_cons_zero, List.set_cons_succ]
  refine wpAnyH_take (i := 9) (v := ?_) rfl (by kernel_rfl) (by kernel_rfl) (by kernel_rfl) (fun _ _ _ h => h) (Or.inl ⟨by rfl, ?_⟩) HH.out ?_
  rotate_left
  · intro w hSw; go_simp; try with_reducible rfl
  change wpAnyH _ _ _ _ _ _ _ (Act.put _ (some 144) _) _
  simp only [Act.put, List.setIfInBounds_toArray, List.set_cons_zero, List.set_cons_succ]
  refine wpAnyH_take (i := 10) (v := ?_) rfl (by kernel_rfl) (by kernel_rfl) (by kernel_rfl) (fun _ _ _ h => h) (Or.inl ⟨by rfl, ?_⟩) HH.out ?_
  rotate_left
  · intro w hSw; go_simp; try with_reducible rfl
  change wpAnyH _ _ _ _ _ _ _ (Act.put _ (some 145) _) _
  simp only [Act.put, List.setIfInBounds_toArray, List.set_cons_zero, List.set_cons_succ]
  refine wpAnyH_take (i := 11) (v := ?_) rfl (by kernel_rfl) (by kernel_rfl) (by kernel_rfl) (fun _ _ _ h => h) (Or.inl ⟨by rfl, ?_⟩) HH.out ?_
  rotate_left
  · intro w hSw; go_simp; try with_reducible rfl
  change wpAnyH _ _ _ _ _ _ _ (Act.put _ (some 146) _) _
  simp only [Act.put, List.setIfInBounds_toArray, List.set_cons_zero, List.set_cons_succ]
  refine wpAnyH_take (i := 12) rfl (by kernel_rfl) (by kernel_rfl) (by kernel_rfl) (fun _ _ _ h => h) (yieldsIf_load1 (by rfl) _ _ rfl _ _ rfl oneP60 _ (fun w hSw => by rw [SV.cell hSw (by decide), hptr8])) HH.out ?_
  change wpAnyH _ _ _ _ _ _ _ (Act.put _ (some 147) _) _
  simp only [Act.put, List.setIfInBounds_toArray, List.set_cons_zero, List.set_cons_succ]
  refine wpAnyH_take (i := 13) (v := ?_) rfl (by kernel_rfl) (by kernel_rfl) (by kernel_rfl) (fun _ _ _ h => h) (Or.inl ⟨by rfl, ?_⟩) HH.out ?_
  rotate_left
  · intro w hSw; go_simp; try with_reducible rfl
  change wpAnyH _ _ _ _ _ _ _ (Act.put _ (some 148) _) _
  simp only [Act.put, List.setIfInBounds_toArray, List.set_cons_zero, List.set_cons_succ]
  refine wpAnyH_take (i := 14) (v := ?_) rfl (by kernel_rfl) (by kernel_rfl) (by kernel_rfl) (fun _ _ _ h => h) (Or.inl ⟨by rfl, ?_⟩) HH.out ?_
  rotate_left
  · intro w hSw; go_simp; try with_reducible rfl
  change wpAnyH _ _ _ _ _ _ _ (Act.put _ (some 149) _) _
  simp only [Act.put, List.setIfInBounds_toArray, List.set_cons_zero, List.set_cons_succ]
  refine wpAnyH_take (i := 15) (v := ?_) rfl (by kernel_rfl) (by kernel_rfl) (by kernel_rfl) (fun _ _ _ h => h) (Or.inl ⟨by rfl, ?_⟩) HH.out ?_
  rotate_left
  · intro w hSw; go_simp; try with_reducible rfl
  change wpAnyH _ _ _ _ _ _ _ (Act.put _ (some 150) _) _
  simp only [Act.put, List.setIfInBounds_toArray, List.set_cons_zero, List.set_cons_succ]
  refine wpAnyH_take (i := 16) (v := ?_) rfl (by kernel_rfl) (by kernel_rfl) (by kernel_rfl) (fun _ _ _ h => h) (Or.inl ⟨by rfl, ?_⟩) HH.out ?_
  rotate_left
  · intro w hSw; go_simp; try with_reducible rfl
  change wpAnyH _ _ _ _ _ _ _ (Act.put _ (some 151) _) _
  simp only [Act.put, List.setIfInBounds_toArray, List.set_cons_zero, List.set_cons_succ]
  refine wpAnyH_take (i := 17) rfl (by kernel_rfl) (by kernel_rfl) (by kernel_rfl) (fun _ _ _ h => h) (yieldsS_A (by rfl) rfl rfl (fun w hSw j hj => SV.cell hSw (by omega)) hcoin hen.cLt) HH.out ?_
  change wpAnyH _ _ _ _ _ _ _ (Act.put _ (some 152) _) _
  simp only [Act.put, List.setIfInBounds_toArray, List.set_cons_zero, List.set_cons_succ]
  refine wpAnyH_take (i := 19) rfl (by kernel_rfl) (by kernel_rfl) (by kernel_rfl) (fun _ _ _ h => h) (yields_W (by rfl) rfl rfl (fun w hSw => SV.box hSw (b910.ext hW0) o810) a9 (by decide)) HH.out ?_
  change wpAnyH _ _ _ _ _ _ _ (Act.put _ (some 154) _) _
  simp only [Act.put, List.setIfInBounds_toArray, List.set_cons_zero, List.set_cons_succ]
  refine wpAnyH_ready (rs := [18]) (by kernel_rfl) (by simp) ?_
  refine AllReadyH.cons rfl (fun K hK => ?_) AllReadyH.nil
  go_simp
  go_at_call 108; refine (HB1 _ (hW0.trans (by (repeat (first | with_reducible exact Ext.refl _ | with_reducible assumption | refine Ext.trans ?_ (by with_reducible assumption) | refine Ext.alloc ?_ _ _ | refine Ext.drew ?_ | refine Ext.drewN ?_ _))))).mono ?_; rintro e wa ⟨rfl, he⟩
  refine hK.out _ _ ?_ (fun hHeld => ?_)
  · first | exact ⟨own9, c9x, (VStep.ext (by (repeat (first | with_reducible exact Ext.refl _ | with_reducible assumption | refine Ext.trans ?_ (by with_reducible assumption) | refine Ext.alloc ?_ _ _ | refine Ext.drew ?_ | refine Ext.drewN ?_ _)))).trans k9, h9x.v.blk⟩ | exact HH.out.ext he
  clear hK K HH
  have HH : Hid (SV own8 g c8x W0 _) := hHeld
  clear hHeld
  refine wpAnyH_ready (rs := [20]) (by kernel_rfl) (by simp) ?_
  refine AllReadyH.cons rfl (fun K hK => ?_) AllReadyH.nil
  go_simp
  go_at_call 123; refine (HA1 _).mono ?_; rintro e wb ⟨rfl, he⟩
  refine hK.out _ _ ?_ (fun hHeld => ?_)
  · first | exact ⟨own9, c9x, (VStep.ext (by (repeat (first | with_reducible exact Ext.refl _ | with_reducible assumption | refine Ext.trans ?_ (by with_reducible assumption) | refine Ext.alloc ?_ _ _ | refine Ext.drew ?_ | refine Ext.drewN ?_ _)))).trans k9, h9x.v.blk⟩ | exact HH.out.ext he
  clear hK K HH
  have HH : Hid (SV own8 g c8x W0 _) := hHeld
  clear hHeld
  refine wpAnyH_ready (rs := [21]) (by kernel_rfl) (by simp) ?_
  refine AllReadyH.cons rfl (fun K hK => ?_) AllReadyH.nil
  go_simp
  go_at_call 106; refine (HP2 _ (hW0.trans (by (repeat (first | with_reducible exact Ext.refl _ | with_reducible assumption | refine Ext.trans ?_ (by with_reducible assumption) | refine Ext.alloc ?_ _ _ | refine Ext.drew ?_ | refine Ext.drewN ?_ _))))).mono ?_; rintro e w11 ⟨rfl, own9, c9x, h9x, k9⟩
  refine hK.out _ _ ?_ (fun hHeld => ?_)
  · first | exact ⟨own9, c9x, (VStep.ext (by (repeat (first | with_reducible exact Ext.refl _ | with_reducible assumption | refine Ext.trans ?_ (by with_reducible assumption) | refine Ext.alloc ?_ _ _ | refine Ext.drew ?_ | refine Ext.drewN ?_ _)))).trans k9, h9x.v.blk⟩ | exact HH.out.ext he
  clear hK K HH
  have HH : Hid (SV own8 g c8x W0 _) := hHeld
  clear hHeld
  refine wpAnyH_done (by kernel_rfl) ?_ _
  have hE11 : Ext w10 _ := hW0.trans (show Ext W0 wb by (repeat (first | with_reducible exact Ext.refl _ | with_reducible assumption | refine Ext.trans ?_ (by with_reducible assumption) | refine Ext.alloc ?_ _ _ | refine Ext.drew ?_ | refine Ext.drewN ?_ _)))
  have k11 : VStep own8 w10 c8x own9 w11 c9x := (VStep.ext hE11).trans k9
  have s11 : MStep own w own9 w11 := s10.trans k11.mstep
  have b211 : Blk w11 B2 25 51 (cf z46a) := b210.mod k11.mod (fun q => q.2 o8B)
  have o9B : own9 B2 = 7 := by rw [k11.keep B2 b210.lt]; exact o8B
  have far9 : ∀ i, i < 2435 → c9x i = c i := fun i hi => (k11.far i (Or.inl hi)).trans (k10.far i (Or.inl hi))
  have hbuf9 : ∀ o n cap, c9x 1 = .slice o n cap → ∀ a, o = some a → a.block ≠ B2 := fun o n cap e => hbuf o n cap (by rw [← far9 1 (by decide)]; exact e)
  have hm9 := h9x.m
  have elog : ((V.putBal st.origin n1).putBal st.env.coinbase n2).logs = st.now.logs := congrArg AW.logs h9x.abs
  have hfew9 : ∀ (i : Nat) (hi : i < ((V.putBal st.origin n1).putBal st.env.coinbase n2).logs.length), (((V.putBal st.origin n1).putBal st.env.coinbase n2).logs[i]).topics.length ≤ 4 := fun i hi => hfew _ (by rw [← elog]; exact List.getElem_mem hi)
  have HLo := fun W (hW : Ext w11 W) => vLogged (h9x.ext hW).v hfew9
  rw [elog] at HLo
  have hret := hm9.ret
  have kst : c9x 2405 = .int .u8 (st.status : Nat) := hm9.status
  have hptr9 := hm9.ptr
  have hmad := hm9.made
  have hmdl := hm9.mLt
  have ebl9 : ∀ W, Ext w11 W → Blk W g 27024 105 c9x := fun W hW => (h9x.ext hW).v.blk
  have hsm9 : Small (Mu own9) w11 := h9x.v.small
  obtain ⟨vr, hvr⟩ : ∃ z, Hid (c9x 2259 = z) := ⟨_, rfl⟩
  rw [hvr.out] at hret
  have HCo : ∀ W B, Ext w11 W → w11.heap.size ≤ B → B < W.heap.size → Calls Hvah.prog 113 #[vr] W (fun e w' => ∃ r, e = .returned r ∧ NL (Mu (ow own9 B)) w' r st.ret ∧ Ext W w') := fun W B e g l => by
    have hRD := h9x.reserveD e g l
    have hrt := hRD.m.ret
    rw [hvr.out] at hrt
    exact eCopied (Mu (ow own9 B)) _ st.ret _ hRD.v.small hrt
  have HLq : ∀ W B, Ext w11 W → w11.heap.size ≤ B → B < W.heap.size → Calls Hvah.prog 124 #[.pointer (some ⟨g, 2435, none⟩)] W (fun e w' => ∃ r, e = .returned r ∧ EL 22 (LgC (Mu (ow own9 B)) w') (Mu (ow own9 B)) w' r st.now.logs ∧ Ext W w') := fun W B e g l => by
    have hRD := h9x.reserveD e g l
    have HLE := vLogged hRD.v hfew9
    rw [elog] at HLE
    exact HLE
  clear HH hW0 HB1 HA1 HP2 hE11 k9 k10 k11 b210 b910 b9 b29 b89 h8 h9 b23 b21
  go_upto_region 12 with (fail)
  refine w_ext ?_
  rintro W0 hW0
  refine' joinP (P := _) (Fc := fun B11 W13 rc rl => Ext W0 W13 ∧ W0.heap.size ≤ B11 ∧ Blk W13 B11 25 51 (layv (cf z46a) 0 (payR st.status us rc rl)) ∧ NL (Mu (ow own9 B11)) W13 rc st.ret ∧ EL 22 (LgC (Mu (ow own9 B11)) W13) (Mu (ow own9 B11)) W13 rl st.now.logs) (fun key => _) _
  rotate_left
  refine wp_region_held_drew (S := fun w' => Ext W0 w') (by kernel_rfl) (Ext.refl _).drew (fun hHeld => ?_)
  have HH : Hid (Ext W0 _) := hHeld
  clear hHeld
  refine wpAnyH_take (i := 0) (v := ?_) rfl (by kernel_rfl) (by kernel_rfl) (by kernel_rfl) (fun _ _ _ h => h) (Or.inl ⟨by rfl, ?_⟩) HH.out ?_
  rotate_left
  · intro w hSw; go_simp; try with_reducible rfl
  change wpAnyH _ _ _ _ _ _ _ (Act.put _ (some 157) _) _
  simp only [Act.put, List.setIfInBounds_toArray, List.set_cons_zero, List.set_cons_succ]
  refine wpAnyH_take (i := 1) (v := ?_) rfl (by kernel_rfl) (by kernel_rfl) (by kernel_rfl) (fun _ _ _ h => h) (Or.inl ⟨by rfl, ?_⟩) HH.out ?_
  rotate_left
  · intro w hSw; go_simp; try with_reducible rfl
  change wpAnyH _ _ _ _ _ _ _ (Act.put _ (some 158) _) _
  simp only [Act.put, List.setIfInBounds_toArray, List.set_cons_zero, List.set_cons_succ]
  refine wpAnyH_take (i := 2) (v := ?_) rfl (by kernel_rfl) (by kernel_rfl) (by kernel_rfl) (fun _ _ _ h => h) (Or.inl ⟨by rfl, ?_⟩) HH.out ?_
  rotate_left
  · intro w hSw; go_simp; try with_reducible rfl
  change wpAnyH _ _ _ _ _ _ _ (Act.put _ (some 159) _) _
  simp only [Act.put, List.setIfInBounds_toArray, List.set_cons_zero, List.set_cons_succ]
  refine wpAnyH_take (i := 3) rfl (by kernel_rfl) (by kernel_rfl) (by kernel_rfl) (fun _ _ _ h => h) (yieldsIf_load1 (by rfl) _ _ rfl _ _ rfl oneP5 _ (fun w hSw => by rw [(ebl9 _ (hW0.trans hSw)).cell (by decide), kst])) HH.out ?_
  change wpAnyH _ _ _ _ _ _ _ (Act.put _ (some 160) _) _
  simp only [Act.put, List.setIfInBounds_toArray, List.set_cons_zero, List.set_cons_succ]
  refine wpAnyH_take (i := 4) (v := ?_) rfl (by kernel_rfl) (by kernel_rfl) (by kernel_rfl) (fun _ _ _ h => h) (Or.inl ⟨by rfl, ?_⟩) HH.out ?_
  rotate_left
  · intro w hSw; go_simp; try with_reducible rfl
  change wpAnyH _ _ _ _ _ _ _ (Act.put _ (some 161) _) _
  simp only [Act.put, List.setIfInBounds_toArray, List.set_cons_zero, List.set_cons_succ]
  refine wpAnyH_take (i := 5) (v := ?_) rfl (by kernel_rfl) (by kernel_rfl) (by kernel_rfl) (fun _ _ _ h => h) (Or.inl ⟨by rfl, ?_⟩) HH.out ?_
  rotate_left
  · intro w hSw; go_simp; try with_reducible rfl
  change wpAnyH _ _ _ _ _ _ _ (Act.put _ (some 162) _) _
  simp only [Act.put, List.setIfInBounds_toArray, List.set_cons_zero, List.set_cons_succ]
  refine wpAnyH_take (i := 6) (v := ?_) rfl (by kernel_rfl) (by kernel_rfl) (by kernel_rfl) (fun _ _ _ h => h) (Or.inl ⟨by rfl, ?_⟩) HH.out ?_
  rotate_left
  · intro w hSw; go_simp; try with_reducible rfl
  change wpAnyH _ _ _ _ _ _ _ (Act.put _ (some 163) _) _
  simp only [Act.put, List.setIfInBounds_toArray, List.set_cons_zero, List.set_cons_succ]
  refine wpAnyH_take (i := 7) (v := ?_) rfl (by kernel_rfl) (by kernel_rfl) (by kernel_rfl) (fun _ _ _ h => h) (Or.inl ⟨by rfl, ?_⟩) HH.out ?_
  rotate_left
  · intro w hSw; go_simp; try with_reducible rfl
  change wpAnyH _ _ _ _ _ _ _ (Act.put _ (some 164) _) _
  simp only [Act.put, List.setIfInBounds_toArray, List.set_cons_zero, List.set_cons_succ]
  refine wpAnyH_take (i := 8) rfl (by kernel_rfl) (by kernel_rfl) (by kernel_rfl) (fun _ _ _ h => h) (yieldsIf_load1 (by rfl) _ _ rfl _ _ rfl oneP32 _ (fun w hSw => by rw [(ebl9 _ (hW0.trans hSw)).cell (by decide), hvr.out])) HH.out ?_
  change wpAnyH _ _ _ _ _ _ _ (Act.put _ (some 165) _) _
  simp only [Act.put, List.setIfInBounds_toArray, List.set_cons_zero, List.set_cons_succ]
  refine wpAnyH_take (i := 10) (v := ?_) rfl (by kernel_rfl) (by kernel_rfl) (by kernel_rfl) (fun _ _ _ h => h) (Or.inl ⟨by rfl, ?_⟩) HH.out ?_
  rotate_left
  · intro w hSw; go_simp; try with_reducible rfl
  change wpAnyH _ _ _ _ _ _ _ (Act.put _ (some 167) _) _
  simp only [Act.put, List.setIfInBounds_toArray, List.set_cons_zero, List.set_cons_succ]
  refine wpAnyH_take (i := 11) (v := ?_) rfl (by kernel_rfl) (by kernel_rfl) (by kernel_rfl) (fun _ _ _ h => h) (Or.inl ⟨by rfl, ?_⟩) HH.out ?_
  rotate_left
  · intro w hSw; go_simp; try with_reducible rfl
  change wpAnyH _ _ _ _ _ _ _ (Act.put _ (some 168) _) _
  simp only [Act.put, List.setIfInBounds_toArray, List.set_cons_zero, List.set_cons_succ]
  refine wpAnyH_take (i := 12) (v := ?_) rfl (by kernel_rfl) (by kernel_rfl) (by kernel_rfl) (fun _ _ _ h => h) (Or.inl ⟨by rfl, ?_⟩) HH.out ?_
  rotate_left
  · intro w hSw; go_simp; try with_reducible rfl
  change wpAnyH _ _ _ _ _ _ _ (Act.put _ (some 169) _) _
  simp only [Act.put, List.setIfInBounds_toArray, List.set_cons_zero, List.set_cons_succ]
  refine wpAnyH_take (i := 13) rfl (by kernel_rfl) (by kernel_rfl) (by kernel_rfl) (fun _ _ _ h => h) (yieldsIf_load1 (by rfl) _ _ rfl _ _ rfl oneP60 _ (fun w hSw => by rw [(ebl9 _ (hW0.trans hSw)).cell (by decide), hptr9])) HH.out ?_
  change wpAnyH _ _ _ _ _ _ _ (Act.put _ (some 170) _) _
  simp only [Act.put, List.setIfInBounds_toArray, List.set_cons_zero, List.set_cons_succ]
  refine wpAnyH_ready (rs := [9, 16]) (by kernel_rfl) (by simp) ?_
  refine (AllReadyH.cons rfl (fun K hK => ?_) (AllReadyH.cons rfl (fun K hK => ?_) AllReadyH.nil))
  go_simp
  go_at_call 113; refine (eCopied (Mu own9) _ st.ret _ (hsm9.ext (hW0.trans (by (repeat (first | with_reducible exact Ext.refl _ | with_reducible assumption | refine Ext.trans ?_ (by with_reducible assumption) | refine Ext.alloc ?_ _ _ | refine Ext.drew ?_ | refine Ext.drewN ?_ _))))) (hret.ext (hW0.trans (by (repeat (first | with_reducible exact Ext.refl _ | with_reducible assumption | refine Ext.trans ?_ (by with_reducible assumption) | refine Ext.alloc ?_ _ _ | refine Ext.drew ?_ | refine Ext.drewN ?_ _)))))).mono ?_; rintro e wc9 ⟨rc, rfl, hrc, he⟩
  refine hK.out _ _ ?_ (fun hHeld => ?_)
  · first | exact HH.out.trans hmY | exact HH.out.trans he | exact HH.out
  clear hK K HH
  have HH : Hid (Ext W0 _) := hHeld
  clear hHeld
  refine wpAnyH_ready (rs := [14, 16]) (by kernel_rfl) (by simp) ?_
  refine (AllReadyH.cons rfl (fun K hK => ?_) (AllReadyH.cons rfl (fun K hK => ?_) AllReadyH.nil))
  go_simp
  go_at_call 124; refine (HLo _ (hW0.trans (by (repeat (first | with_reducible exact Ext.refl _ | with_reducible assumption | refine Ext.trans ?_ (by with_reducible assumption) | refine Ext.alloc ?_ _ _ | refine Ext.drew ?_ | refine Ext.drewN ?_ _))))).mono ?_; rintro e wl9 ⟨rl, rfl, hrl, he⟩
  refine hK.out _ _ ?_ (fun hHeld => ?_)
  · first | exact HH.out.trans hmY | exact HH.out.trans he | exact HH.out
  clear hK K HH
  have HH : Hid (Ext W0 _) := hHeld
  clear hHeld
  refine wpAnyH_take (i := 15) rfl (by kernel_rfl) (by kernel_rfl) (by kernel_rfl) (fun _ _ _ h => h) (yields_build (ps := [(1, .int .u8 (st.status : Nat)), (2, .int .u64 (us : Nat)), (3, rc), (4, rl)]) (by rfl) rfl (payR_run hrc.one hrl.one') (by simp [Act.eval])) HH.out ?_
  change wpAnyH _ _ _ _ _ _ _ (Act.put _ (some 172) _) _
  simp only [Act.put, List.setIfInBounds_toArray, List.set_cons_zero, List.set_cons_succ]
  refine wpAnyH_ready (rs := [16]) (by kernel_rfl) (by simp) ?_
  refine AllReadyH.cons rfl (fun K hK => ?_) AllReadyH.nil
  refine step_any rfl (op_alloc rfl z46 z46s ?_)
  rintro B11 W12 e12 b12 g12
  refine hK.out _ _ ?_ (fun hHeld => ?_)
  · exact HH.out.trans e12
  clear hK K HH
  have HH : Hid (Ext W0 _) := hHeld
  clear hHeld
  change wpAnyH _ _ _ _ _ _ _ (Act.put _ (some 11) _) _
  simp only [Act.put, List.setIfInBounds_toArray, List.set_cons_zero, List.set_cons_succ]
  refine wpAnyH_ready (rs := [17]) (by kernel_rfl) (by simp) ?_
  refine AllReadyH.cons rfl (fun K hK => ?_) AllReadyH.nil
  refine step_any rfl (op_storeRow rfl rtP46 rfl rfl payR_size (payR_ones hrc.one hrl.one') (b12.ext (by (repeat (first | with_reducible exact Ext.refl _ | with_reducible assumption | refine Ext.trans ?_ (by with_reducible assumption) | refine Ext.alloc ?_ _ _ | refine Ext.drew ?_ | refine Ext.drewN ?_ _)))) (by decide) ?_)
  rintro W13 b13 m13
  refine hK.out _ _ ?_ (fun hHeld => ?_)
  · exact Ext.trans_mod HH.out m13 (fun q hq => by have hq2 : q = B11 := hq; rw [hq2]; exact Nat.le_trans (Ext.size (by (repeat (first | with_reducible exact Ext.refl _ | with_reducible assumption | refine Ext.trans ?_ (by with_reducible assumption) | refine Ext.alloc ?_ _ _ | refine Ext.drew ?_ | refine Ext.drewN ?_ _)))) g12)
  clear hK K HH
  have HH : Hid (Ext W0 _) := hHeld
  clear hHeld
  change wpAnyH _ _ _ _ _ _ _ (Act.put _ none _) _
  simp only [Act.put, List.setIfInBounds_toArray, List.set_cons_zero, List.set_cons_succ]
  refine wpAnyH_done (by kernel_rfl) ?_ _
  (have hX1 : NL (Mu (ow own9 B11)) W13 rc st.ret := (by first | exact (NL.ext (O := Mu (ow own9 B11)) hrc (by (repeat (first | with_reducible exact Ext.refl _ | with_reducible assumption | refine Ext.trans ?_ (by with_reducible assumption) | refine Ext.alloc ?_ _ _ | refine Ext.drew ?_ | refine Ext.drewN ?_ _)))).keep m13 ow_apart | exact ((NL.reoq (O' := Mu (ow own9 B11)) hrc (fun b hb q => ow_mu (fun q2 => by have q3 := Nat.le_trans (Ext.size (show Ext wc9 _ by (repeat (first | with_reducible exact Ext.refl _ | with_reducible assumption | refine Ext.trans ?_ (by with_reducible assumption) | refine Ext.alloc ?_ _ _ | refine Ext.drew ?_ | refine Ext.drewN ?_ _)))) g12; omega) q)).ext (by (repeat (first | with_reducible exact Ext.refl _ | with_reducible assumption | refine Ext.trans ?_ (by with_reducible assumption) | refine Ext.alloc ?_ _ _ | refine Ext.drew ?_ | refine Ext.drewN ?_ _)))).keep m13 ow_apart); have hX2 : EL 22 (LgC (Mu (ow own9 B11)) W13) (Mu (ow own9 B11)) W13 rl st.now.logs := (by first | exact EL.keepS (EL.mono (R' := LgC (Mu (ow own9 B11)) _) (O := Mu (ow own9 B11)) hrl (by (repeat (first | with_reducible exact Ext.refl _ | with_reducible assumption | refine Ext.trans ?_ (by with_reducible assumption) | refine Ext.alloc ?_ _ _ | refine Ext.drew ?_ | refine Ext.drewN ?_ _))) (fun _ _ _ k => LgC.ext k (by (repeat (first | with_reducible exact Ext.refl _ | with_reducible assumption | refine Ext.trans ?_ (by with_reducible assumption) | refine Ext.alloc ?_ _ _ | refine Ext.drew ?_ | refine Ext.drewN ?_ _))))) m13 ow_apart (fun _ _ _ k => LgC.keep k m13 ow_apart) | exact EL.keepS (EL.mono (R' := LgC (Mu (ow own9 B11)) _) (EL.reoS (R' := LgC (Mu (ow own9 B11)) _) (O' := Mu (ow own9 B11)) hrl (fun b hb q => ow_mu (fun q2 => by have q3 := Nat.le_trans (Ext.size (show Ext wl9 _ by (repeat (first | with_reducible exact Ext.refl _ | with_reducible assumption | refine Ext.trans ?_ (by with_reducible assumption) | refine Ext.alloc ?_ _ _ | refine Ext.drew ?_ | refine Ext.drewN ?_ _)))) g12; omega) q) (fun _ _ _ k => LgC.reo k (fun b hb q => ow_mu (fun q2 => by have q3 := Nat.le_trans (Ext.size (show Ext wl9 _ by (repeat (first | with_reducible exact Ext.refl _ | with_reducible assumption | refine Ext.trans ?_ (by with_reducible assumption) | refine Ext.alloc ?_ _ _ | refine Ext.drew ?_ | refine Ext.drewN ?_ _)))) g12; omega) q))) (by (repeat (first | with_reducible exact Ext.refl _ | with_reducible assumption | refine Ext.trans ?_ (by with_reducible assumption) | refine Ext.alloc ?_ _ _ | refine Ext.drew ?_ | refine Ext.drewN ?_ _))) (fun _ _ _ k => LgC.ext k (by (repeat (first | with_reducible exact Ext.refl _ | with_reducible assumption | refine Ext.trans ?_ (by with_reducible assumption) | refine Ext.alloc ?_ _ _ | refine Ext.drew ?_ | refine Ext.drewN ?_ _))))) m13 ow_apart (fun _ _ _ k => LgC.keep k m13 ow_apart)); exact key B11 W13 rc rl ⟨HH.out, Nat.le_trans (Ext.size (by (repeat (first | with_reducible exact Ext.refl _ | with_reducible assumption | refine Ext.trans ?_ (by with_reducible assumption) | refine Ext.alloc ?_ _ _ | refine Ext.drew ?_ | refine Ext.drewN ?_ _)))) g12, b13, hX1, hX2⟩)
  refine step_any rfl (op_alloc rfl z46 z46s ?_)
  rintro B11 W12 e12 b12 g12
  refine hK.out _ _ ?_ (fun hHeld => ?_)
  · exact HH.out.trans e12
  clear hK K HH
  have HH : Hid (Ext W0 _) := hHeld
  clear hHeld
  change wpAnyH _ _ _ _ _ _ _ (Act.put _ (some 11) _) _
  simp only [Act.put, List.setIfInBounds_toArray, List.set_cons_zero, List.set_cons_succ]
  refine wpAnyH_ready (rs := [14]) (by kernel_rfl) (by simp) ?_
  refine AllReadyH.cons rfl (fun K hK => ?_) AllReadyH.nil
  go_simp
  go_at_call 124; refine (HLq _ B11 (hW0.trans (by (repeat (first | with_reducible exact Ext.refl _ | with_reducible assumption | refine Ext.trans ?_ (by with_reducible assumption) | refine Ext.alloc ?_ _ _ | refine Ext.drew ?_ | refine Ext.drewN ?_ _)))) (Nat.le_trans (Ext.size (hW0.trans (by (repeat (first | with_reducible exact Ext.refl _ | with_reducible assumption | refine Ext.trans ?_ (by with_reducible assumption) | refine Ext.alloc ?_ _ _ | refine Ext.drew ?_ | refine Ext.drewN ?_ _))))) g12) (Blk.lt (b12.ext (by (repeat (first | with_reducible exact Ext.refl _ | with_reducible assumption | refine Ext.trans ?_ (by with_reducible assumption) | refine Ext.alloc ?_ _ _ | refine Ext.drew ?_ | refine Ext.drewN ?_ _)))))).mono ?_; rintro e wl9 ⟨rl, rfl, hrl, he⟩
  refine hK.out _ _ ?_ (fun hHeld => ?_)
  · first | exact HH.out.trans hmY | exact HH.out.trans he | exact HH.out
  clear hK K HH
  have HH : Hid (Ext W0 _) := hHeld
  clear hHeld
  refine wpAnyH_take (i := 15) rfl (by kernel_rfl) (by kernel_rfl) (by kernel_rfl) (fun _ _ _ h => h) (yields_build (ps := [(1, .int .u8 (st.status : Nat)), (2, .int .u64 (us : Nat)), (3, rc), (4, rl)]) (by rfl) rfl (payR_run hrc.one hrl.one') (by simp [Act.eval])) HH.out ?_
  change wpAnyH _ _ _ _ _ _ _ (Act.put _ (some 172) _) _
  simp only [Act.put, List.setIfInBounds_toArray, List.set_cons_zero, List.set_cons_succ]
  refine wpAnyH_ready (rs := [17]) (by kernel_rfl) (by simp) ?_
  refine AllReadyH.cons rfl (fun K hK => ?_) AllReadyH.nil
  refine step_any rfl (op_storeRow rfl rtP46 rfl rfl payR_size (payR_ones hrc.one hrl.one') (b12.ext (by (repeat (first | with_reducible exact Ext.refl _ | with_reducible assumption | refine Ext.trans ?_ (by with_reducible assumption) | refine Ext.alloc ?_ _ _ | refine Ext.drew ?_ | refine Ext.drewN ?_ _)))) (by decide) ?_)
  rintro W13 b13 m13
  refine hK.out _ _ ?_ (fun hHeld => ?_)
  · exact Ext.trans_mod HH.out m13 (fun q hq => by have hq2 : q = B11 := hq; rw [hq2]; exact Nat.le_trans (Ext.size (by (repeat (first | with_reducible exact Ext.refl _ | with_reducible assumption | refine Ext.trans ?_ (by with_reducible assumption) | refine Ext.alloc ?_ _ _ | refine Ext.drew ?_ | refine Ext.drewN ?_ _)))) g12)
  clear hK K HH
  have HH : Hid (Ext W0 _) := hHeld
  clear hHeld
  change wpAnyH _ _ _ _ _ _ _ (Act.put _ none _) _
  simp only [Act.put, List.setIfInBounds_toArray, List.set_cons_zero, List.set_cons_succ]
  refine wpAnyH_done (by kernel_rfl) ?_ _
  (have hX1 : NL (Mu (ow own9 B11)) W13 rc st.ret := (by first | exact (NL.ext (O := Mu (ow own9 B11)) hrc (by (repeat (first | with_reducible exact Ext.refl _ | with_reducible assumption | refine Ext.trans ?_ (by with_reducible assumption) | refine Ext.alloc ?_ _ _ | refine Ext.drew ?_ | refine Ext.drewN ?_ _)))).keep m13 ow_apart | exact ((NL.reoq (O' := Mu (ow own9 B11)) hrc (fun b hb q => ow_mu (fun q2 => by have q3 := Nat.le_trans (Ext.size (show Ext wc9 _ by (repeat (first | with_reducible exact Ext.refl _ | with_reducible assumption | refine Ext.trans ?_ (by with_reducible assumption) | refine Ext.alloc ?_ _ _ | refine Ext.drew ?_ | refine Ext.drewN ?_ _)))) g12; omega) q)).ext (by (repeat (first | with_reducible exact Ext.refl _ | with_reducible assumption | refine Ext.trans ?_ (by with_reducible assumption) | refine Ext.alloc ?_ _ _ | refine Ext.drew ?_ | refine Ext.drewN ?_ _)))).keep m13 ow_apart); have hX2 : EL 22 (LgC (Mu (ow own9 B11)) W13) (Mu (ow own9 B11)) W13 rl st.now.logs := (by first | exact EL.keepS (EL.mono (R' := LgC (Mu (ow own9 B11)) _) (O := Mu (ow own9 B11)) hrl (by (repeat (first | with_reducible exact Ext.refl _ | with_reducible assumption | refine Ext.trans ?_ (by with_reducible assumption) | refine Ext.alloc ?_ _ _ | refine Ext.drew ?_ | refine Ext.drewN ?_ _))) (fun _ _ _ k => LgC.ext k (by (repeat (first | with_reducible exact Ext.refl _ | with_reducible assumption | refine Ext.trans ?_ (by with_reducible assumption) | refine Ext.alloc ?_ _ _ | refine Ext.drew ?_ | refine Ext.drewN ?_ _))))) m13 ow_apart (fun _ _ _ k => LgC.keep k m13 ow_apart) | exact EL.keepS (EL.mono (R' := LgC (Mu (ow own9 B11)) _) (EL.reoS (R' := LgC (Mu (ow own9 B11)) _) (O' := Mu (ow own9 B11)) hrl (fun b hb q => ow_mu (fun q2 => by have q3 := Nat.le_trans (Ext.size (show Ext wl9 _ by (repeat (first | with_reducible exact Ext.refl _ | with_reducible assumption | refine Ext.trans ?_ (by with_reducible assumption) | refine Ext.alloc ?_ _ _ | refine Ext.drew ?_ | refine Ext.drewN ?_ _)))) g12; omega) q) (fun _ _ _ k => LgC.reo k (fun b hb q => ow_mu (fun q2 => by have q3 := Nat.le_trans (Ext.size (show Ext wl9 _ by (repeat (first | with_reducible exact Ext.refl _ | with_reducible assumption | refine Ext.trans ?_ (by with_reducible assumption) | refine Ext.alloc ?_ _ _ | refine Ext.drew ?_ | refine Ext.drewN ?_ _)))) g12; omega) q))) (by (repeat (first | with_reducible exact Ext.refl _ | with_reducible assumption | refine Ext.trans ?_ (by with_reducible assumption) | refine Ext.alloc ?_ _ _ | refine Ext.drew ?_ | refine Ext.drewN ?_ _))) (fun _ _ _ k => LgC.ext k (by (repeat (first | with_reducible exact Ext.refl _ | with_reducible assumption | refine Ext.trans ?_ (by with_reducible assumption) | refine Ext.alloc ?_ _ _ | refine Ext.drew ?_ | refine Ext.drewN ?_ _))))) m13 ow_apart (fun _ _ _ k => LgC.keep k m13 ow_apart)); exact key B11 W13 rc rl ⟨HH.out, Nat.le_trans (Ext.size (by (repeat (first | with_reducible exact Ext.refl _ | with_reducible assumption | refine Ext.trans ?_ (by with_reducible assumption) | refine Ext.alloc ?_ _ _ | refine Ext.drew ?_ | refine Ext.drewN ?_ _)))) g12, b13, hX1, hX2⟩)
  refine step_any rfl (op_alloc rfl z46 z46s ?_)
  rintro B11 W12 e12 b12 g12
  refine hK.out _ _ ?_ (fun hHeld => ?_)
  · exact HH.out.trans e12
  clear hK K HH
  have HH : Hid (Ext W0 _) := hHeld
  clear hHeld
  change wpAnyH _ _ _ _ _ _ _ (Act.put _ (some 11) _) _
  simp only [Act.put, List.setIfInBounds_toArray, List.set_cons_zero, List.set_cons_succ]
  refine wpAnyH_ready (rs := [9]) (by kernel_rfl) (by simp) ?_
  refine AllReadyH.cons rfl (fun K hK => ?_) AllReadyH.nil
  go_simp
  go_at_call 113; refine (HCo _ B11 (hW0.trans (by (repeat (first | with_reducible exact Ext.refl _ | with_reducible assumption | refine Ext.trans ?_ (by with_reducible assumption) | refine Ext.alloc ?_ _ _ | refine Ext.drew ?_ | refine Ext.drewN ?_ _)))) (Nat.le_trans (Ext.size (hW0.trans (by (repeat (first | with_reducible exact Ext.refl _ | with_reducible assumption | refine Ext.trans ?_ (by with_reducible assumption) | refine Ext.alloc ?_ _ _ | refine Ext.drew ?_ | refine Ext.drewN ?_ _))))) g12) (Blk.lt (b12.ext (by (repeat (first | with_reducible exact Ext.refl _ | with_reducible assumption | refine Ext.trans ?_ (by with_reducible assumption) | refine Ext.alloc ?_ _ _ | refine Ext.drew ?_ | refine Ext.drewN ?_ _)))))).mono ?_; rintro e wc9 ⟨rc, rfl, hrc, he⟩
  refine hK.out _ _ ?_ (fun hHeld => ?_)
  · first | exact HH.out.trans hmY | exact HH.out.trans he | exact HH.out
  clear hK K HH
  have HH : Hid (Ext W0 _) := hHeld
  clear hHeld
  refine wpAnyH_ready (rs := [14]) (by kernel_rfl) (by simp) ?_
  refine AllReadyH.cons rfl (fun K hK => ?_) AllReadyH.nil
  go_simp
  go_at_call 124; refine (HLq _ B11 (hW0.trans (by (repeat (first | with_reducible exact Ext.refl _ | with_reducible assumption | refine Ext.trans ?_ (by with_reducible assumption) | refine Ext.alloc ?_ _ _ | refine Ext.drew ?_ | refine Ext.drewN ?_ _)))) (Nat.le_trans (Ext.size (hW0.trans (by (repeat (first | with_reducible exact Ext.refl _ | with_reducible assumption | refine Ext.trans ?_ (by with_reducible assumption) | refine Ext.alloc ?_ _ _ | refine Ext.drew ?_ | refine Ext.drewN ?_ _))))) g12) (Blk.lt (b12.ext (by (repeat (first | with_reducible exact Ext.refl _ | with_reducible assumption | refine Ext.trans ?_ (by with_reducible assumption) | refine Ext.alloc ?_ _ _ | refine Ext.drew ?_ | refine Ext.drewN ?_ _)))))).mono ?_; rintro e wl9 ⟨rl, rfl, hrl, he⟩
  refine hK.out _ _ ?_ (fun hHeld => ?_)
  · first | exact HH.out.trans hmY | exact HH.out.trans he | exact HH.out
  clear hK K HH
  have HH : Hid (Ext W0 _) := hHeld
  clear hHeld
  refine wpAnyH_take (i := 15) rfl (by kernel_rfl) (by kernel_rfl) (by kernel_rfl) (fun _ _ _ h => h) (yields_build (ps := [(1, .int .u8 (st.status : Nat)), (2, .int .u64 (us : Nat)), (3, rc), (4, rl)]) (by rfl) rfl (payR_run hrc.one hrl.one') (by simp [Act.eval])) HH.out ?_
  change wpAnyH _ _ _ _ _ _ _ (Act.put _ (some 172) _) _
  simp only [Act.put, List.setIfInBounds_toArray, List.set_cons_zero, List.set_cons_succ]
  refine wpAnyH_ready (rs := [17]) (by kernel_rfl) (by simp) ?_
  refine AllReadyH.cons rfl (fun K hK => ?_) AllReadyH.nil
  refine step_any rfl (op_storeRow rfl rtP46 rfl rfl payR_size (payR_ones hrc.one hrl.one') (b12.ext (by (repeat (first | with_reducible exact Ext.refl _ | with_reducible assumption | refine Ext.trans ?_ (by with_reducible assumption) | refine Ext.alloc ?_ _ _ | refine Ext.drew ?_ | refine Ext.drewN ?_ _)))) (by decide) ?_)
  rintro W13 b13 m13
  refine hK.out _ _ ?_ (fun hHeld => ?_)
  · exact Ext.trans_mod HH.out m13 (fun q hq => by have hq2 : q = B11 := hq; rw [hq2]; exact Nat.le_trans (Ext.size (by (repeat (first | with_reducible exact Ext.refl _ | with_reducible assumption | refine Ext.trans ?_ (by with_reducible assumption) | refine Ext.alloc ?_ _ _ | refine Ext.drew ?_ | refine Ext.drewN ?_ _)))) g12)
  clear hK K HH
  have HH : Hid (Ext W0 _) := hHeld
  clear hHeld
  change wpAnyH _ _ _ _ _ _ _ (Act.put _ none _) _
  simp only [Act.put, List.setIfInBounds_toArray, List.set_cons_zero, List.set_cons_succ]
  refine wpAnyH_done (by kernel_rfl) ?_ _
  (have hX1 : NL (Mu (ow own9 B11)) W13 rc st.ret := (by first | exact (NL.ext (O := Mu (ow own9 B11)) hrc (by (repeat (first | with_reducible exact Ext.refl _ | with_reducible assumption | refine Ext.trans ?_ (by with_reducible assumption) | refine Ext.alloc ?_ _ _ | refine Ext.drew ?_ | refine Ext.drewN ?_ _)))).keep m13 ow_apart | exact ((NL.reoq (O' := Mu (ow own9 B11)) hrc (fun b hb q => ow_mu (fun q2 => by have q3 := Nat.le_trans (Ext.size (show Ext wc9 _ by (repeat (first | with_reducible exact Ext.refl _ | with_reducible assumption | refine Ext.trans ?_ (by with_reducible assumption) | refine Ext.alloc ?_ _ _ | refine Ext.drew ?_ | refine Ext.drewN ?_ _)))) g12; omega) q)).ext (by (repeat (first | with_reducible exact Ext.refl _ | with_reducible assumption | refine Ext.trans ?_ (by with_reducible assumption) | refine Ext.alloc ?_ _ _ | refine Ext.drew ?_ | refine Ext.drewN ?_ _)))).keep m13 ow_apart); have hX2 : EL 22 (LgC (Mu (ow own9 B11)) W13) (Mu (ow own9 B11)) W13 rl st.now.logs := (by first | exact EL.keepS (EL.mono (R' := LgC (Mu (ow own9 B11)) _) (O := Mu (ow own9 B11)) hrl (by (repeat (first | with_reducible exact Ext.refl _ | with_reducible assumption | refine Ext.trans ?_ (by with_reducible assumption) | refine Ext.alloc ?_ _ _ | refine Ext.drew ?_ | refine Ext.drewN ?_ _))) (fun _ _ _ k => LgC.ext k (by (repeat (first | with_reducible exact Ext.refl _ | with_reducible assumption | refine Ext.trans ?_ (by with_reducible assumption) | refine Ext.alloc ?_ _ _ | refine Ext.drew ?_ | refine Ext.drewN ?_ _))))) m13 ow_apart (fun _ _ _ k => LgC.keep k m13 ow_apart) | exact EL.keepS (EL.mono (R' := LgC (Mu (ow own9 B11)) _) (EL.reoS (R' := LgC (Mu (ow own9 B11)) _) (O' := Mu (ow own9 B11)) hrl (fun b hb q => ow_mu (fun q2 => by have q3 := Nat.le_trans (Ext.size (show Ext wl9 _ by (repeat (first | with_reducible exact Ext.refl _ | with_reducible assumption | refine Ext.trans ?_ (by with_reducible assumption) | refine Ext.alloc ?_ _ _ | refine Ext.drew ?_ | refine Ext.drewN ?_ _)))) g12; omega) q) (fun _ _ _ k => LgC.reo k (fun b hb q => ow_mu (fun q2 => by have q3 := Nat.le_trans (Ext.size (show Ext wl9 _ by (repeat (first | with_reducible exact Ext.refl _ | with_reducible assumption | refine Ext.trans ?_ (by with_reducible assumption) | refine Ext.alloc ?_ _ _ | refine Ext.drew ?_ | refine Ext.drewN ?_ _)))) g12; omega) q))) (by (repeat (first | with_reducible exact Ext.refl _ | with_reducible assumption | refine Ext.trans ?_ (by with_reducible assumption) | refine Ext.alloc ?_ _ _ | refine Ext.drew ?_ | refine Ext.drewN ?_ _))) (fun _ _ _ k => LgC.ext k (by (repeat (first | with_reducible exact Ext.refl _ | with_reducible assumption | refine Ext.trans ?_ (by with_reducible assumption) | refine Ext.alloc ?_ _ _ | refine Ext.drew ?_ | refine Ext.drewN ?_ _))))) m13 ow_apart (fun _ _ _ k => LgC.keep k m13 ow_apart)); exact key B11 W13 rc rl ⟨HH.out, Nat.le_trans (Ext.size (by (repeat (first | with_reducible exact Ext.refl _ | with_reducible assumption | refine Ext.trans ?_ (by with_reducible assumption) | refine Ext.alloc ?_ _ _ | refine Ext.drew ?_ | refine Ext.drewN ?_ _)))) g12, b13, hX1, hX2⟩)
  rintro B11 W13 rc rl ⟨hE13', g13, b13, hrc, hrl⟩
  have hE13 : Ext w11 W13 := hW0.trans hE13'
  have g11 : w11.heap.size ≤ B11 := Nat.le_trans hW0.size g13
  have h13 := h9x.reserveD hE13 g11 b13.lt
  have hbuf11 := h9x.bufOld g11
  have b213 : Blk W13 B2 25 51 (cf z46a) := b211.ext hE13
  have n211 : ¬ B2 = B11 := fun q => by have := b211.lt; omega
  have hon1 := hrc.one
  have hon2 := hrl.one'
  obtain ⟨d1, hd1⟩ : ∃ z, Hid (layv (cf z46a) 0 (payR st.status us rc rl) = z) := ⟨_, rfl⟩
  have hd : ∀ i, i < 25 → d1 i = updv (updv (updv (updv (cf z46a) 1 (.int .u8 (st.status : Nat))) 2 (.int .u64 (us : Nat))) 3 rc) 4 rl i := fun i hi => by
    rw [← hd1.out, ← payR_cf hon1 hon2 i hi]
    have := layv_in (cf z46a) 0 (payR st.status us rc rl) (j := i) (by rw [payR_size]; exact hi)
    rw [Nat.zero_add] at this
    exact this
  rw [hd1.out] at b13
  have d0 : d1 0 = .int .u8 0 := by rw [hd 0 (by decide)]; rfl
  have dd1 : d1 1 = .int .u8 (st.status : Nat) := by rw [hd 1 (by decide)]; rfl
  have dd2 : d1 2 = .int .u64 (us : Nat) := by rw [hd 2 (by decide)]; rfl
  have dd3 : d1 3 = rc := by rw [hd 3 (by decide)]; rfl
  have dd4 : d1 4 = rl := by rw [hd 4 (by decide)]; rfl
  have dm : AAt d1 5 0 := zero_made (fun j hj => by
    rw [hd (5 + j) (by omega), updv_ne _ _ (by omega), updv_ne _ _ (by omega), updv_ne _ _ (by omega), updv_ne _ _ (by omega)]
    rcases (show j = 0 ∨ j = 1 ∨ j = 2 ∨ j = 3 ∨ j = 4 ∨ j = 5 ∨ j = 6 ∨ j = 7 ∨ j = 8 ∨ j = 9 ∨ j = 10 ∨ j = 11 ∨ j = 12 ∨ j = 13 ∨ j = 14 ∨ j = 15 ∨ j = 16 ∨ j = 17 ∨ j = 18 ∨ j = 19 by omega) with rfl | rfl | rfl | rfl | rfl | rfl | rfl | rfl | rfl | rfl | rfl | rfl | rfl | rfl | rfl | rfl | rfl | rfl | rfl | rfl <;> rfl)
  have hones1 : ∀ i, i < 25 → (d1 i).oneCell' = true := fun i hi => by
    rw [hd i hi, ← payR_cf hon1 hon2 i hi]
    exact (payR_ones hon1 hon2).get (by rw [payR_size]; exact hi)
  replace hd := (show Hid _ from hd)
  have kst13 : W13.cell? ⟨g, 2405, none⟩ = some (.int .u8 (st.status : Nat)) := by rw [(ebl9 _ hE13).cell (by decide), kst]
  have hgB : ¬ g = B11 := fun q => by have := h9x.v.blk.lt; omega
  clear hE13' hW0 HLo HCo HLq hd1
  go_upto_if 177 with ((with_reducible (refine Veil.out ?_; apply wl_loadC oneP5)); (case hw => rfl); (case hx => rfl); (case hc => exact kst13))
  go_cut [] (fun wx => ∃ d, Blk wx B11 25 51 d ∧ d 0 = .int .u8 0 ∧ d 1 = .int .u8 (st.status : Nat) ∧ d 2 = .int .u64 (us : Nat) ∧ d 3 = rc ∧ d 4 = rl ∧ AAt d 5 (if st.status = 0 then st.made else 0) ∧ Hid (∀ i, i < 25 → (d i).oneCell' = true) ∧ Mod (fun x => x = B11) W13 wx)
  case first =>
    by_cases hs0 : st.status = 0
    · have zs : ((st.status : Int) == 0) = true := by simp [hs0]
      have zsd : decide ((st.status : Int) = 0) = true := by simp [hs0]
      replace hs0 := (show Hid _ from hs0)
      go_wp2_with (first | ((with_reducible (refine Veil.out ?_; apply wl_loadA)); (case hx => rfl); (case hB => exact ebl9 _ hE13); (case hA => exact hmad); (case hs => exact hmdl); (case ho => decide)) | ((with_reducible (refine Veil.out ?_; apply wl_storeRow rt25)); (case hx => rfl); (case hy => rfl); (case hr => exact av_size hmdl); (case h1 => exact av_one _); (case hB => exact b13); (case hi => decide); rintro W14 b14 m14))
      go_meet
      case rel =>
        rw [if_pos hs0.out]
        exact ⟨_, b14, by rw [layv_out _ _ _ (Or.inl (by decide))]; exact d0, by rw [layv_out _ _ _ (Or.inl (by decide))]; exact dd1, by rw [layv_out _ _ _ (Or.inl (by decide))]; exact dd2, by rw [layv_out _ _ _ (Or.inl (by decide))]; exact dd3, by rw [layv_out _ _ _ (Or.inl (by decide))]; exact dd4, AAt.lay_in, (fun i hi => by
          by_cases q : 5 ≤ i
          · obtain ⟨k, rfl⟩ : ∃ k, i = 5 + k := ⟨i - 5, by omega⟩
            rw [layv_in _ _ _ (by rw [av_size hmdl]; omega)]
            exact Ones.get (av_one st.made) (by rw [av_size hmdl]; omega)
          · rw [layv_out _ _ _ (Or.inl (by omega))]; exact hones1 i hi : ∀ i, i < 25 → _), m14⟩
    · have zs : ((st.status : Int) == 0) = false := by simp; omega
      have zsd : decide ((st.status : Int) = 0) = false := decide_eq_false (by omega)
      replace hs0 := (show Hid _ from hs0)
      go_wp2
      go_meet
      case rel =>
        rw [if_neg hs0.out]
        exact ⟨d1, b13, d0, dd1, dd2, dd3, dd4, dm, hones1, Mod.refl _ _⟩
  case rest =>
  obtain ⟨W15, e9⟩ : ∃ X, X = wc := ⟨_, rfl⟩
  subst e9
  obtain ⟨d, bd, k0, k1, k2, k3, k4, k5, kon, m15⟩ := hcut
  have b215 : Blk W15 B2 25 51 (cf z46a) := b213.mod m15 n211
  have h15 := h13.apart (ow_same own9 B11) m15 hbuf11
  have hrc15 := hrc.keep m15 ow_apart
  have hrl15 := EL.keepS hrl m15 ow_apart (fun _ _ _ k => LgC.keep k m15 ow_apart)
  have hQ1 : Ones (rowOf d 0 25) := ones_of (fun i hi => by rw [rowOf_size] at hi; rw [cf_rowOf _ _ _ hi, Nat.zero_add]; exact kon.out i hi)
  clear b13 hrc hrl dm hones1 hd h13
  go_wp2_with (first | ((with_reducible (refine Veil.out ?_; apply wl_loadRow rtP46)); (case hx => rfl); (case hB => exact bd); (case hi => decide)) | ((with_reducible (refine Veil.out ?_; apply wl_storeRow rtP46)); (case hx => rfl); (case hy => rfl); (case hr => exact rowOf_size _ _ _); (case h1 => exact hQ1); (case hB => exact b215); (case hi => decide); rintro W16 b16 m16))
  have ow2 : ow own9 B11 B2 = 7 := by rw [ow_ne n211]; exact o9B
  have ha2 : ∀ b, ¬ Mu (ow own9 B11) b → ¬ b = B2 := fun b hb q => hb (by rw [q]; show ow own9 B11 B2 ≠ 0; rw [ow2]; decide)
  have h16 := h15.apart ow2 m16 hbuf9
  have hcq : ∀ i, i < 25 → cf (rowOf d 0 25) i = d i := fun i hi => by rw [cf_rowOf _ _ _ hi, Nat.zero_add]
  refine post_row rtP46 (rowOf d 0 25) (rowOf_size _ _ _) rfl rfl (fun i u hu => ?_) rfl ?_
  · have hi := (Array.getElem?_eq_some_iff.1 hu).1
    rw [rowOf_size] at hi
    rw [Nat.zero_add, b16.cell hi]
    have := layv_in (cf z46a) 0 (rowOf d 0 25) (j := i) (by rw [rowOf_size]; exact hi)
    rw [Nat.zero_add] at this
    rw [this, cf_get hu]
  · refine ⟨_, rfl, rowOf_size _ _ _, hQ1, ow own9 B11, ⟨c9x, ?_⟩, ?_, ?_⟩
    · have e1 : st.paid = (st.now.setBal st.origin n1).setBal st.env.coinbase n2 := by
        unfold ASt.paid
        rw [hus.out, hlu.out, hbk.out, hpd.out, hfe.out, hb0.out, hn1.out]
        show (st.now.setBal st.origin n1).setBal st.env.coinbase ((st.now.setBal st.origin n1).bal st.env.coinbase + fe) = _
        rw [hb1.out, hn2.out]
      rw [hus.out, hlu.out, hbk.out, hpd.out, hfe.out, hb0.out, hn1.out, hb1.out, hn2.out, e1]
      have h17 := h16
      simp only [hf, hph] at h17
      first | exact h17 | exact h16
    · exact s11.trans ⟨fun b hb => ow_ne (fun q => by omega), Mod.trans' (Mod.trans' (hE13.mod (fun b => own9 b ≠ 0 ∧ own9 b ≠ 9)) m15 (fun i hi => Or.inr (by have hi2 : i = B11 := hi; rw [hi2]; exact g11))) m16 (fun i hi => Or.inl (by have hi2 : i = B2 := hi; rw [hi2, o9B]; decide))⟩
    · refine ⟨by rw [hcq 0 (by decide)]; exact k0, by rw [hcq 1 (by decide)]; exact k1, ?_, ?_, ?_, ?_, ?_⟩
      · rw [hcq 2 (by decide), k2]
        show _ = Value.int .u64 (st.used : Nat)
        rw [hus.out]
      · rw [hcq 3 (by decide), k3]
        exact (hrc15.keep m16 ha2).x
      · rw [hcq 4 (by decide), k4]
        exact EL.keepS hrl15 m16 ha2 (fun _ _ _ k => LgC.keep k m16 ha2)
      · exact k5.same (by show (if st.status = 0 then st.made else 0) < 2 ^ 160; split; exact hmdl; decide) (fun j hj => hcq _ (by omega))
      · show (if st.status = 0 then st.made else 0) < 2 ^ 160
        split
        · exact hmdl
        · decide
end
end Go.Proofs.YgvahwGreat
