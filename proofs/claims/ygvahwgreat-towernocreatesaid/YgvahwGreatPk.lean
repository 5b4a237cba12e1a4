import Derived.Test.YgvahwGreatKat
import Derived.Test.YgvahwGreatPk0
import Derived.Test.YgvahwGreatNg
namespace Go.Proofs.YgvahwGreat
open Go.RowKit
set_option linter.unusedSimpArgs false

theorem getD_appL (l m : List Nat) (i : Nat) (h : i < l.length) : (l ++ m).getD i 0 = l.getD i 0 := by simp [List.getD_eq_getElem?_getD, List.getElem?_append_left h]
theorem getD_appR (l m : List Nat) (i k : Nat) (hk : l.length = k) (h : k ≤ i) : (l ++ m).getD i 0 = m.getD (i - k) 0 := by subst hk; simp [List.getD_eq_getElem?_getD, List.getElem?_append_right h]
theorem bc_at (l : List Nat) (i : Nat) (h : i < l.length) : cf (bcells l).toArray i = .int .u8 ((l.getD i 0 : Nat) : Int) := by
  unfold cf
  simp [bcells, Array.getD_eq_getD_getElem?, List.getD_eq_getElem?_getD, h]
theorem hashRow {x : Nat} (hx : x < P256) (c : Nat → Value) (hc : ∀ i, i < 32 → c i = cf (bw x) i) : rowOf c 12 20 = av (addrA x) := by
  apply Array.ext_getElem?
  intro j
  rw [rowOf_get]
  have h20 : addrA x < 2 ^ 160 := Nat.mod_lt _ (by decide)
  split
  · rename_i h
    rw [hc _ (by omega)]
    unfold bw av
    rw [bc_at _ _ (by rw [len32 hx]; omega), ← beL_drop x hx]
    simp [bcells, List.getD_eq_getElem?_getD, len32 hx, h, show 12 + j < 32 by omega]
  · rename_i h
    rw [Array.getElem?_eq_none (by rw [av_size h20]; omega)]
theorem z429 : ∃ i, Hvah.prog.info? 437 = some i ∧ i.zero = some (.agg (Array.replicate 85 (.int .u8 0))) := ⟨Hvah.t437, by kernel_rfl, by kernel_rfl⟩
theorem under27k : Hvah.prog.underlying 32 = some (.array 32 5) := by kernel_rfl
theorem under25k : Hvah.prog.underlying 31 = some (.array 20 5) := by kernel_rfl
/-- What is hashed for CREATE2. -/
def c2L (cr salt : Nat) (init : List Nat) : List Nat := 255 :: (beL 20 cr ++ beL 32 salt ++ kecL init)
theorem c2L_len {cr salt : Nat} {init : List Nat} (hc : cr < 2 ^ 160) (hs : salt < P256) : (c2L cr salt init).length = 85 := by
  unfold c2L
  simp [len20 hc, len32 hs, kecL_len]
theorem c2cells {c1 : Nat → Value} {cr salt : Nat} {init : List Nat} (h1 : AAt c1 0 cr) (hc : cr < 2 ^ 160) (hs : salt < P256) (z : Nat → Value) (j : Nat) (hj : j < 85) :
    layv (layv (layv (updv z 0 (.int .u8 255)) 1 (rowOf c1 0 (20 * 1))) 21 (bw salt)) 53 (bw (kec init)) j = .int .u8 (((c2L cr salt init).getD j 0 : Nat) : Int) := by
  have l20 := len20 hc
  have l32 := len32 hs
  have hk := kec_lt init
  have lk := len32 hk
  have s1 := bw_sizeP hs
  have s2 := bw_sizeP hk
  unfold c2L
  rcases (show j = 0 ∨ (1 ≤ j ∧ j < 21) ∨ (21 ≤ j ∧ j < 53) ∨ (53 ≤ j) by omega) with rfl | ⟨ha, hb⟩ | ⟨ha, hb⟩ | ha
  · rw [layv_off _ _ _ _ (by omega), layv_off _ _ _ _ (by omega), layv_off _ _ _ _ (by omega), updv_same]
    rfl
  · rw [layv_off _ _ _ _ (by omega), layv_off _ _ _ _ (by omega), layv_at _ _ _ _ ha (by rw [rowOf_size]; omega), cf_rowOf _ _ _ (by omega), aat_at h1 hc (j - 1) (by omega)]
    obtain ⟨k, rfl⟩ : ∃ k, j = k + 1 := ⟨j - 1, by omega⟩
    rw [List.getD_cons_succ, List.append_assoc, getD_appL _ _ _ (by omega)]
    rfl
  · rw [layv_off _ _ _ _ (by omega), layv_at _ _ _ _ ha (by omega)]
    unfold bw
    rw [bc_at _ _ (by omega)]
    obtain ⟨k, rfl⟩ : ∃ k, j = k + 1 := ⟨j - 1, by omega⟩
    rw [List.getD_cons_succ, List.append_assoc, getD_appR _ _ _ 20 l20 (by omega), getD_appL _ _ _ (by omega), show k - 20 = k + 1 - 21 by omega]
  · rw [layv_at _ _ _ _ ha (by omega)]
    unfold bw
    rw [bc_at _ _ (by omega), kec_bytes]
    obtain ⟨k, rfl⟩ : ∃ k, j = k + 1 := ⟨j - 1, by omega⟩
    rw [List.getD_cons_succ, getD_appR (beL 20 cr ++ beL 32 salt) _ _ 52 (by simp [l20, l32]) (by omega), show k - 52 = k + 1 - 53 by omega]
/-- A block of bytes as a slice. -/
theorem blk_NL {O : Nat → Prop} {w : World} {X n N m : Nat} {t : TypeId} {c : Nat → Value} {l : List Nat} (hB : Blk w X N t c) (hO : ¬ O X) (hl : l.length = n) (hn : n ≤ N) (hm : n ≤ m) (hm2 : m ≤ 140737488355328) (hd : ∀ d ∈ l, d < 256) (hc : ∀ j, j < n → c j = .int .u8 ((l.getD j 0 : Nat) : Int)) : NL O w (.slice (some ⟨X, 0, none⟩) n m) l := by
  refine ⟨some ⟨X, 0, none⟩, m, by rw [hl], by omega, hm2, ⟨hd, fun _ => ⟨X, 0, rfl, hO, hB.lt, fun i hi => ?_⟩⟩⟩
  rw [Nat.zero_add, hB.cell (by omega), hc i (by omega)]
  simp [List.getD_eq_getElem?_getD, hi]
set_option maxRecDepth 100000 in
set_option maxHeartbeats 6400000 in
theorem mCreate2Addr {O : Nat → Prop} {w : World} {cr salt : Nat} {v : Value} {init : List Nat} (hc : cr < 2 ^ 160) (hs : salt < P256) (hv : NL O w v init) (hl : init.length ≤ 1000000) : Calls Hvah.prog 318 #[.agg (av cr), wv salt, v] w fun e w' => e = .returned (.agg (av (create2AddrA cr salt init))) ∧ Ext w w' := by
  have HB := fun W => uBE32 salt W hs
  have HS1 := fun W (hW : Ext w W) => eSum O W v init (hv.ext hW) hl
  have hd85 : ∀ d ∈ c2L cr salt init, d < 256 := fun d hd => by
    unfold c2L at hd
    rcases List.mem_cons.1 hd with h | h
    · rw [h]; decide
    · rcases List.mem_append.1 h with h | h
      · rcases List.mem_append.1 h with h | h
        · exact digits_beL _ _ d h
        · exact digits_beL _ _ d h
      · exact kecL_dig init d h
  have hcl := c2L_len (init := init) hc hs
  have e0 : create2AddrA cr salt init = addrA (kec (c2L cr salt init)) := rfl
  rw [e0]
  clear e0
  have hcc := fun (c1 z : Nat → Value) (h1 : AAt c1 0 cr) (j : Nat) (hj : j < 85) => c2cells (init := init) h1 hc hs z j hj
  have k1l := kec_lt init
  have k2l := kec_lt (c2L cr salt init)
  obtain ⟨L, hL⟩ : ∃ z, Hid (c2L cr salt init = z) := ⟨_, rfl⟩
  rw [hL.out] at hcc hcl hd85 k2l ⊢
  obtain ⟨K1, hK1⟩ : ∃ z, Hid (kec init = z) := ⟨_, rfl⟩
  rw [hK1.out] at hcc HS1 k1l
  obtain ⟨K2, hK2⟩ : ∃ z, Hid (kec L = z) := ⟨_, rfl⟩
  rw [hK2.out] at k2l ⊢
  have h20 : addrA K2 < 2 ^ 160 := Nat.mod_lt _ (by decide)
  obtain ⟨o, cp, rfl, _, _, _⟩ := hv
  have HPA1 := fun W X => run_arrayAt W 32 5 32 32 64 (some ⟨X, 21, none⟩) under27k (Nat.le_refl _)
  have HPA2 := fun W X => run_arrayAt W 32 5 32 32 32 (some ⟨X, 53, none⟩) under27k (Nat.le_refl _)
  have HPA3 := fun W X => run_arrayAt W 31 5 20 20 20 (some ⟨X, 12, none⟩) under25k (Nat.le_refl _)
  go_enter Hvah.func318, Hvah.ntmps318
  go_upto_region 3 with (first | ((with_reducible (refine Veil.out ?_; apply wl_boxA (x := Operand.tmp 0))); (case hx => rfl); (case hn => exact hc); rintro B1 W1 c1 e1 b1 a1 g1) | ((with_reducible (refine Veil.out ?_; apply wl_boxW (x := Operand.tmp 1))); (case hx => rfl); rintro B2 W2 c2 e2 b2 a2 g2) | ((with_reducible (refine Veil.out ?_; apply wl_allocA)); rintro R W3 c3 e3 b3 _ g3) | ((with_reducible (refine Veil.out ?_; apply wl_allocF z429)); rintro X W4 e4 b4 g4) | ((with_reducible (refine Veil.out ?_; apply wl_storeC onek5 (v := .int .u8 255))); (case hx => rfl); (case hy => rfl); (case h1 => rfl); (case hB => exact b4); (case hi => decide); rintro W5 b5 m5))
  have hE4 : Ext w W4 := ((e1.trans e2).trans e3).trans e4
  have g3w : w.heap.size ≤ R := Nat.le_trans (e1.trans e2).size g3
  have g4w : w.heap.size ≤ X := Nat.le_trans ((e1.trans e2).trans e3).size g4
  have hE5 : Ext w W5 := Ext.trans_mod hE4 m5 (fun q hq => by have hq2 : q = X := hq; rw [hq2]; exact g4w)
  have h1X : ¬ B1 = X := fun q => by have := (b1.ext (e2.trans e3)).lt; omega
  have h2X : ¬ B2 = X := fun q => by have := (b2.ext e3).lt; omega
  have hRX : ¬ R = X := fun q => by have := b3.lt; omega
  have b1' := (b1.ext ((e2.trans e3).trans e4)).mod m5 h1X
  have b2' := (b2.ext (e3.trans e4)).mod m5 h2X
  have b3' := (b3.ext e4).mod m5 hRX
  clear b1 b2 b3 b4 e1 e2 e3 e4 m5 hE4
  refine w_ext ?_
  rintro W0 hW0
  refine wp_region_held_drew (S := fun w' => (0 ≤ (w' : World).heap.size)) (by kernel_rfl) (Nat.zero_le _) (fun hHeld => ?_)
  have HH : Hid ((0 ≤ (_ : World).heap.size)) := hHeld
  clear hHeld
  refine wpAnyH_take (i := 0) (v := ?_) rfl (by kernel_rfl) (by kernel_rfl) (by kernel_rfl) (fun _ _ _ h => h) (Or.inl ⟨by rfl, ?_⟩) HH.out ?_
  rotate_left
  · intro w hSw; go_simp; try with_reducible rfl
  change wpAnyH _ _ _ _ _ _ _ (Act.put _ (some 10) _) _
  simp only [Act.put, List.setIfInBounds_toArray, List.set_cons_zero, List.set_cons_succ]
  refine wpAnyH_take (i := 1) (v := ?_) rfl (by kernel_rfl) (by kernel_rfl) (by kernel_rfl) (fun _ _ _ h => h) (Or.inl ⟨by rfl, ?_⟩) HH.out ?_
  rotate_left
  · intro w hSw; go_simp; try with_reducible rfl
  change wpAnyH _ _ _ _ _ _ _ (Act.put _ (some 11) _) _
  simp only [Act.put, List.setIfInBounds_toArray, List.set_cons_zero, List.set_cons_succ]
  refine wpAnyH_ready (rs := [2]) (by kernel_rfl) (by simp) ?_
  refine AllReadyH.cons rfl (fun K hK => ?_) AllReadyH.nil
  refine step_any rfl (op_copyR (e := 5) (k := 20) (sz := 1) rfl (by kernel_rfl) (by kernel_rfl) rfl rfl (b5.ext (by (repeat (first | with_reducible exact Ext.refl _ | with_reducible assumption | refine Ext.trans ?_ (by with_reducible assumption) | refine Ext.alloc ?_ _ _ | refine Ext.drew ?_ | refine Ext.drewN ?_ _)))) ((b1'.ext (by (repeat (first | with_reducible exact Ext.refl _ | with_reducible assumption | refine Ext.trans ?_ (by with_reducible assumption) | refine Ext.alloc ?_ _ _ | refine Ext.drew ?_ | refine Ext.drewN ?_ _))))) rfl (by decide) (by decide) (fun j hj => by rw [Nat.zero_add, show c1 j = c1 (0 + j) by rw [Nat.zero_add], aat_at a1 hc j (by omega)]; rfl) ?_)
  rintro W6 b6 m6
  refine hK.out _ _ (Nat.zero_le _) (fun hHeld => ?_)
  clear hK K HH
  have HH : Hid ((0 ≤ (_ : World).heap.size)) := hHeld
  clear hHeld
  change wpAnyH _ _ _ _ _ _ _ (Act.put _ (some 12) _) _
  simp only [Act.put, List.setIfInBounds_toArray, List.set_cons_zero, List.set_cons_succ]
  refine wpAnyH_done (by kernel_rfl) ?_ _
  have hW5 : Ext W5 W0 := by (repeat (first | with_reducible exact Ext.refl _ | with_reducible assumption | refine Ext.trans ?_ (by with_reducible assumption) | refine Ext.alloc ?_ _ _ | refine Ext.drew ?_ | refine Ext.drewN ?_ _))
  have hE6 : Ext w W6 := Ext.trans_mod (hE5.trans hW5.drew) m6 (fun q hq => by have hq2 : q = X := hq; rw [hq2]; exact g4w)
  replace b2' := (b2'.ext hW5.drew).mod m6 h2X
  replace b3' := (b3'.ext hW5.drew).mod m6 hRX
  clear b1' b5 m6 HH hE5 hW0 hW5
  go_upto_region 4 with (fail)
  refine w_ext ?_
  rintro W0 hW0
  refine wp_region_held_drew (S := fun w' => (0 ≤ (w' : World).heap.size)) (by kernel_rfl) (Nat.zero_le _) (fun hHeld => ?_)
  have HH : Hid ((0 ≤ (_ : World).heap.size)) := hHeld
  clear hHeld
  refine wpAnyH_take (i := 0) (v := ?_) rfl (by kernel_rfl) (by kernel_rfl) (by kernel_rfl) (fun _ _ _ h => h) (Or.inl ⟨by rfl, ?_⟩) HH.out ?_
  rotate_left
  · intro w hSw; go_simp; try with_reducible rfl
  change wpAnyH _ _ _ _ _ _ _ (Act.put _ (some 13) _) _
  simp only [Act.put, List.setIfInBounds_toArray, List.set_cons_zero, List.set_cons_succ]
  refine wpAnyH_take (i := 1) (v := ?_) rfl (by kernel_rfl) (by kernel_rfl) (by kernel_rfl) (fun _ _ _ h => h) (Or.inl ⟨by rfl, ?_⟩) HH.out ?_
  rotate_left
  · intro w hSw; go_simp; try with_reducible rfl
  change wpAnyH _ _ _ _ _ _ _ (Act.put _ (some 14) _) _
  simp only [Act.put, List.setIfInBounds_toArray, List.set_cons_zero, List.set_cons_succ]
  refine wpAnyH_ready (rs := [2]) (by kernel_rfl) (by simp) ?_
  refine AllReadyH.cons rfl (fun K hK => ?_) AllReadyH.nil
  refine step_any rfl (op_loadWB rfl rfl (b2'.ext (by (repeat (first | with_reducible exact Ext.refl _ | with_reducible assumption | refine Ext.trans ?_ (by with_reducible assumption) | refine Ext.alloc ?_ _ _ | refine Ext.drew ?_ | refine Ext.drewN ?_ _)))) a2 (by decide) ?_)
  refine hK.out _ _ HH.out (fun hHeld => ?_)
  clear hK K HH
  have HH : Hid ((0 ≤ (_ : World).heap.size)) := hHeld
  clear hHeld
  change wpAnyH _ _ _ _ _ _ _ (Act.put _ (some 15) _) _
  simp only [Act.put, List.setIfInBounds_toArray, List.set_cons_zero, List.set_cons_succ]
  refine wpAnyH_ready (rs := [3]) (by kernel_rfl) (by simp) ?_
  refine AllReadyH.cons rfl (fun K hK => ?_) AllReadyH.nil
  go_simp
  go_at_call 85; refine (HB _).mono ?_; rintro e w7 ⟨rfl, he7⟩
  refine hK.out _ _ ?_ (fun hHeld => ?_)
  · exact Nat.zero_le _
  clear hK K HH
  have HH : Hid ((0 ≤ (_ : World).heap.size)) := hHeld
  clear hHeld
  refine wpAnyH_take (i := 4) (v := ?_) rfl (by kernel_rfl) (by kernel_rfl) (by kernel_rfl) (fun _ _ _ h => h) (Or.inl ⟨by rfl, ?_⟩) HH.out ?_
  rotate_left
  · intro w hSw; go_simp; try with_reducible rfl
  change wpAnyH _ _ _ _ _ _ _ (Act.put _ (some 17) _) _
  simp only [Act.put, List.setIfInBounds_toArray, List.set_cons_zero, List.set_cons_succ]
  refine wpAnyH_ready (rs := [5]) (by kernel_rfl) (by simp) ?_
  refine AllReadyH.cons rfl (fun K hK => ?_) AllReadyH.nil
  refine step_any rfl (op_storeRow rfl rt27k rfl rfl (bw_sizeP hs) (bw_onesP _) (b6.ext (by (repeat (first | with_reducible exact Ext.refl _ | with_reducible assumption | refine Ext.trans ?_ (by with_reducible assumption) | refine Ext.alloc ?_ _ _ | refine Ext.drew ?_ | refine Ext.drewN ?_ _)))) (by decide) ?_)
  rintro W8 b8 m8
  refine hK.out _ _ (Nat.zero_le _) (fun hHeld => ?_)
  clear hK K HH
  have HH : Hid ((0 ≤ (_ : World).heap.size)) := hHeld
  clear hHeld
  change wpAnyH _ _ _ _ _ _ _ (Act.put _ none _) _
  simp only [Act.put, List.setIfInBounds_toArray, List.set_cons_zero, List.set_cons_succ]
  refine wpAnyH_done (by kernel_rfl) ?_ _
  have hW7 : Ext W6 w7 := by (repeat (first | with_reducible exact Ext.refl _ | with_reducible assumption | refine Ext.trans ?_ (by with_reducible assumption) | refine Ext.alloc ?_ _ _ | refine Ext.drew ?_ | refine Ext.drewN ?_ _))
  have hE8 : Ext w W8 := Ext.trans_mod (hE6.trans hW7) m8 (fun q hq => by have hq2 : q = X := hq; rw [hq2]; exact g4w)
  replace b3' := (b3'.ext hW7).mod m8 hRX
  clear b6 m8 HH hE6 hW0 hW7 he7 b2'
  go_upto_region 5 with (fail)
  refine w_ext ?_
  rintro W0 hW0
  refine wp_region_held_drew (S := fun w' => (0 ≤ (w' : World).heap.size)) (by kernel_rfl) (Nat.zero_le _) (fun hHeld => ?_)
  have HH : Hid ((0 ≤ (_ : World).heap.size)) := hHeld
  clear hHeld
  refine wpAnyH_take (i := 0) (v := ?_) rfl (by kernel_rfl) (by kernel_rfl) (by kernel_rfl) (fun _ _ _ h => h) (Or.inl ⟨by rfl, ?_⟩) HH.out ?_
  rotate_left
  · intro w hSw; go_simp; try with_reducible rfl
  change wpAnyH _ _ _ _ _ _ _ (Act.put _ (some 18) _) _
  simp only [Act.put, List.setIfInBounds_toArray, List.set_cons_zero, List.set_cons_succ]
  refine wpAnyH_take (i := 1) (v := ?_) rfl (by kernel_rfl) (by kernel_rfl) (by kernel_rfl) (fun _ _ _ h => h) (Or.inl ⟨by rfl, ?_⟩) HH.out ?_
  rotate_left
  · intro w hSw; go_simp; try with_reducible rfl
  change wpAnyH _ _ _ _ _ _ _ (Act.put _ (some 19) _) _
  simp only [Act.put, List.setIfInBounds_toArray, List.set_cons_zero, List.set_cons_succ]
  refine wpAnyH_take (i := 2) (v := ?_) rfl (by kernel_rfl) (by kernel_rfl) (by kernel_rfl) (fun _ _ _ h => h) (Or.inl ⟨by rfl, ?_⟩) HH.out ?_
  rotate_left
  · intro w hSw; go_simp; try with_reducible rfl
  change wpAnyH _ _ _ _ _ _ _ (Act.put _ (some 20) _) _
  simp only [Act.put, List.setIfInBounds_toArray, List.set_cons_zero, List.set_cons_succ]
  refine wpAnyH_ready (rs := [3]) (by kernel_rfl) (by simp) ?_
  refine AllReadyH.cons rfl (fun K hK => ?_) AllReadyH.nil
  go_simp
  go_at_call 175; refine (HS1 _ (hE8.trans (by (repeat (first | with_reducible exact Ext.refl _ | with_reducible assumption | refine Ext.trans ?_ (by with_reducible assumption) | refine Ext.alloc ?_ _ _ | refine Ext.drew ?_ | refine Ext.drewN ?_ _))))).mono ?_; rintro e w9 ⟨rfl, he9⟩
  refine hK.out _ _ ?_ (fun hHeld => ?_)
  · exact Nat.zero_le _
  clear hK K HH
  have HH : Hid ((0 ≤ (_ : World).heap.size)) := hHeld
  clear hHeld
  refine wpAnyH_take (i := 4) (v := ?_) rfl (by kernel_rfl) (by kernel_rfl) (by kernel_rfl) (fun _ _ _ h => h) (Or.inl ⟨by rfl, ?_⟩) HH.out ?_
  rotate_left
  · intro w hSw; go_simp; try with_reducible rfl
  change wpAnyH _ _ _ _ _ _ _ (Act.put _ (some 22) _) _
  simp only [Act.put, List.setIfInBounds_toArray, List.set_cons_zero, List.set_cons_succ]
  refine wpAnyH_ready (rs := [5]) (by kernel_rfl) (by simp) ?_
  refine AllReadyH.cons rfl (fun K hK => ?_) AllReadyH.nil
  refine step_any rfl (op_storeRow rfl rt27k rfl rfl (bw_sizeP k1l) (bw_onesP _) (b8.ext (by (repeat (first | with_reducible exact Ext.refl _ | with_reducible assumption | refine Ext.trans ?_ (by with_reducible assumption) | refine Ext.alloc ?_ _ _ | refine Ext.drew ?_ | refine Ext.drewN ?_ _)))) (by decide) ?_)
  rintro W10 b10 m10
  refine hK.out _ _ (Nat.zero_le _) (fun hHeld => ?_)
  clear hK K HH
  have HH : Hid ((0 ≤ (_ : World).heap.size)) := hHeld
  clear hHeld
  change wpAnyH _ _ _ _ _ _ _ (Act.put _ none _) _
  simp only [Act.put, List.setIfInBounds_toArray, List.set_cons_zero, List.set_cons_succ]
  refine wpAnyH_done (by kernel_rfl) ?_ _
  have hW9 : Ext W8 w9 := by (repeat (first | with_reducible exact Ext.refl _ | with_reducible assumption | refine Ext.trans ?_ (by with_reducible assumption) | refine Ext.alloc ?_ _ _ | refine Ext.drew ?_ | refine Ext.drewN ?_ _))
  have hE10 : Ext w W10 := Ext.trans_mod (hE8.trans hW9) m10 (fun q hq => by have hq2 : q = X := hq; rw [hq2]; exact g4w)
  replace b3' := (b3'.ext hW9).mod m10 hRX
  clear b8 m10 HH hE8 hW0 hW9 he9
  have hNL : NL (fun _ => False) W10 (.slice (some ⟨X, 0, none⟩) 85 85) L := blk_NL b10 (fun q => q) hcl (Nat.le_refl _) (Nat.le_refl _) (by decide) hd85 (fun j hj => hcc _ _ a1 j hj)
  have HS2 := eSum _ W10 _ _ hNL (by rw [hcl]; decide)
  rw [hK2.out] at HS2
  clear hNL hcc hcl hd85 b10
  go_upto_region 7 with (first | (go_at_call 175; refine HS2.mono ?_; rintro e W11 ⟨rfl, e11⟩) | ((with_reducible (refine Veil.out ?_; apply wl_allocF z27k)); rintro H W12 e12 b12 g12) | ((with_reducible (refine Veil.out ?_; apply wl_storeRow rt27k (r := bw K2))); (case hx => rfl); (case hy => rfl); (case hr => exact bw_sizeP k2l); (case h1 => exact bw_onesP _); (case hB => exact b12); (case hi => decide); rintro W13 b13 m13))
  have hrow := hashRow k2l (layv (fun _ => Value.int .u8 0) 0 (bw K2)) (fun i hi => by rw [layv_at _ _ _ _ (Nat.zero_le _) (by rw [bw_sizeP k2l]; omega), Nat.sub_zero])
  have g12w : w.heap.size ≤ H := Nat.le_trans (hE10.trans e11).size g12
  have hRH : ¬ R = H := fun q => by have := (b3'.ext e11).lt; omega
  have hE13 : Ext w W13 := Ext.trans_mod ((hE10.trans e11).trans e12) m13 (fun q hq => by have hq2 : q = H := hq; rw [hq2]; exact g12w)
  have b3v := (b3'.ext (e11.trans e12)).mod m13 hRH
  clear b3'
  go_wp2_with (first | ((with_reducible (refine Veil.out ?_; apply wl_loadRow rt25)); (case hx => rfl); (case hB => exact b13); (case hi => decide); rw [hrow]) | ((with_reducible (refine Veil.out ?_; apply wl_storeA (v := addrA K2))); (case hx => rfl); (case hy => rfl); (case hv => exact h20); (case hB => exact b3v); (case hi => decide); rintro W14 c14 b14 a14 _ m14))
  refine post_A Hvah.results318 rfl b14 a14 h20 (by decide) rfl ⟨rfl, Ext.trans_mod hE13 m14 (fun q hq => by have hq2 : q = R := hq; rw [hq2]; exact g3w)⟩
end Go.Proofs.YgvahwGreat
