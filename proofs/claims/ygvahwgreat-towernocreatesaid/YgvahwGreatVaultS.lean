import Derived.Test.YgvahwGreatVaultR
namespace Go.Proofs.YgvahwGreat
open Go.RowKit
section
variable {own : Nat → Nat} {w : World} {g : Nat} {c : Nat → Value} {V : EV}
theorem Keep.here (h : VRep own w g c V) {w' : World} (hm : Mod (· = g) w w') : Keep own own g 9 w w' := ⟨fun _ _ => rfl, hm.sub (fun x hx => Or.inl hx), h.tag, by decide⟩
/-- The refund counter is set. -/
theorem ref_end (h : VRep own w g c V) {n : Nat} (hn : n < 18446744073709551616) : VRep own (w.setCell ⟨g, 27015, none⟩ (.int .u64 (n : Nat))) g (updv c 27015 (.int .u64 (n : Nat))) { V with ref := n } ∧ VStep own w c own (w.setCell ⟨g, 27015, none⟩ (.int .u64 (n : Nat))) (updv c 27015 (.int .u64 (n : Nat))) := by
  have hm : Mod (· = g) w (w.setCell ⟨g, 27015, none⟩ (.int .u64 (n : Nat))) := (Mod.refl (· = g) w).setCell (Or.inl rfl) _
  have K := Keep.here h hm
  have hcF : ∀ i, i ≠ 27015 → updv c 27015 (.int .u64 (n : Nat)) i = c i := fun i h1 => updv_ne _ _ h1
  refine ⟨⟨h.blk.set _ _, h.tag, fun x hx => h.fresh x (Nat.le_trans hm.size hx), ⟨h.wf.a1, h.wf.s1, h.wf.t1, h.wf.sA, h.wf.tA⟩, ⟨fun e he => fits_more (h.jok.fits e he) (Nat.le_refl _) (Nat.le_refl _) (Nat.le_refl _), h.jok.marks, h.jok.fall⟩, h.nA, h.nS, h.nT, h.nJ, h.nL, h.nM, ?_, ?_, ?_, ?_, ?_, ?_, ?_, ?_, ?_, ?_, updv_same _ _ _, hn⟩, fun _ _ => rfl, fun i hi => hcF i (by omega), hm.sub (fun x hx => by rw [hx, h.tag]; exact ⟨by decide, by decide⟩)⟩
  · rw [hcF 2435 (by omega)]; exact K.row h.accts (fun _ _ _ k => K.acct (fun _ _ => rfl) k) (by decide) (by decide)
  · rw [hcF 2436 (by omega)]; exact K.row h.slots (fun _ _ _ k => k) (by decide) (by decide)
  · rw [hcF 27017 (by omega)]; exact K.row h.temps (fun _ _ _ k => k) (by decide) (by decide)
  · rw [hcF 10629 (by omega)]; exact K.row h.jrn (fun _ _ _ k => K.je (fun _ _ => rfl) k) (by decide) (by decide)
  · rw [hcF 27016 (by omega)]; exact K.row h.logs (fun _ _ _ k => K.log (fun _ _ => rfl) k) (by decide) (by decide)
  · obtain ⟨t2, q1, q2⟩ := h.tA
    exact ⟨t2, fun p hp => by rw [hcF _ (by omega)]; exact q1 p hp, q2⟩
  · obtain ⟨t2, q1, q2⟩ := h.tS
    exact ⟨t2, fun p hp => by rw [hcF _ (by omega)]; exact q1 p hp, q2⟩
  · rw [hcF 27018 (by omega)]
    rcases h.tT with q | ⟨t2, q1, q2⟩
    · exact Or.inl q
    · exact Or.inr ⟨t2, K.tab q1 (by decide), q2⟩
  · intro id hid
    have := h.nM
    have hid' : id < V.marks.length := hid
    rw [hcF _ (by omega)]; exact h.marks id hid
  · rw [hcF 27014 (by omega)]; exact h.nm
set_option maxRecDepth 100000 in
set_option maxHeartbeats 1600000 in
theorem vRefundDown (x : Nat) (h : VRep own w g c V) (hx : x ≤ V.ref) (hJ : V.journal.length < 65536) :
    Calls Hvah.prog 316 #[.pointer (some ⟨g, 2435, none⟩), .int .u64 x] w fun e w' => e = .returned (.bool true) ∧ ∃ own' c', VRep own' w' g c' (V.setRef (V.ref - x)) ∧ VStep own w c own' w' c' := by
  have HR : ∀ W, Ext w W → Calls Hvah.prog 179 #[.pointer (some ⟨g, 2435, none⟩)] W fun e w' => e = .returned (.bool true) ∧ w' = W := fun W hW => by
    have := vRoom (h.ext hW); rw [decide_eq_true hJ] at this; exact this
  have hRl := h.rLt
  obtain ⟨R, hR⟩ : ∃ R, Hid (V.ref = R) := ⟨_, (rfl : V.ref = _)⟩
  rw [hR.out] at hx hRl ⊢
  have kr := h.blk.cell (i := 27015) (by omega)
  rw [h.ref, hR.out] at kr
  have hxi : (x : Int) ≤ R := by omega
  obtain ⟨bj, cj, hArn, hTag, hJR⟩ := h.jrn.arn
  rw [List.length_reverse] at hArn hTag
  obtain ⟨oj, capj, hvj⟩ : ∃ o cap, c 10629 = .slice o V.journal.length cap := by
    rcases hArn with ⟨q1, q2⟩ | ⟨cp, q1, _⟩
    · exact ⟨none, 0, by rw [q1]; exact q2⟩
    · exact ⟨_, _, q1⟩
  obtain ⟨n, hn⟩ : ∃ n, Hid (V.journal.length = n) := ⟨_, (rfl : V.journal.length = _)⟩
  rw [hn.out] at hvj hArn hTag
  rw [hvj] at hArn hTag
  have kj := h.blk.cell (i := 10629) (by omega)
  rw [hvj] at kj
  have hfz := h.blk.fz
  have hlt := h.blk.lt
  go_enter Hvah.func316, Hvah.ntmps316
  go_wp2_with (first | (go_at_call 179; refine (HR _ (Ext.refl _)).mono ?_; rintro e w1 ⟨rfl, hq⟩; rw [hq]; clear hq))
  have hS0 : w.drew.cell? ⟨g, 27015, none⟩ = some (.int .u64 (R : Nat)) := kr
  have hS1 : ((w.alloc (.cells #[.int .u8 6, .int .i32 0, .int .u64 (R : Nat), .int .u64 0, .int .u64 0, .int .u64 0, .int .u64 0, .slice none 0 0, .bool false] 227)).drew).cell? ⟨g, 27015, none⟩ = some (.int .u64 (R : Nat)) := cx_ext hS0 hlt ((Ext.refl w.drew).alloc _ _)
  have HBW : ∀ v' W b' c', Grown ((w.alloc (.cells #[.int .u8 6, .int .i32 0, .int .u64 (R : Nat), .int .u64 0, .int .u64 0, .int .u64 0, .int .u64 0, .slice none 0 0, .bool false] 227)).drew) 227 9 (.slice oj n capj) n bj cj (#[.int .u8 6, .int .i32 0, .int .u64 (R : Nat), .int .u64 0, .int .u64 0, .int .u64 0, .int .u64 0, .slice none 0 0, .bool false] : Array Value).toList v' W b' c' → Mod (fun x => x = bj ∧ own bj = 3) ((w.alloc (.cells #[.int .u8 6, .int .i32 0, .int .u64 (R : Nat), .int .u64 0, .int .u64 0, .int .u64 0, .int .u64 0, .slice none 0 0, .bool false] 227)).drew) W := fun v' W b' c' hG => by
    rcases hG.how with ⟨_, ⟨cp, hc⟩, hmm⟩ | ⟨_, hx⟩
    · exact hmm.sub (fun x hx => ⟨hx, hTag cp hc⟩)
    · exact hx.mod _
  have hs2 : w.heap.size < ((w.alloc (.cells #[.int .u8 6, .int .i32 0, .int .u64 (R : Nat), .int .u64 0, .int .u64 0, .int .u64 0, .int .u64 0, .slice none 0 0, .bool false] 227)).drew).heap.size := by simp
  have hE2 : Ext w ((w.alloc (.cells #[.int .u8 6, .int .i32 0, .int .u64 (R : Nat), .int .u64 0, .int .u64 0, .int .u64 0, .int .u64 0, .slice none 0 0, .bool false] 227)).drew) := ((Ext.refl _).alloc _ _).drew
  have HS2 : ∀ v' W b' c', Grown ((w.alloc (.cells #[.int .u8 6, .int .i32 0, .int .u64 (R : Nat), .int .u64 0, .int .u64 0, .int .u64 0, .int .u64 0, .slice none 0 0, .bool false] 227)).drew) 227 9 (.slice oj n capj) n bj cj (#[.int .u8 6, .int .i32 0, .int .u64 (R : Nat), .int .u64 0, .int .u64 0, .int .u64 0, .int .u64 0, .slice none 0 0, .bool false] : Array Value).toList v' W b' c' → W.cell? ⟨g, 27015, none⟩ = some (.int .u64 (R : Nat)) := fun v' W b' c' hG => cx_mod hS1 (by omega) (fun q => by have := h.tag; rw [q.1, q.2] at this; omega) (HBW _ _ _ _ hG)
  have HA : Arn ((w.alloc (.cells #[.int .u8 6, .int .i32 0, .int .u64 (R : Nat), .int .u64 0, .int .u64 0, .int .u64 0, .int .u64 0, .slice none 0 0, .bool false] 227)).drew) 227 9 (.slice oj n capj) n bj cj := by
    rcases hArn with q | ⟨cp, q1, q2, q3, q4⟩
    · exact Or.inl q
    · exact Or.inr ⟨cp, q1, q2, q3, q4.ext hE2⟩
  have hone : ∀ u ∈ (#[.int .u8 6, .int .i32 0, .int .u64 (R : Nat), .int .u64 0, .int .u64 0, .int .u64 0, .int .u64 0, .slice none 0 0, .bool false] : Array Value).toList, u.oneCell' = true := fun u hu => by
    simp only [List.mem_cons, List.not_mem_nil, or_false] at hu
    rcases hu with q | q | q | q | q | q | q | q | q <;> subst q <;> rfl
  refine wp_region_held_drew (S := fun w' => w'.cell? ⟨g, 27015, none⟩ = some (.int .u64 (R : Nat))) (by kernel_rfl) hS0 (fun hHeld => ?_)
  refine wpAnyH_take (i := 0) (v := ?_) rfl (by kernel_rfl) (by kernel_rfl) (by kernel_rfl) (fun _ _ _ h => h) (Or.inl ⟨by rfl, ?_⟩) hHeld ?_
  rotate_left
  · intro w hSw; go_simp; try with_reducible rfl
  change wpAnyH _ _ _ _ _ _ _ (Act.put _ (some 16) _) _
  simp only [Act.put, List.setIfInBounds_toArray, List.set_cons_zero, List.set_cons_succ]
  refine wpAnyH_take (i := 1) (v := ?_) rfl (by kernel_rfl) (by kernel_rfl) (by kernel_rfl) (fun _ _ _ h => h) (Or.inl ⟨by rfl, ?_⟩) hHeld ?_
  rotate_left
  · intro w hSw; go_simp; try with_reducible rfl
  change wpAnyH _ _ _ _ _ _ _ (Act.put _ (some 17) _) _
  simp only [Act.put, List.setIfInBounds_toArray, List.set_cons_zero, List.set_cons_succ]
  refine wpAnyH_take (i := 2) (v := ?_) rfl (by kernel_rfl) (by kernel_rfl) (by kernel_rfl) (fun _ _ _ h => h) (Or.inl ⟨by rfl, ?_⟩) hHeld ?_
  rotate_left
  · intro w hSw; go_simp; try with_reducible rfl
  change wpAnyH _ _ _ _ _ _ _ (Act.put _ (some 18) _) _
  simp only [Act.put, List.setIfInBounds_toArray, List.set_cons_zero, List.set_cons_succ]
  refine wpAnyH_take (i := 3) (v := ?_) rfl (by kernel_rfl) (by kernel_rfl) (by kernel_rfl) (fun _ _ _ h => h) (Or.inl ⟨by rfl, ?_⟩) hHeld ?_
  rotate_left
  · intro w hSw; go_simp; try with_reducible rfl
  change wpAnyH _ _ _ _ _ _ _ (Act.put _ (some 19) _) _
  simp only [Act.put, List.setIfInBounds_toArray, List.set_cons_zero, List.set_cons_succ]
  refine wpAnyH_take (i := 5) (v := ?_) rfl (by kernel_rfl) (by kernel_rfl) (by kernel_rfl) (fun _ _ _ h => h) (Or.inl ⟨by rfl, ?_⟩) hHeld ?_
  rotate_left
  · intro w hSw; go_simp; try with_reducible rfl
  change wpAnyH _ _ _ _ _ _ _ (Act.put _ (some 21) _) _
  simp only [Act.put, List.setIfInBounds_toArray, List.set_cons_zero, List.set_cons_succ]
  refine wpAnyH_take (i := 6) (v := ?_) rfl (by kernel_rfl) (by kernel_rfl) (by kernel_rfl) (fun _ _ _ h => h) (Or.inl ⟨by rfl, ?_⟩) hHeld ?_
  rotate_left
  · intro w hSw; go_simp; try with_reducible rfl
  change wpAnyH _ _ _ _ _ _ _ (Act.put _ (some 22) _) _
  simp only [Act.put, List.setIfInBounds_toArray, List.set_cons_zero, List.set_cons_succ]
  refine wpAnyH_take (i := 7) (v := ?_) rfl (by kernel_rfl) (by kernel_rfl) (by kernel_rfl) (fun _ _ _ h => h) (Or.inl ⟨by rfl, ?_⟩) hHeld ?_
  rotate_left
  · intro w hSw; go_simp; try with_reducible rfl
  change wpAnyH _ _ _ _ _ _ _ (Act.put _ (some 23) _) _
  simp only [Act.put, List.setIfInBounds_toArray, List.set_cons_zero, List.set_cons_succ]
  refine wpAnyH_take (i := 8) (v := ?_) rfl (by kernel_rfl) (by kernel_rfl) (by kernel_rfl) (fun _ _ _ h => h) (Or.inl ⟨by rfl, ?_⟩) hHeld ?_
  rotate_left
  · intro w hSw; go_simp; try with_reducible rfl
  change wpAnyH _ _ _ _ _ _ _ (Act.put _ (some 24) _) _
  simp only [Act.put, List.setIfInBounds_toArray, List.set_cons_zero, List.set_cons_succ]
  refine wpAnyH_take (i := 9) (v := ?_) rfl (by kernel_rfl) (by kernel_rfl) (by kernel_rfl) (fun _ _ _ h => h) (Or.inl ⟨by rfl, ?_⟩) hHeld ?_
  rotate_left
  · intro w hSw; go_simp; try with_reducible rfl
  change wpAnyH _ _ _ _ _ _ _ (Act.put _ (some 25) _) _
  simp only [Act.put, List.setIfInBounds_toArray, List.set_cons_zero, List.set_cons_succ]
  refine wpAnyH_ready (rs := [4, 10]) (by kernel_rfl) (by simp) ?_
  refine AllReadyH.cons rfl (fun K hK => ?_) (AllReadyH.cons rfl (fun K hK => ?_) AllReadyH.nil)
  · go_simp
    refine hK.out _ _ ?_ (fun hHeld => ?_)
    · exact hS0
    clear hK K
    refine wpAnyH_ready (rs := [10]) (by kernel_rfl) (by simp) ?_
    refine AllReadyH.cons rfl (fun K hK => ?_) AllReadyH.nil
    go_simp
    refine hK.out _ _ ?_ (fun hHeld => ?_)
    · exact hS1
    clear hK K
    refine wpAnyH_ready (rs := [11]) (by kernel_rfl) (by simp) ?_
    refine AllReadyH.cons rfl (fun K hK => ?_) AllReadyH.nil
    refine step_append1 rfl (.tmp 20) (.tmp 26) 93 rfl 227 Hvah.t227 _ 9 under80 info219 zero219 size219 rfl bytes219 (.slice oj n capj) n bj cj HA (by have := hn.out; omega) ⟨w.heap.size, 0, none⟩ 1 (#[.int .u8 6, .int .i32 0, .int .u64 (R : Nat), .int .u64 0, .int .u64 0, .int .u64 0, .int .u64 0, .slice none 0 0, .bool false] : Array Value).toList rfl (World.news_of_block (heap_new _ _)) hone (by simp [Act.eval]) (by simp [Act.eval]) ?_
    rintro v' W b' c' hG
    refine hK.out _ _ ?_ (fun hHeld => ?_)
    · exact HS2 _ _ _ _ hG
    clear hK K
    change wpAnyH _ _ _ _ _ _ _ (Act.put _ (some 27) _) _
    simp only [Act.put, List.setIfInBounds_toArray, List.set_cons_zero, List.set_cons_succ]
    refine wpAnyH_take (i := 12) (v := ?_) rfl (by kernel_rfl) (by kernel_rfl) (by kernel_rfl) (fun _ _ _ h => h) (Or.inl ⟨by rfl, ?_⟩) hHeld ?_
    rotate_left
    · intro w hSw; go_simp; try with_reducible rfl
    change wpAnyH _ _ _ _ _ _ _ (Act.put _ (some 28) _) _
    simp only [Act.put, List.setIfInBounds_toArray, List.set_cons_zero, List.set_cons_succ]
    refine wpAnyH_take (i := 13) (v := ?_) rfl (by kernel_rfl) (by kernel_rfl) (by kernel_rfl) (fun _ _ _ h => h) (Or.inl ⟨by rfl, ?_⟩) hHeld ?_
    rotate_left
    · intro w hSw; go_simp; try with_reducible rfl
    change wpAnyH _ _ _ _ _ _ _ (Act.put _ (some 29) _) _
    simp only [Act.put, List.setIfInBounds_toArray, List.set_cons_zero, List.set_cons_succ]
    have hBW := (h.blk.ext hE2).mod (HBW _ _ _ _ hG) (fun q => by have := h.tag; rw [q.1, q.2] at this; omega)
    have kg := hBW.cell (i := 10629) (by omega)
    have kf := hBW.fz
    have hSW := HS2 _ _ _ _ hG
    obtain ⟨capj', rfl⟩ := hG.some
    refine wpAnyH_ready (rs := [14]) (by kernel_rfl) (by simp) ?_
    refine AllReadyH.cons rfl (fun K hK => ?_) AllReadyH.nil
    go_simp
    refine hK.out _ _ ?_ (fun hHeld => ?_)
    · exact cx_set hSW (by omega)
    clear hK K
    refine wpAnyH_done (by kernel_rfl) ?_ _
    clear hHeld
    obtain ⟨own2, c4, h2, s2⟩ := push_end (e := ⟨6, 0, R, 0, [], false⟩) (z := #[.int .u8 6, .int .i32 0, .int .u64 (R : Nat), .int .u64 0, .int .u64 0, .int .u64 0, .int .u64 0, .slice none 0 0, .bool false]) h hJ ⟨fun q => by simp at q, fun q => by simp at q, fun q => by simp at q, by simp⟩ hE2 (by rw [hvj, hn.out]; exact hTag) hJR (by rw [hvj, hn.out]; exact hG)
      (fun own' w' c3 o K hnw => ⟨hnw 0 _ rfl, hnw 1 _ rfl, hnw 2 _ rfl, WAt.zero4 (q := 3) hnw rfl rfl rfl rfl, by rw [hnw 7 _ rfl]; exact NL.nil, hnw 8 _ rfl, by show (6 : Nat) ≤ 10; decide, by show (0 : Nat) < 16384; decide, hRl, P256_pos⟩)
    refine w_gen (fun X => VRep own2 X g c4 (V.push ⟨6, 0, R, 0, [], false⟩) ∧ VStep own w c own2 X c4) ⟨h2, s2⟩ ?_
    rintro X ⟨h2, s2⟩
    clear hSW kf kg hBW hG HS2 HBW hS0 hS1 kr kj hfz HA
    have k0 := h2.blk.cell (i := 27015) (by omega)
    have hr2 : c4 27015 = .int .u64 (R : Nat) := by rw [h2.ref]; show Value.int .u64 ((V.ref : Nat) : Int) = _; rw [hR.out]
    rw [hr2] at k0
    have kf := h2.blk.fz
    go_wp2
    go_ret
    have hfin := ref_end (n := R - x) h2 (by omega)
    rw [show ((R - x : Nat) : Int) = (R : Int) - x by omega] at hfin
    refine ⟨rfl, own2, _, ?_, s2.trans hfin.2⟩
    have hV : V.setRef (R - x) = { V.push ⟨6, 0, R, 0, [], false⟩ with ref := R - x } := by unfold EV.setRef; rw [hR.out]; rfl
    rw [hV]
    exact hfin.1
  · go_simp
    refine hK.out _ _ ?_ (fun hHeld => ?_)
    · exact hS1
    clear hK K
    refine wpAnyH_ready (rs := [4]) (by kernel_rfl) (by simp) ?_
    refine AllReadyH.cons rfl (fun K hK => ?_) AllReadyH.nil
    go_simp
    refine hK.out _ _ ?_ (fun hHeld => ?_)
    · exact hS1
    clear hK K
    refine wpAnyH_ready (rs := [11]) (by kernel_rfl) (by simp) ?_
    refine AllReadyH.cons rfl (fun K hK => ?_) AllReadyH.nil
    refine step_append1 rfl (.tmp 20) (.tmp 26) 93 rfl 227 Hvah.t227 _ 9 under80 info219 zero219 size219 rfl bytes219 (.slice oj n capj) n bj cj HA (by have := hn.out; omega) ⟨w.heap.size, 0, none⟩ 1 (#[.int .u8 6, .int .i32 0, .int .u64 (R : Nat), .int .u64 0, .int .u64 0, .int .u64 0, .int .u64 0, .slice none 0 0, .bool false] : Array Value).toList rfl (World.news_of_block (heap_new _ _)) hone (by simp [Act.eval]) (by simp [Act.eval]) ?_
    rintro v' W b' c' hG
    refine hK.out _ _ ?_ (fun hHeld => ?_)
    · exact HS2 _ _ _ _ hG
    clear hK K
    change wpAnyH _ _ _ _ _ _ _ (Act.put _ (some 27) _) _
    simp only [Act.put, List.setIfInBounds_toArray, List.set_cons_zero, List.set_cons_succ]
    refine wpAnyH_take (i := 12) (v := ?_) rfl (by kernel_rfl) (by kernel_rfl) (by kernel_rfl) (fun _ _ _ h => h) (Or.inl ⟨by rfl, ?_⟩) hHeld ?_
    rotate_left
    · intro w hSw; go_simp; try with_reducible rfl
    change wpAnyH _ _ _ _ _ _ _ (Act.put _ (some 28) _) _
    simp only [Act.put, List.setIfInBounds_toArray, List.set_cons_zero, List.set_cons_succ]
    refine wpAnyH_take (i := 13) (v := ?_) rfl (by kernel_rfl) (by kernel_rfl) (by kernel_rfl) (fun _ _ _ h => h) (Or.inl ⟨by rfl, ?_⟩) hHeld ?_
    rotate_left
    · intro w hSw; go_simp; try with_reducible rfl
    change wpAnyH _ _ _ _ _ _ _ (Act.put _ (some 29) _) _
    simp only [Act.put, List.setIfInBounds_toArray, List.set_cons_zero, List.set_cons_succ]
    have hBW := (h.blk.ext hE2).mod (HBW _ _ _ _ hG) (fun q => by have := h.tag; rw [q.1, q.2] at this; omega)
    have kg := hBW.cell (i := 10629) (by omega)
    have kf := hBW.fz
    have hSW := HS2 _ _ _ _ hG
    obtain ⟨capj', rfl⟩ := hG.some
    refine wpAnyH_ready (rs := [14]) (by kernel_rfl) (by simp) ?_
    refine AllReadyH.cons rfl (fun K hK => ?_) AllReadyH.nil
    go_simp
    refine hK.out _ _ ?_ (fun hHeld => ?_)
    · exact cx_set hSW (by omega)
    clear hK K
    refine wpAnyH_done (by kernel_rfl) ?_ _
    clear hHeld
    obtain ⟨own2, c4, h2, s2⟩ := push_end (e := ⟨6, 0, R, 0, [], false⟩) (z := #[.int .u8 6, .int .i32 0, .int .u64 (R : Nat), .int .u64 0, .int .u64 0, .int .u64 0, .int .u64 0, .slice none 0 0, .bool false]) h hJ ⟨fun q => by simp at q, fun q => by simp at q, fun q => by simp at q, by simp⟩ hE2 (by rw [hvj, hn.out]; exact hTag) hJR (by rw [hvj, hn.out]; exact hG)
      (fun own' w' c3 o K hnw => ⟨hnw 0 _ rfl, hnw 1 _ rfl, hnw 2 _ rfl, WAt.zero4 (q := 3) hnw rfl rfl rfl rfl, by rw [hnw 7 _ rfl]; exact NL.nil, hnw 8 _ rfl, by show (6 : Nat) ≤ 10; decide, by show (0 : Nat) < 16384; decide, hRl, P256_pos⟩)
    refine w_gen (fun X => VRep own2 X g c4 (V.push ⟨6, 0, R, 0, [], false⟩) ∧ VStep own w c own2 X c4) ⟨h2, s2⟩ ?_
    rintro X ⟨h2, s2⟩
    clear hSW kf kg hBW hG HS2 HBW hS0 hS1 kr kj hfz HA
    have k0 := h2.blk.cell (i := 27015) (by omega)
    have hr2 : c4 27015 = .int .u64 (R : Nat) := by rw [h2.ref]; show Value.int .u64 ((V.ref : Nat) : Int) = _; rw [hR.out]
    rw [hr2] at k0
    have kf := h2.blk.fz
    go_wp2
    go_ret
    have hfin := ref_end (n := R - x) h2 (by omega)
    rw [show ((R - x : Nat) : Int) = (R : Int) - x by omega] at hfin
    refine ⟨rfl, own2, _, ?_, s2.trans hfin.2⟩
    have hV : V.setRef (R - x) = { V.push ⟨6, 0, R, 0, [], false⟩ with ref := R - x } := by unfold EV.setRef; rw [hR.out]; rfl
    rw [hV]
    exact hfin.1
set_option maxRecDepth 100000 in
set_option maxHeartbeats 1600000 in
theorem vRefundUp (x : Nat) (h : VRep own w g c V) (hx : V.ref + x ≤ 209715200) (hJ : V.journal.length < 65536) :
    Calls Hvah.prog 317 #[.pointer (some ⟨g, 2435, none⟩), .int .u64 x] w fun e w' => e = .returned (.bool true) ∧ ∃ own' c', VRep own' w' g c' (V.setRef (V.ref + x)) ∧ VStep own w c own' w' c' := by
  have HR : ∀ W, Ext w W → Calls Hvah.prog 179 #[.pointer (some ⟨g, 2435, none⟩)] W fun e w' => e = .returned (.bool true) ∧ w' = W := fun W hW => by
    have := vRoom (h.ext hW); rw [decide_eq_true hJ] at this; exact this
  have hRl := h.rLt
  obtain ⟨R, hR⟩ : ∃ R, Hid (V.ref = R) := ⟨_, (rfl : V.ref = _)⟩
  rw [hR.out] at hx hRl ⊢
  have kr := h.blk.cell (i := 27015) (by omega)
  rw [h.ref, hR.out] at kr
  have hxi : (x : Int) ≤ 209715200 - R := by omega
  have hxj : (R : Int) ≤ 209715200 := by omega
  obtain ⟨bj, cj, hArn, hTag, hJR⟩ := h.jrn.arn
  rw [List.length_reverse] at hArn hTag
  obtain ⟨oj, capj, hvj⟩ : ∃ o cap, c 10629 = .slice o V.journal.length cap := by
    rcases hArn with ⟨q1, q2⟩ | ⟨cp, q1, _⟩
    · exact ⟨none, 0, by rw [q1]; exact q2⟩
    · exact ⟨_, _, q1⟩
  obtain ⟨n, hn⟩ : ∃ n, Hid (V.journal.length = n) := ⟨_, (rfl : V.journal.length = _)⟩
  rw [hn.out] at hvj hArn hTag
  rw [hvj] at hArn hTag
  have kj := h.blk.cell (i := 10629) (by omega)
  rw [hvj] at kj
  have hfz := h.blk.fz
  have hlt := h.blk.lt
  go_enter Hvah.func317, Hvah.ntmps317
  go_wp2_with (first | (go_at_call 179; refine (HR _ (Ext.refl _)).mono ?_; rintro e w1 ⟨rfl, hq⟩; rw [hq]; clear hq))
  have hS0 : w.drew.cell? ⟨g, 27015, none⟩ = some (.int .u64 (R : Nat)) := kr
  have hS1 : ((w.alloc (.cells #[.int .u8 6, .int .i32 0, .int .u64 (R : Nat), .int .u64 0, .int .u64 0, .int .u64 0, .int .u64 0, .slice none 0 0, .bool false] 227)).drew).cell? ⟨g, 27015, none⟩ = some (.int .u64 (R : Nat)) := cx_ext hS0 hlt ((Ext.refl w.drew).alloc _ _)
  have HBW : ∀ v' W b' c', Grown ((w.alloc (.cells #[.int .u8 6, .int .i32 0, .int .u64 (R : Nat), .int .u64 0, .int .u64 0, .int .u64 0, .int .u64 0, .slice none 0 0, .bool false] 227)).drew) 227 9 (.slice oj n capj) n bj cj (#[.int .u8 6, .int .i32 0, .int .u64 (R : Nat), .int .u64 0, .int .u64 0, .int .u64 0, .int .u64 0, .slice none 0 0, .bool false] : Array Value).toList v' W b' c' → Mod (fun x => x = bj ∧ own bj = 3) ((w.alloc (.cells #[.int .u8 6, .int .i32 0, .int .u64 (R : Nat), .int .u64 0, .int .u64 0, .int .u64 0, .int .u64 0, .slice none 0 0, .bool false] 227)).drew) W := fun v' W b' c' hG => by
    rcases hG.how with ⟨_, ⟨cp, hc⟩, hmm⟩ | ⟨_, hx⟩
    · exact hmm.sub (fun x hx => ⟨hx, hTag cp hc⟩)
    · exact hx.mod _
  have hs2 : w.heap.size < ((w.alloc (.cells #[.int .u8 6, .int .i32 0, .int .u64 (R : Nat), .int .u64 0, .int .u64 0, .int .u64 0, .int .u64 0, .slice none 0 0, .bool false] 227)).drew).heap.size := by simp
  have hE2 : Ext w ((w.alloc (.cells #[.int .u8 6, .int .i32 0, .int .u64 (R : Nat), .int .u64 0, .int .u64 0, .int .u64 0, .int .u64 0, .slice none 0 0, .bool false] 227)).drew) := ((Ext.refl _).alloc _ _).drew
  have HS2 : ∀ v' W b' c', Grown ((w.alloc (.cells #[.int .u8 6, .int .i32 0, .int .u64 (R : Nat), .int .u64 0, .int .u64 0, .int .u64 0, .int .u64 0, .slice none 0 0, .bool false] 227)).drew) 227 9 (.slice oj n capj) n bj cj (#[.int .u8 6, .int .i32 0, .int .u64 (R : Nat), .int .u64 0, .int .u64 0, .int .u64 0, .int .u64 0, .slice none 0 0, .bool false] : Array Value).toList v' W b' c' → W.cell? ⟨g, 27015, none⟩ = some (.int .u64 (R : Nat)) := fun v' W b' c' hG => cx_mod hS1 (by omega) (fun q => by have := h.tag; rw [q.1, q.2] at this; omega) (HBW _ _ _ _ hG)
  have HA : Arn ((w.alloc (.cells #[.int .u8 6, .int .i32 0, .int .u64 (R : Nat), .int .u64 0, .int .u64 0, .int .u64 0, .int .u64 0, .slice none 0 0, .bool false] 227)).drew) 227 9 (.slice oj n capj) n bj cj := by
    rcases hArn with q | ⟨cp, q1, q2, q3, q4⟩
    · exact Or.inl q
    · exact Or.inr ⟨cp, q1, q2, q3, q4.ext hE2⟩
  have hone : ∀ u ∈ (#[.int .u8 6, .int .i32 0, .int .u64 (R : Nat), .int .u64 0, .int .u64 0, .int .u64 0, .int .u64 0, .slice none 0 0, .bool false] : Array Value).toList, u.oneCell' = true := fun u hu => by
    simp only [List.mem_cons, List.not_mem_nil, or_false] at hu
    rcases hu with q | q | q | q | q | q | q | q | q <;> subst q <;> rfl
  refine wp_region_held_drew (S := fun w' => w'.cell? ⟨g, 27015, none⟩ = some (.int .u64 (R : Nat))) (by kernel_rfl) hS0 (fun hHeld => ?_)
  refine wpAnyH_take (i := 0) (v := ?_) rfl (by kernel_rfl) (by kernel_rfl) (by kernel_rfl) (fun _ _ _ h => h) (Or.inl ⟨by rfl, ?_⟩) hHeld ?_
  rotate_left
  · intro w hSw; go_simp; try with_reducible rfl
  change wpAnyH _ _ _ _ _ _ _ (Act.put _ (some 24) _) _
  simp only [Act.put, List.setIfInBounds_toArray, List.set_cons_zero, List.set_cons_succ]
  refine wpAnyH_take (i := 1) (v := ?_) rfl (by kernel_rfl) (by kernel_rfl) (by kernel_rfl) (fun _ _ _ h => h) (Or.inl ⟨by rfl, ?_⟩) hHeld ?_
  rotate_left
  · intro w hSw; go_simp; try with_reducible rfl
  change wpAnyH _ _ _ _ _ _ _ (Act.put _ (some 25) _) _
  simp only [Act.put, List.setIfInBounds_toArray, List.set_cons_zero, List.set_cons_succ]
  refine wpAnyH_take (i := 2) (v := ?_) rfl (by kernel_rfl) (by kernel_rfl) (by kernel_rfl) (fun _ _ _ h => h) (Or.inl ⟨by rfl, ?_⟩) hHeld ?_
  rotate_left
  · intro w hSw; go_simp; try with_reducible rfl
  change wpAnyH _ _ _ _ _ _ _ (Act.put _ (some 26) _) _
  simp only [Act.put, List.setIfInBounds_toArray, List.set_cons_zero, List.set_cons_succ]
  refine wpAnyH_take (i := 3) (v := ?_) rfl (by kernel_rfl) (by kernel_rfl) (by kernel_rfl) (fun _ _ _ h => h) (Or.inl ⟨by rfl, ?_⟩) hHeld ?_
  rotate_left
  · intro w hSw; go_simp; try with_reducible rfl
  change wpAnyH _ _ _ _ _ _ _ (Act.put _ (some 27) _) _
  simp only [Act.put, List.setIfInBounds_toArray, List.set_cons_zero, List.set_cons_succ]
  refine wpAnyH_take (i := 5) (v := ?_) rfl (by kernel_rfl) (by kernel_rfl) (by kernel_rfl) (fun _ _ _ h => h) (Or.inl ⟨by rfl, ?_⟩) hHeld ?_
  rotate_left
  · intro w hSw; go_simp; try with_reducible rfl
  change wpAnyH _ _ _ _ _ _ _ (Act.put _ (some 29) _) _
  simp only [Act.put, List.setIfInBounds_toArray, List.set_cons_zero, List.set_cons_succ]
  refine wpAnyH_take (i := 6) (v := ?_) rfl (by kernel_rfl) (by kernel_rfl) (by kernel_rfl) (fun _ _ _ h => h) (Or.inl ⟨by rfl, ?_⟩) hHeld ?_
  rotate_left
  · intro w hSw; go_simp; try with_reducible rfl
  change wpAnyH _ _ _ _ _ _ _ (Act.put _ (some 30) _) _
  simp only [Act.put, List.setIfInBounds_toArray, List.set_cons_zero, List.set_cons_succ]
  refine wpAnyH_take (i := 7) (v := ?_) rfl (by kernel_rfl) (by kernel_rfl) (by kernel_rfl) (fun _ _ _ h => h) (Or.inl ⟨by rfl, ?_⟩) hHeld ?_
  rotate_left
  · intro w hSw; go_simp; try with_reducible rfl
  change wpAnyH _ _ _ _ _ _ _ (Act.put _ (some 31) _) _
  simp only [Act.put, List.setIfInBounds_toArray, List.set_cons_zero, List.set_cons_succ]
  refine wpAnyH_take (i := 8) (v := ?_) rfl (by kernel_rfl) (by kernel_rfl) (by kernel_rfl) (fun _ _ _ h => h) (Or.inl ⟨by rfl, ?_⟩) hHeld ?_
  rotate_left
  · intro w hSw; go_simp; try with_reducible rfl
  change wpAnyH _ _ _ _ _ _ _ (Act.put _ (some 32) _) _
  simp only [Act.put, List.setIfInBounds_toArray, List.set_cons_zero, List.set_cons_succ]
  refine wpAnyH_take (i := 9) (v := ?_) rfl (by kernel_rfl) (by kernel_rfl) (by kernel_rfl) (fun _ _ _ h => h) (Or.inl ⟨by rfl, ?_⟩) hHeld ?_
  rotate_left
  · intro w hSw; go_simp; try with_reducible rfl
  change wpAnyH _ _ _ _ _ _ _ (Act.put _ (some 33) _) _
  simp only [Act.put, List.setIfInBounds_toArray, List.set_cons_zero, List.set_cons_succ]
  refine wpAnyH_ready (rs := [4, 10]) (by kernel_rfl) (by simp) ?_
  refine AllReadyH.cons rfl (fun K hK => ?_) (AllReadyH.cons rfl (fun K hK => ?_) AllReadyH.nil)
  · go_simp
    refine hK.out _ _ ?_ (fun hHeld => ?_)
    · exact hS0
    clear hK K
    refine wpAnyH_ready (rs := [10]) (by kernel_rfl) (by simp) ?_
    refine AllReadyH.cons rfl (fun K hK => ?_) AllReadyH.nil
    go_simp
    refine hK.out _ _ ?_ (fun hHeld => ?_)
    · exact hS1
    clear hK K
    refine wpAnyH_ready (rs := [11]) (by kernel_rfl) (by simp) ?_
    refine AllReadyH.cons rfl (fun K hK => ?_) AllReadyH.nil
    refine step_append1 rfl (.tmp 28) (.tmp 34) 93 rfl 227 Hvah.t227 _ 9 under80 info219 zero219 size219 rfl bytes219 (.slice oj n capj) n bj cj HA (by have := hn.out; omega) ⟨w.heap.size, 0, none⟩ 1 (#[.int .u8 6, .int .i32 0, .int .u64 (R : Nat), .int .u64 0, .int .u64 0, .int .u64 0, .int .u64 0, .slice none 0 0, .bool false] : Array Value).toList rfl (World.news_of_block (heap_new _ _)) hone (by simp [Act.eval]) (by simp [Act.eval]) ?_
    rintro v' W b' c' hG
    refine hK.out _ _ ?_ (fun hHeld => ?_)
    · exact HS2 _ _ _ _ hG
    clear hK K
    change wpAnyH _ _ _ _ _ _ _ (Act.put _ (some 35) _) _
    simp only [Act.put, List.setIfInBounds_toArray, List.set_cons_zero, List.set_cons_succ]
    refine wpAnyH_take (i := 12) (v := ?_) rfl (by kernel_rfl) (by kernel_rfl) (by kernel_rfl) (fun _ _ _ h => h) (Or.inl ⟨by rfl, ?_⟩) hHeld ?_
    rotate_left
    · intro w hSw; go_simp; try with_reducible rfl
    change wpAnyH _ _ _ _ _ _ _ (Act.put _ (some 36) _) _
    simp only [Act.put, List.setIfInBounds_toArray, List.set_cons_zero, List.set_cons_succ]
    refine wpAnyH_take (i := 13) (v := ?_) rfl (by kernel_rfl) (by kernel_rfl) (by kernel_rfl) (fun _ _ _ h => h) (Or.inl ⟨by rfl, ?_⟩) hHeld ?_
    rotate_left
    · intro w hSw; go_simp; try with_reducible rfl
    change wpAnyH _ _ _ _ _ _ _ (Act.put _ (some 37) _) _
    simp only [Act.put, List.setIfInBounds_toArray, List.set_cons_zero, List.set_cons_succ]
    have hBW := (h.blk.ext hE2).mod (HBW _ _ _ _ hG) (fun q => by have := h.tag; rw [q.1, q.2] at this; omega)
    have kg := hBW.cell (i := 10629) (by omega)
    have kf := hBW.fz
    have hSW := HS2 _ _ _ _ hG
    obtain ⟨capj', rfl⟩ := hG.some
    refine wpAnyH_ready (rs := [14]) (by kernel_rfl) (by simp) ?_
    refine AllReadyH.cons rfl (fun K hK => ?_) AllReadyH.nil
    go_simp
    refine hK.out _ _ ?_ (fun hHeld => ?_)
    · exact cx_set hSW (by omega)
    clear hK K
    refine wpAnyH_done (by kernel_rfl) ?_ _
    clear hHeld
    obtain ⟨own2, c4, h2, s2⟩ := push_end (e := ⟨6, 0, R, 0, [], false⟩) (z := #[.int .u8 6, .int .i32 0, .int .u64 (R : Nat), .int .u64 0, .int .u64 0, .int .u64 0, .int .u64 0, .slice none 0 0, .bool false]) h hJ ⟨fun q => by simp at q, fun q => by simp at q, fun q => by simp at q, by simp⟩ hE2 (by rw [hvj, hn.out]; exact hTag) hJR (by rw [hvj, hn.out]; exact hG)
      (fun own' w' c3 o K hnw => ⟨hnw 0 _ rfl, hnw 1 _ rfl, hnw 2 _ rfl, WAt.zero4 (q := 3) hnw rfl rfl rfl rfl, by rw [hnw 7 _ rfl]; exact NL.nil, hnw 8 _ rfl, by show (6 : Nat) ≤ 10; decide, by show (0 : Nat) < 16384; decide, hRl, P256_pos⟩)
    refine w_gen (fun X => VRep own2 X g c4 (V.push ⟨6, 0, R, 0, [], false⟩) ∧ VStep own w c own2 X c4) ⟨h2, s2⟩ ?_
    rintro X ⟨h2, s2⟩
    clear hSW kf kg hBW hG HS2 HBW hS0 hS1 kr kj hfz HA
    have k0 := h2.blk.cell (i := 27015) (by omega)
    have hr2 : c4 27015 = .int .u64 (R : Nat) := by rw [h2.ref]; show Value.int .u64 ((V.ref : Nat) : Int) = _; rw [hR.out]
    rw [hr2] at k0
    have kf := h2.blk.fz
    go_wp2
    go_ret
    have hfin := ref_end (n := R + x) h2 (by omega)
    rw [show ((R + x : Nat) : Int) = (R : Int) + x by omega] at hfin
    refine ⟨rfl, own2, _, ?_, s2.trans hfin.2⟩
    have hV : V.setRef (R + x) = { V.push ⟨6, 0, R, 0, [], false⟩ with ref := R + x } := by unfold EV.setRef; rw [hR.out]; rfl
    rw [hV]
    exact hfin.1
  · go_simp
    refine hK.out _ _ ?_ (fun hHeld => ?_)
    · exact hS1
    clear hK K
    refine wpAnyH_ready (rs := [4]) (by kernel_rfl) (by simp) ?_
    refine AllReadyH.cons rfl (fun K hK => ?_) AllReadyH.nil
    go_simp
    refine hK.out _ _ ?_ (fun hHeld => ?_)
    · exact hS1
    clear hK K
    refine wpAnyH_ready (rs := [11]) (by kernel_rfl) (by simp) ?_
    refine AllReadyH.cons rfl (fun K hK => ?_) AllReadyH.nil
    refine step_append1 rfl (.tmp 28) (.tmp 34) 93 rfl 227 Hvah.t227 _ 9 under80 info219 zero219 size219 rfl bytes219 (.slice oj n capj) n bj cj HA (by have := hn.out; omega) ⟨w.heap.size, 0, none⟩ 1 (#[.int .u8 6, .int .i32 0, .int .u64 (R : Nat), .int .u64 0, .int .u64 0, .int .u64 0, .int .u64 0, .slice none 0 0, .bool false] : Array Value).toList rfl (World.news_of_block (heap_new _ _)) hone (by simp [Act.eval]) (by simp [Act.eval]) ?_
    rintro v' W b' c' hG
    refine hK.out _ _ ?_ (fun hHeld => ?_)
    · exact HS2 _ _ _ _ hG
    clear hK K
    change wpAnyH _ _ _ _ _ _ _ (Act.put _ (some 35) _) _
    simp only [Act.put, List.setIfInBounds_toArray, List.set_cons_zero, List.set_cons_succ]
    refine wpAnyH_take (i := 12) (v := ?_) rfl (by kernel_rfl) (by kernel_rfl) (by kernel_rfl) (fun _ _ _ h => h) (Or.inl ⟨by rfl, ?_⟩) hHeld ?_
    rotate_left
    · intro w hSw; go_simp; try with_reducible rfl
    change wpAnyH _ _ _ _ _ _ _ (Act.put _ (some 36) _) _
    simp only [Act.put, List.setIfInBounds_toArray, List.set_cons_zero, List.set_cons_succ]
    refine wpAnyH_take (i := 13) (v := ?_) rfl (by kernel_rfl) (by kernel_rfl) (by kernel_rfl) (fun _ _ _ h => h) (Or.inl ⟨by rfl, ?_⟩) hHeld ?_
    rotate_left
    · intro w hSw; go_simp; try with_reducible rfl
    change wpAnyH _ _ _ _ _ _ _ (Act.put _ (some 37) _) _
    simp only [Act.put, List.setIfInBounds_toArray, List.set_cons_zero, List.set_cons_succ]
    have hBW := (h.blk.ext hE2).mod (HBW _ _ _ _ hG) (fun q => by have := h.tag; rw [q.1, q.2] at this; omega)
    have kg := hBW.cell (i := 10629) (by omega)
    have kf := hBW.fz
    have hSW := HS2 _ _ _ _ hG
    obtain ⟨capj', rfl⟩ := hG.some
    refine wpAnyH_ready (rs := [14]) (by kernel_rfl) (by simp) ?_
    refine AllReadyH.cons rfl (fun K hK => ?_) AllReadyH.nil
    go_simp
    refine hK.out _ _ ?_ (fun hHeld => ?_)
    · exact cx_set hSW (by omega)
    clear hK K
    refine wpAnyH_done (by kernel_rfl) ?_ _
    clear hHeld
    obtain ⟨own2, c4, h2, s2⟩ := push_end (e := ⟨6, 0, R, 0, [], false⟩) (z := #[.int .u8 6, .int .i32 0, .int .u64 (R : Nat), .int .u64 0, .int .u64 0, .int .u64 0, .int .u64 0, .slice none 0 0, .bool false]) h hJ ⟨fun q => by simp at q, fun q => by simp at q, fun q => by simp at q, by simp⟩ hE2 (by rw [hvj, hn.out]; exact hTag) hJR (by rw [hvj, hn.out]; exact hG)
      (fun own' w' c3 o K hnw => ⟨hnw 0 _ rfl, hnw 1 _ rfl, hnw 2 _ rfl, WAt.zero4 (q := 3) hnw rfl rfl rfl rfl, by rw [hnw 7 _ rfl]; exact NL.nil, hnw 8 _ rfl, by show (6 : Nat) ≤ 10; decide, by show (0 : Nat) < 16384; decide, hRl, P256_pos⟩)
    refine w_gen (fun X => VRep own2 X g c4 (V.push ⟨6, 0, R, 0, [], false⟩) ∧ VStep own w c own2 X c4) ⟨h2, s2⟩ ?_
    rintro X ⟨h2, s2⟩
    clear hSW kf kg hBW hG HS2 HBW hS0 hS1 kr kj hfz HA
    have k0 := h2.blk.cell (i := 27015) (by omega)
    have hr2 : c4 27015 = .int .u64 (R : Nat) := by rw [h2.ref]; show Value.int .u64 ((V.ref : Nat) : Int) = _; rw [hR.out]
    rw [hr2] at k0
    have kf := h2.blk.fz
    go_wp2
    go_ret
    have hfin := ref_end (n := R + x) h2 (by omega)
    rw [show ((R + x : Nat) : Int) = (R : Int) + x by omega] at hfin
    refine ⟨rfl, own2, _, ?_, s2.trans hfin.2⟩
    have hV : V.setRef (R + x) = { V.push ⟨6, 0, R, 0, [], false⟩ with ref := R + x } := by unfold EV.setRef; rw [hR.out]; rfl
    rw [hV]
    exact hfin.1
end
end Go.Proofs.YgvahwGreat
