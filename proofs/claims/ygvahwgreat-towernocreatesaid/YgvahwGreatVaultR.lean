import Derived.Test.YgvahwGreatVaultQ
namespace Go.Proofs.YgvahwGreat
open Go.RowKit
attribute [local go_sem] wv_fold
theorem needAS_pk (V : EV) (a k : Nat) : (V.needAS a k).pk a k = some (V.atAS a k) := by
  unfold EV.pk
  rw [needAS_ix]
  exact needS_ix (V.need a) (V.at_ a) k
section
variable {own : Nat → Nat} {w : World} {g : Nat} {c : Nat → Value} {V : EV} {a k : Nat}
set_option maxRecDepth 100000 in
set_option maxHeartbeats 1600000 in
theorem vWarmSlot  (h : VRep own w g c V) (ha : a < 2 ^ 160) (hk : k < P256) (hJ : V.journal.length < 65536) (hrA : V.ix a = none → V.accts.length < 2560) (hrS : V.slots.length < 2560) :
    Calls Hvah.prog 184 #[.pointer (some ⟨g, 2435, none⟩), .agg (av a), wv k] w fun e w' => e = .returned (.bool true) ∧ ∃ own' c', VRep own' w' g c' (V.warmS a k) ∧ VStep own w c own' w' c' := by
  have HR : ∀ W, Ext w W → Calls Hvah.prog 179 #[.pointer (some ⟨g, 2435, none⟩)] W fun e w' => e = .returned (.bool true) ∧ w' = W := fun W hW => by
    have := vRoom (h.ext hW); rw [decide_eq_true hJ] at this; exact this
  have HAc : ∀ W, Ext w W → Calls Hvah.prog 257 #[.pointer (some ⟨g, 2435, none⟩), .agg (av a), wv k] W fun e w' => e = .returned (.tuple #[.int .i32 (V.atAS a k : Nat), .bool true]) ∧ ∃ own' c', VRep own' w' g c' (V.needAS a k) ∧ VStep own W c own' w' c' := fun W hW => vSlotOf (h.ext hW) ha hk hrA hrS
  have hnJ : (V.needAS a k).journal = V.journal := by unfold EV.needAS EV.needS EV.need; split <;> split <;> rfl
  have hSL := (needAS_ex V a k).sl h.wf a k
  obtain ⟨i, hi⟩ : ∃ i, Hid (V.atAS a k = i) := ⟨_, (rfl : V.atAS a k = _)⟩
  rw [hi.out] at HAc
  go_enter Hvah.func184, Hvah.ntmps184
  go_wp2_with (first | ((with_reducible (refine Veil.out ?_; apply wl_box)); (case hx => rfl)) | ((with_reducible (refine Veil.out ?_; apply wl_load_av (n := a))); (case hn => exact ha); (case hx => rfl); (case hr => exact row_box a ((Ext.refl _).alloc _ _))) | (go_at_call 179; refine (HR _ (((Ext.refl _).alloc _ _).alloc _ _)).mono ?_; rintro e w1 ⟨rfl, rfl⟩) | (go_at_call 257; refine (HAc _ (((Ext.refl _).alloc _ _).alloc _ _)).mono ?_; rintro e w2 ⟨rfl, own1, c1, h1, s1⟩))
  obtain ⟨b, cap, c2, hv, hil, hlc, hcm, hb, hob, hrows, hA, hin⟩ := h1.slotAt (needAS_pk V a k)
  rw [hi.out] at hA hin hil
  have hil' : (i : Int) < (V.needAS a k).slots.length := by omega
  obtain ⟨m, hm⟩ : ∃ m, Hid ((V.needAS a k).slots.length = m) := ⟨_, (rfl : (V.needAS a k).slots.length = _)⟩
  rw [hm.out] at hv hil'
  obtain ⟨N, hN⟩ : ∃ N, Hid ((V.sl a k).warm = N) := ⟨_, (rfl : (V.sl a k).warm = _)⟩
  obtain ⟨bj, cj, hArn, hTag, hJR⟩ := h1.jrn.arn
  rw [List.length_reverse, hnJ] at hArn hTag
  obtain ⟨oj, capj, hvj⟩ : ∃ o cap, c1 10629 = .slice o V.journal.length cap := by
    rcases hArn with ⟨q1, q2⟩ | ⟨cp, q1, _⟩
    · exact ⟨none, 0, by rw [q1]; exact q2⟩
    · exact ⟨_, _, q1⟩
  obtain ⟨n, hn⟩ : ∃ n, Hid (V.journal.length = n) := ⟨_, (rfl : V.journal.length = _)⟩
  rw [hn.out] at hvj hArn hTag
  rw [hvj] at hArn hTag
  have k0 := h1.blk.cell (i := 2436) (by omega)
  have kj := h1.blk.cell (i := 10629) (by omega)
  rw [hv] at k0
  rw [hvj] at kj
  have r0 := hb.cell (i := i * 14 + 13) (by omega)
  rw [hA.warm, hSL.2.2, hN.out] at r0
  have hfz := h1.blk.fz
  have hlt := h1.blk.lt
  have hltb := hb.lt
  have hbg : b ≠ g := fun q => by have := h1.tag; rw [← q, hob] at this; omega
  have hS0 : w2.drew.cell? ⟨g, 2436, none⟩ = some (.slice (some ⟨b, 0, none⟩) m cap) ∧ w2.drew.cell? ⟨b, i * 14 + 13, none⟩ = some (.bool N) := ⟨k0, r0⟩
  have hS1 : ((w2.alloc (.cells #[.int .u8 5, .int .i32 (i : Nat), .int .u64 0, .int .u64 0, .int .u64 0, .int .u64 0, .int .u64 0, .slice none 0 0, .bool N] 227)).drew).cell? ⟨g, 2436, none⟩ = some (.slice (some ⟨b, 0, none⟩) m cap) ∧ ((w2.alloc (.cells #[.int .u8 5, .int .i32 (i : Nat), .int .u64 0, .int .u64 0, .int .u64 0, .int .u64 0, .int .u64 0, .slice none 0 0, .bool N] 227)).drew).cell? ⟨b, i * 14 + 13, none⟩ = some (.bool N) := ⟨cx_ext hS0.1 hlt ((Ext.refl w2.drew).alloc _ _), cx_ext hS0.2 hltb ((Ext.refl w2.drew).alloc _ _)⟩
  have HBW : ∀ v' W b' c', Grown ((w2.alloc (.cells #[.int .u8 5, .int .i32 (i : Nat), .int .u64 0, .int .u64 0, .int .u64 0, .int .u64 0, .int .u64 0, .slice none 0 0, .bool N] 227)).drew) 227 9 (.slice oj n capj) n bj cj (#[.int .u8 5, .int .i32 (i : Nat), .int .u64 0, .int .u64 0, .int .u64 0, .int .u64 0, .int .u64 0, .slice none 0 0, .bool N] : Array Value).toList v' W b' c' → Mod (fun x => x = bj ∧ own1 bj = 3) ((w2.alloc (.cells #[.int .u8 5, .int .i32 (i : Nat), .int .u64 0, .int .u64 0, .int .u64 0, .int .u64 0, .int .u64 0, .slice none 0 0, .bool N] 227)).drew) W := fun v' W b' c' hG => by
    rcases hG.how with ⟨_, ⟨cp, hc⟩, hmm⟩ | ⟨_, hx⟩
    · exact hmm.sub (fun x hx => ⟨hx, hTag cp hc⟩)
    · exact hx.mod _
  have hs2 : w2.heap.size < ((w2.alloc (.cells #[.int .u8 5, .int .i32 (i : Nat), .int .u64 0, .int .u64 0, .int .u64 0, .int .u64 0, .int .u64 0, .slice none 0 0, .bool N] 227)).drew).heap.size := by simp
  have hE2 : Ext w2 ((w2.alloc (.cells #[.int .u8 5, .int .i32 (i : Nat), .int .u64 0, .int .u64 0, .int .u64 0, .int .u64 0, .int .u64 0, .slice none 0 0, .bool N] 227)).drew) := ((Ext.refl _).alloc _ _).drew
  have HS2 : ∀ v' W b' c', Grown ((w2.alloc (.cells #[.int .u8 5, .int .i32 (i : Nat), .int .u64 0, .int .u64 0, .int .u64 0, .int .u64 0, .int .u64 0, .slice none 0 0, .bool N] 227)).drew) 227 9 (.slice oj n capj) n bj cj (#[.int .u8 5, .int .i32 (i : Nat), .int .u64 0, .int .u64 0, .int .u64 0, .int .u64 0, .int .u64 0, .slice none 0 0, .bool N] : Array Value).toList v' W b' c' → W.cell? ⟨g, 2436, none⟩ = some (.slice (some ⟨b, 0, none⟩) m cap) ∧ W.cell? ⟨b, i * 14 + 13, none⟩ = some (.bool N) := fun v' W b' c' hG =>
    ⟨cx_mod hS1.1 (by omega) (fun q => by have := h1.tag; rw [q.1, q.2] at this; omega) (HBW _ _ _ _ hG), cx_mod hS1.2 (by omega) (fun q => by rw [q.1, q.2] at hob; omega) (HBW _ _ _ _ hG)⟩
  have HA : Arn ((w2.alloc (.cells #[.int .u8 5, .int .i32 (i : Nat), .int .u64 0, .int .u64 0, .int .u64 0, .int .u64 0, .int .u64 0, .slice none 0 0, .bool N] 227)).drew) 227 9 (.slice oj n capj) n bj cj := by
    rcases hArn with q | ⟨cp, q1, q2, q3, q4⟩
    · exact Or.inl q
    · exact Or.inr ⟨cp, q1, q2, q3, q4.ext hE2⟩
  have hone : ∀ u ∈ (#[.int .u8 5, .int .i32 (i : Nat), .int .u64 0, .int .u64 0, .int .u64 0, .int .u64 0, .int .u64 0, .slice none 0 0, .bool N] : Array Value).toList, u.oneCell' = true := fun u hu => by
    simp only [List.mem_cons, List.not_mem_nil, or_false] at hu
    rcases hu with q | q | q | q | q | q | q | q | q <;> subst q <;> rfl
  refine wp_region_held_drew (S := fun w' => w'.cell? ⟨g, 2436, none⟩ = some (.slice (some ⟨b, 0, none⟩) m cap) ∧ w'.cell? ⟨b, i * 14 + 13, none⟩ = some (.bool N)) (by kernel_rfl) hS0 (fun hHeld => ?_)
  refine wpAnyH_take (i := 0) (v := ?_) rfl (by kernel_rfl) (by kernel_rfl) (by kernel_rfl) (fun _ _ _ h => h) (Or.inl ⟨by rfl, ?_⟩) hHeld ?_
  rotate_left
  · intro w hSw; go_simp; try with_reducible rfl
  change wpAnyH _ _ _ _ _ _ _ (Act.put _ (some 21) _) _
  simp only [Act.put, List.setIfInBounds_toArray, List.set_cons_zero, List.set_cons_succ]
  refine wpAnyH_take (i := 1) (v := ?_) rfl (by kernel_rfl) (by kernel_rfl) (by kernel_rfl) (fun _ _ _ h => h) (Or.inl ⟨by rfl, ?_⟩) hHeld ?_
  rotate_left
  · intro w hSw; go_simp; try with_reducible rfl
  change wpAnyH _ _ _ _ _ _ _ (Act.put _ (some 22) _) _
  simp only [Act.put, List.setIfInBounds_toArray, List.set_cons_zero, List.set_cons_succ]
  refine wpAnyH_take (i := 2) (v := ?_) rfl (by kernel_rfl) (by kernel_rfl) (by kernel_rfl) (fun _ _ _ h => h) (Or.inl ⟨by rfl, ?_⟩) hHeld ?_
  rotate_left
  · intro w hSw; go_simp; try with_reducible rfl
  change wpAnyH _ _ _ _ _ _ _ (Act.put _ (some 23) _) _
  simp only [Act.put, List.setIfInBounds_toArray, List.set_cons_zero, List.set_cons_succ]
  refine wpAnyH_take (i := 3) (v := ?_) rfl (by kernel_rfl) (by kernel_rfl) (by kernel_rfl) (fun _ _ _ h => h) (Or.inl ⟨by rfl, ?_⟩) hHeld ?_
  rotate_left
  · intro w hSw; go_simp; try with_reducible rfl
  change wpAnyH _ _ _ _ _ _ _ (Act.put _ (some 24) _) _
  simp only [Act.put, List.setIfInBounds_toArray, List.set_cons_zero, List.set_cons_succ]
  refine wpAnyH_take (i := 5) (v := ?_) rfl (by kernel_rfl) (by kernel_rfl) (by kernel_rfl) (fun _ _ _ h => h) (Or.inl ⟨by rfl, ?_⟩) hHeld ?_
  rotate_left
  · intro w hSw; go_simp; try with_reducible rfl
  change wpAnyH _ _ _ _ _ _ _ (Act.put _ (some 26) _) _
  simp only [Act.put, List.setIfInBounds_toArray, List.set_cons_zero, List.set_cons_succ]
  refine wpAnyH_take (i := 6) (v := ?_) rfl (by kernel_rfl) (by kernel_rfl) (by kernel_rfl) (fun _ _ _ h => h) (Or.inl ⟨by rfl, ?_⟩) hHeld ?_
  rotate_left
  · intro w hSw; go_simp; try with_reducible rfl
  change wpAnyH _ _ _ _ _ _ _ (Act.put _ (some 27) _) _
  simp only [Act.put, List.setIfInBounds_toArray, List.set_cons_zero, List.set_cons_succ]
  refine wpAnyH_take (i := 7) (v := ?_) rfl (by kernel_rfl) (by kernel_rfl) (by kernel_rfl) (fun _ _ _ h => h) (Or.inl ⟨by rfl, ?_⟩) hHeld ?_
  rotate_left
  · intro w hSw; go_simp; try with_reducible rfl
  change wpAnyH _ _ _ _ _ _ _ (Act.put _ (some 28) _) _
  simp only [Act.put, List.setIfInBounds_toArray, List.set_cons_zero, List.set_cons_succ]
  refine wpAnyH_take (i := 8) (v := ?_) rfl (by kernel_rfl) (by kernel_rfl) (by kernel_rfl) (fun _ _ _ h => h) (Or.inl ⟨by rfl, ?_⟩) hHeld ?_
  rotate_left
  · intro w hSw; go_simp; try with_reducible rfl
  change wpAnyH _ _ _ _ _ _ _ (Act.put _ (some 29) _) _
  simp only [Act.put, List.setIfInBounds_toArray, List.set_cons_zero, List.set_cons_succ]
  refine wpAnyH_take (i := 9) (v := ?_) rfl (by kernel_rfl) (by kernel_rfl) (by kernel_rfl) (fun _ _ _ h => h) (Or.inl ⟨by rfl, ?_⟩) hHeld ?_
  rotate_left
  · intro w hSw; go_simp; try with_reducible rfl
  change wpAnyH _ _ _ _ _ _ _ (Act.put _ (some 30) _) _
  simp only [Act.put, List.setIfInBounds_toArray, List.set_cons_zero, List.set_cons_succ]
  refine wpAnyH_take (i := 10) (v := ?_) rfl (by kernel_rfl) (by kernel_rfl) (by kernel_rfl) (fun _ _ _ h => h) (Or.inl ⟨by rfl, ?_⟩) hHeld ?_
  rotate_left
  · intro w hSw; go_simp; try with_reducible rfl
  change wpAnyH _ _ _ _ _ _ _ (Act.put _ (some 31) _) _
  simp only [Act.put, List.setIfInBounds_toArray, List.set_cons_zero, List.set_cons_succ]
  refine wpAnyH_take (i := 11) (v := ?_) rfl (by kernel_rfl) (by kernel_rfl) (by kernel_rfl) (fun _ _ _ h => h) (Or.inl ⟨by rfl, ?_⟩) hHeld ?_
  rotate_left
  · intro w hSw; go_simp; try with_reducible rfl
  change wpAnyH _ _ _ _ _ _ _ (Act.put _ (some 32) _) _
  simp only [Act.put, List.setIfInBounds_toArray, List.set_cons_zero, List.set_cons_succ]
  refine wpAnyH_take (i := 12) (v := ?_) rfl (by kernel_rfl) (by kernel_rfl) (by kernel_rfl) (fun _ _ _ h => h) (Or.inl ⟨by rfl, ?_⟩) hHeld ?_
  rotate_left
  · intro w hSw; go_simp; try with_reducible rfl
  change wpAnyH _ _ _ _ _ _ _ (Act.put _ (some 33) _) _
  simp only [Act.put, List.setIfInBounds_toArray, List.set_cons_zero, List.set_cons_succ]
  refine wpAnyH_take (i := 13) (v := ?_) rfl (by kernel_rfl) (by kernel_rfl) (by kernel_rfl) (fun _ _ _ h => h) (Or.inl ⟨by rfl, ?_⟩) hHeld ?_
  rotate_left
  · intro w hSw; go_simp; try with_reducible rfl
  change wpAnyH _ _ _ _ _ _ _ (Act.put _ (some 34) _) _
  simp only [Act.put, List.setIfInBounds_toArray, List.set_cons_zero, List.set_cons_succ]
  refine wpAnyH_take (i := 14) (v := ?_) rfl (by kernel_rfl) (by kernel_rfl) (by kernel_rfl) (fun _ _ _ h => h) (Or.inl ⟨by rfl, ?_⟩) hHeld ?_
  rotate_left
  · intro w hSw; go_simp; try with_reducible rfl
  change wpAnyH _ _ _ _ _ _ _ (Act.put _ (some 35) _) _
  simp only [Act.put, List.setIfInBounds_toArray, List.set_cons_zero, List.set_cons_succ]
  refine wpAnyH_ready (rs := [4, 15]) (by kernel_rfl) (by simp) ?_
  refine AllReadyH.cons rfl (fun K hK => ?_) (AllReadyH.cons rfl (fun K hK => ?_) AllReadyH.nil)
  · go_simp
    refine hK.out _ _ ?_ (fun hHeld => ?_)
    · exact hS0
    clear hK K
    refine wpAnyH_ready (rs := [15]) (by kernel_rfl) (by simp) ?_
    refine AllReadyH.cons rfl (fun K hK => ?_) AllReadyH.nil
    go_simp
    refine hK.out _ _ ?_ (fun hHeld => ?_)
    · exact hS1
    clear hK K
    refine wpAnyH_ready (rs := [16]) (by kernel_rfl) (by simp) ?_
    refine AllReadyH.cons rfl (fun K hK => ?_) AllReadyH.nil
    refine step_append1 rfl (.tmp 25) (.tmp 36) 93 rfl 227 Hvah.t227 _ 9 under80 info219 zero219 size219 rfl bytes219 (.slice oj n capj) n bj cj HA (by have := hn.out; omega) ⟨w2.heap.size, 0, none⟩ 1 (#[.int .u8 5, .int .i32 (i : Nat), .int .u64 0, .int .u64 0, .int .u64 0, .int .u64 0, .int .u64 0, .slice none 0 0, .bool N] : Array Value).toList rfl (World.news_of_block (heap_new _ _)) hone (by simp [Act.eval]) (by simp [Act.eval]) ?_
    rintro v' W b' c' hG
    refine hK.out _ _ ?_ (fun hHeld => ?_)
    · exact HS2 _ _ _ _ hG
    clear hK K
    change wpAnyH _ _ _ _ _ _ _ (Act.put _ (some 37) _) _
    simp only [Act.put, List.setIfInBounds_toArray, List.set_cons_zero, List.set_cons_succ]
    refine wpAnyH_take (i := 17) (v := ?_) rfl (by kernel_rfl) (by kernel_rfl) (by kernel_rfl) (fun _ _ _ h => h) (Or.inl ⟨by rfl, ?_⟩) hHeld ?_
    rotate_left
    · intro w hSw; go_simp; try with_reducible rfl
    change wpAnyH _ _ _ _ _ _ _ (Act.put _ (some 38) _) _
    simp only [Act.put, List.setIfInBounds_toArray, List.set_cons_zero, List.set_cons_succ]
    refine wpAnyH_take (i := 18) (v := ?_) rfl (by kernel_rfl) (by kernel_rfl) (by kernel_rfl) (fun _ _ _ h => h) (Or.inl ⟨by rfl, ?_⟩) hHeld ?_
    rotate_left
    · intro w hSw; go_simp; try with_reducible rfl
    change wpAnyH _ _ _ _ _ _ _ (Act.put _ (some 39) _) _
    simp only [Act.put, List.setIfInBounds_toArray, List.set_cons_zero, List.set_cons_succ]
    have hBW := (h1.blk.ext hE2).mod (HBW _ _ _ _ hG) (fun q => by have := h1.tag; rw [q.1, q.2] at this; omega)
    have kg := hBW.cell (i := 10629) (by omega)
    have kf := hBW.fz
    have hSW := HS2 _ _ _ _ hG
    obtain ⟨capj', rfl⟩ := hG.some
    refine wpAnyH_ready (rs := [19]) (by kernel_rfl) (by simp) ?_
    refine AllReadyH.cons rfl (fun K hK => ?_) AllReadyH.nil
    go_simp
    refine hK.out _ _ ?_ (fun hHeld => ?_)
    · exact ⟨cx_set hSW.1 (by omega), cx_set hSW.2 (fun q => hbg q.1)⟩
    clear hK K
    refine wpAnyH_done (by kernel_rfl) ?_ _
    clear hHeld
    obtain ⟨own2, c4, h2, s2⟩ := push_end (e := ⟨5, i, 0, 0, [], N⟩) (z := #[.int .u8 5, .int .i32 (i : Nat), .int .u64 0, .int .u64 0, .int .u64 0, .int .u64 0, .int .u64 0, .slice none 0 0, .bool N]) h1 (by rw [hnJ]; exact hJ) ⟨fun q => by simp at q, fun _ => hil, fun q => by simp at q, by simp⟩ hE2 (by rw [hvj, hnJ, hn.out]; exact hTag) hJR (by rw [hvj, hnJ, hn.out]; exact hG)
      (fun own' w' c3 o K hnw => ⟨hnw 0 _ rfl, hnw 1 _ rfl, hnw 2 _ rfl, WAt.zero4 (q := 3) hnw rfl rfl rfl rfl, by rw [hnw 7 _ rfl]; exact NL.nil, hnw 8 _ rfl, by show (5 : Nat) ≤ 10; decide, by have := h1.nS; show i < 16384; omega, by show (0 : Nat) < _; decide, P256_pos⟩)
    refine w_gen (fun X => VRep own2 X g c4 ((V.needAS a k).push ⟨5, i, 0, 0, [], N⟩) ∧ VStep own1 w2 c1 own2 X c4) ⟨h2, s2⟩ ?_
    rintro X ⟨h2, s2⟩
    clear hSW kf kg hBW hG HS2 HBW hS0 hS1 k0 kj hfz HA
    have hixp : ((V.needAS a k).push ⟨5, i, 0, 0, [], N⟩).pk a k = some i := by have := needAS_pk V a k; rw [hi.out] at this; exact this
    obtain ⟨b2, cap2, c5, hv2, hil2, hlc2, hcm2, hb2, hob2, hrows2, hA2, hin2⟩ := h2.slotAt hixp
    have hml : ((V.needAS a k).push ⟨5, i, 0, 0, [], N⟩).slots.length = m := hm.out
    rw [hml] at hv2
    have k0 := h2.blk.cell (i := 2436) (by omega)
    rw [hv2] at k0
    have k1 := hb2.cell (i := i * 14 + 13) (by omega)
    have kf := hb2.fz
    go_wp2
    go_ret
    have hfin := modS_end (f := fun y => { y with warm := true }) (c3 := updv c5 (i * 14 + 13) (.bool true)) (i := i) h2 (by rw [hml]; exact hv2) hlc2 hcm2 hob2 hil2 hrows2 (hb2.set (i * 14 + 13) (.bool true)) (fun j hj => updv_ne _ _ (by omega)) ((Mod.refl (· = b2) X).setCell (Or.inl rfl) _) (fun _ => rfl) (slot_setWarm (hrows2 i hil2))
    refine ⟨rfl, own2, c4, ?_, (VStep.ext (((Ext.refl w).alloc (av a) 31).alloc #[.int .u64 (lim k 0 : Nat), .int .u64 (lim k 1 : Nat), .int .u64 (lim k 2 : Nat), .int .u64 (lim k 3 : Nat)] 79)).trans (s1.trans (s2.trans hfin.2))⟩
    have hV : V.warmS a k = ((V.needAS a k).push ⟨5, i, 0, 0, [], N⟩).modS i (fun y => { y with warm := true }) := by
      unfold EV.warmS EV.opS
      rw [hi.out, hN.out]; rfl
    rw [hV]
    exact hfin.1
  · go_simp
    refine hK.out _ _ ?_ (fun hHeld => ?_)
    · exact hS1
    clear hK K
    refine wpAnyH_ready (rs := [4]) (by kernel_rfl) (by simp) ?_
    refine AllReadyH.cons rfl (fun K hK => ?_) AllReadyH.nil
    go_simp
    refine hK.out _ _ ?_ (fun hHeld => ?_)
    · exact hS1
    clear hK K
    refine wpAnyH_ready (rs := [16]) (by kernel_rfl) (by simp) ?_
    refine AllReadyH.cons rfl (fun K hK => ?_) AllReadyH.nil
    refine step_append1 rfl (.tmp 25) (.tmp 36) 93 rfl 227 Hvah.t227 _ 9 under80 info219 zero219 size219 rfl bytes219 (.slice oj n capj) n bj cj HA (by have := hn.out; omega) ⟨w2.heap.size, 0, none⟩ 1 (#[.int .u8 5, .int .i32 (i : Nat), .int .u64 0, .int .u64 0, .int .u64 0, .int .u64 0, .int .u64 0, .slice none 0 0, .bool N] : Array Value).toList rfl (World.news_of_block (heap_new _ _)) hone (by simp [Act.eval]) (by simp [Act.eval]) ?_
    rintro v' W b' c' hG
    refine hK.out _ _ ?_ (fun hHeld => ?_)
    · exact HS2 _ _ _ _ hG
    clear hK K
    change wpAnyH _ _ _ _ _ _ _ (Act.put _ (some 37) _) _
    simp only [Act.put, List.setIfInBounds_toArray, List.set_cons_zero, List.set_cons_succ]
    refine wpAnyH_take (i := 17) (v := ?_) rfl (by kernel_rfl) (by kernel_rfl) (by kernel_rfl) (fun _ _ _ h => h) (Or.inl ⟨by rfl, ?_⟩) hHeld ?_
    rotate_left
    · intro w hSw; go_simp; try with_reducible rfl
    change wpAnyH _ _ _ _ _ _ _ (Act.put _ (some 38) _) _
    simp only [Act.put, List.setIfInBounds_toArray, List.set_cons_zero, List.set_cons_succ]
    refine wpAnyH_take (i := 18) (v := ?_) rfl (by kernel_rfl) (by kernel_rfl) (by kernel_rfl) (fun _ _ _ h => h) (Or.inl ⟨by rfl, ?_⟩) hHeld ?_
    rotate_left
    · intro w hSw; go_simp; try with_reducible rfl
    change wpAnyH _ _ _ _ _ _ _ (Act.put _ (some 39) _) _
    simp only [Act.put, List.setIfInBounds_toArray, List.set_cons_zero, List.set_cons_succ]
    have hBW := (h1.blk.ext hE2).mod (HBW _ _ _ _ hG) (fun q => by have := h1.tag; rw [q.1, q.2] at this; omega)
    have kg := hBW.cell (i := 10629) (by omega)
    have kf := hBW.fz
    have hSW := HS2 _ _ _ _ hG
    obtain ⟨capj', rfl⟩ := hG.some
    refine wpAnyH_ready (rs := [19]) (by kernel_rfl) (by simp) ?_
    refine AllReadyH.cons rfl (fun K hK => ?_) AllReadyH.nil
    go_simp
    refine hK.out _ _ ?_ (fun hHeld => ?_)
    · exact ⟨cx_set hSW.1 (by omega), cx_set hSW.2 (fun q => hbg q.1)⟩
    clear hK K
    refine wpAnyH_done (by kernel_rfl) ?_ _
    clear hHeld
    obtain ⟨own2, c4, h2, s2⟩ := push_end (e := ⟨5, i, 0, 0, [], N⟩) (z := #[.int .u8 5, .int .i32 (i : Nat), .int .u64 0, .int .u64 0, .int .u64 0, .int .u64 0, .int .u64 0, .slice none 0 0, .bool N]) h1 (by rw [hnJ]; exact hJ) ⟨fun q => by simp at q, fun _ => hil, fun q => by simp at q, by simp⟩ hE2 (by rw [hvj, hnJ, hn.out]; exact hTag) hJR (by rw [hvj, hnJ, hn.out]; exact hG)
      (fun own' w' c3 o K hnw => ⟨hnw 0 _ rfl, hnw 1 _ rfl, hnw 2 _ rfl, WAt.zero4 (q := 3) hnw rfl rfl rfl rfl, by rw [hnw 7 _ rfl]; exact NL.nil, hnw 8 _ rfl, by show (5 : Nat) ≤ 10; decide, by have := h1.nS; show i < 16384; omega, by show (0 : Nat) < _; decide, P256_pos⟩)
    refine w_gen (fun X => VRep own2 X g c4 ((V.needAS a k).push ⟨5, i, 0, 0, [], N⟩) ∧ VStep own1 w2 c1 own2 X c4) ⟨h2, s2⟩ ?_
    rintro X ⟨h2, s2⟩
    clear hSW kf kg hBW hG HS2 HBW hS0 hS1 k0 kj hfz HA
    have hixp : ((V.needAS a k).push ⟨5, i, 0, 0, [], N⟩).pk a k = some i := by have := needAS_pk V a k; rw [hi.out] at this; exact this
    obtain ⟨b2, cap2, c5, hv2, hil2, hlc2, hcm2, hb2, hob2, hrows2, hA2, hin2⟩ := h2.slotAt hixp
    have hml : ((V.needAS a k).push ⟨5, i, 0, 0, [], N⟩).slots.length = m := hm.out
    rw [hml] at hv2
    have k0 := h2.blk.cell (i := 2436) (by omega)
    rw [hv2] at k0
    have k1 := hb2.cell (i := i * 14 + 13) (by omega)
    have kf := hb2.fz
    go_wp2
    go_ret
    have hfin := modS_end (f := fun y => { y with warm := true }) (c3 := updv c5 (i * 14 + 13) (.bool true)) (i := i) h2 (by rw [hml]; exact hv2) hlc2 hcm2 hob2 hil2 hrows2 (hb2.set (i * 14 + 13) (.bool true)) (fun j hj => updv_ne _ _ (by omega)) ((Mod.refl (· = b2) X).setCell (Or.inl rfl) _) (fun _ => rfl) (slot_setWarm (hrows2 i hil2))
    refine ⟨rfl, own2, c4, ?_, (VStep.ext (((Ext.refl w).alloc (av a) 31).alloc #[.int .u64 (lim k 0 : Nat), .int .u64 (lim k 1 : Nat), .int .u64 (lim k 2 : Nat), .int .u64 (lim k 3 : Nat)] 79)).trans (s1.trans (s2.trans hfin.2))⟩
    have hV : V.warmS a k = ((V.needAS a k).push ⟨5, i, 0, 0, [], N⟩).modS i (fun y => { y with warm := true }) := by
      unfold EV.warmS EV.opS
      rw [hi.out, hN.out]; rfl
    rw [hV]
    exact hfin.1
set_option maxRecDepth 100000 in
set_option maxHeartbeats 1600000 in
theorem vStore (x : Nat) (h : VRep own w g c V) (ha : a < 2 ^ 160) (hx : x < P256) (hk : k < P256) (hJ : V.journal.length < 65536) (hrA : V.ix a = none → V.accts.length < 2560) (hrS : V.slots.length < 2560) :
    Calls Hvah.prog 315 #[.pointer (some ⟨g, 2435, none⟩), .agg (av a), wv k, wv x] w fun e w' => e = .returned (.bool true) ∧ ∃ own' c', VRep own' w' g c' (V.store a k x) ∧ VStep own w c own' w' c' := by
  have HR : ∀ W, Ext w W → Calls Hvah.prog 179 #[.pointer (some ⟨g, 2435, none⟩)] W fun e w' => e = .returned (.bool true) ∧ w' = W := fun W hW => by
    have := vRoom (h.ext hW); rw [decide_eq_true hJ] at this; exact this
  have HAc : ∀ W, Ext w W → Calls Hvah.prog 257 #[.pointer (some ⟨g, 2435, none⟩), .agg (av a), wv k] W fun e w' => e = .returned (.tuple #[.int .i32 (V.atAS a k : Nat), .bool true]) ∧ ∃ own' c', VRep own' w' g c' (V.needAS a k) ∧ VStep own W c own' w' c' := fun W hW => vSlotOf (h.ext hW) ha hk hrA hrS
  have hnJ : (V.needAS a k).journal = V.journal := by unfold EV.needAS EV.needS EV.need; split <;> split <;> rfl
  have hSL := (needAS_ex V a k).sl h.wf a k
  obtain ⟨i, hi⟩ : ∃ i, Hid (V.atAS a k = i) := ⟨_, (rfl : V.atAS a k = _)⟩
  rw [hi.out] at HAc
  go_enter Hvah.func315, Hvah.ntmps315
  go_wp2_with (first | ((with_reducible (refine Veil.out ?_; apply wl_box)); (case hx => rfl)) | ((with_reducible (refine Veil.out ?_; apply wl_load_av (n := a))); (case hn => exact ha); (case hx => rfl); (case hr => exact row_box a (((Ext.refl _).alloc _ _).alloc _ _))) | (go_at_call 179; refine (HR _ ((((Ext.refl _).alloc _ _).alloc _ _).alloc _ _)).mono ?_; rintro e w1 ⟨rfl, rfl⟩) | (go_at_call 257; refine (HAc _ ((((Ext.refl _).alloc _ _).alloc _ _).alloc _ _)).mono ?_; rintro e w2 ⟨rfl, own1, c1, h1, s1⟩))
  obtain ⟨b, cap, c2, hv, hil, hlc, hcm, hb, hob, hrows, hA, hin⟩ := h1.slotAt (needAS_pk V a k)
  rw [hi.out] at hA hin hil
  have hil' : (i : Int) < (V.needAS a k).slots.length := by omega
  obtain ⟨m, hm⟩ : ∃ m, Hid ((V.needAS a k).slots.length = m) := ⟨_, (rfl : (V.needAS a k).slots.length = _)⟩
  rw [hm.out] at hv hil'
  obtain ⟨N, hN⟩ : ∃ N, Hid ((V.sl a k).val = N) := ⟨_, (rfl : (V.sl a k).val = _)⟩
  obtain ⟨bj, cj, hArn, hTag, hJR⟩ := h1.jrn.arn
  rw [List.length_reverse, hnJ] at hArn hTag
  obtain ⟨oj, capj, hvj⟩ : ∃ o cap, c1 10629 = .slice o V.journal.length cap := by
    rcases hArn with ⟨q1, q2⟩ | ⟨cp, q1, _⟩
    · exact ⟨none, 0, by rw [q1]; exact q2⟩
    · exact ⟨_, _, q1⟩
  obtain ⟨n, hn⟩ : ∃ n, Hid (V.journal.length = n) := ⟨_, (rfl : V.journal.length = _)⟩
  rw [hn.out] at hvj hArn hTag
  rw [hvj] at hArn hTag
  have k0 := h1.blk.cell (i := 2436) (by omega)
  have kj := h1.blk.cell (i := 10629) (by omega)
  rw [hv] at k0
  rw [hvj] at kj
  have r0 := hb.cell (i := i * 14 + 5) (by omega)
  rw [hA.val.c0, hSL.1, hN.out] at r0
  have r1 := hb.cell (i := i * 14 + 6) (by omega)
  rw [hA.val.c1, hSL.1, hN.out] at r1
  have r2 := hb.cell (i := i * 14 + 7) (by omega)
  rw [hA.val.c2, hSL.1, hN.out] at r2
  have r3 := hb.cell (i := i * 14 + 8) (by omega)
  rw [hA.val.c3, hSL.1, hN.out] at r3
  have hfz := h1.blk.fz
  have hlt := h1.blk.lt
  have hltb := hb.lt
  have hbg : b ≠ g := fun q => by have := h1.tag; rw [← q, hob] at this; omega
  have hS0 : w2.drew.cell? ⟨g, 2436, none⟩ = some (.slice (some ⟨b, 0, none⟩) m cap) ∧ w2.drew.cell? ⟨b, i * 14 + 5, none⟩ = some (.int .u64 (lim N 0 : Nat)) ∧ w2.drew.cell? ⟨b, i * 14 + 6, none⟩ = some (.int .u64 (lim N 1 : Nat)) ∧ w2.drew.cell? ⟨b, i * 14 + 7, none⟩ = some (.int .u64 (lim N 2 : Nat)) ∧ w2.drew.cell? ⟨b, i * 14 + 8, none⟩ = some (.int .u64 (lim N 3 : Nat)) := ⟨k0, r0, r1, r2, r3⟩
  have hS1 : ((w2.alloc (.cells #[.int .u8 3, .int .i32 (i : Nat), .int .u64 0, .int .u64 (lim N 0 : Nat), .int .u64 (lim N 1 : Nat), .int .u64 (lim N 2 : Nat), .int .u64 (lim N 3 : Nat), .slice none 0 0, .bool false] 227)).drew).cell? ⟨g, 2436, none⟩ = some (.slice (some ⟨b, 0, none⟩) m cap) ∧ ((w2.alloc (.cells #[.int .u8 3, .int .i32 (i : Nat), .int .u64 0, .int .u64 (lim N 0 : Nat), .int .u64 (lim N 1 : Nat), .int .u64 (lim N 2 : Nat), .int .u64 (lim N 3 : Nat), .slice none 0 0, .bool false] 227)).drew).cell? ⟨b, i * 14 + 5, none⟩ = some (.int .u64 (lim N 0 : Nat)) ∧ ((w2.alloc (.cells #[.int .u8 3, .int .i32 (i : Nat), .int .u64 0, .int .u64 (lim N 0 : Nat), .int .u64 (lim N 1 : Nat), .int .u64 (lim N 2 : Nat), .int .u64 (lim N 3 : Nat), .slice none 0 0, .bool false] 227)).drew).cell? ⟨b, i * 14 + 6, none⟩ = some (.int .u64 (lim N 1 : Nat)) ∧ ((w2.alloc (.cells #[.int .u8 3, .int .i32 (i : Nat), .int .u64 0, .int .u64 (lim N 0 : Nat), .int .u64 (lim N 1 : Nat), .int .u64 (lim N 2 : Nat), .int .u64 (lim N 3 : Nat), .slice none 0 0, .bool false] 227)).drew).cell? ⟨b, i * 14 + 7, none⟩ = some (.int .u64 (lim N 2 : Nat)) ∧ ((w2.alloc (.cells #[.int .u8 3, .int .i32 (i : Nat), .int .u64 0, .int .u64 (lim N 0 : Nat), .int .u64 (lim N 1 : Nat), .int .u64 (lim N 2 : Nat), .int .u64 (lim N 3 : Nat), .slice none 0 0, .bool false] 227)).drew).cell? ⟨b, i * 14 + 8, none⟩ = some (.int .u64 (lim N 3 : Nat)) := ⟨cx_ext hS0.1 hlt ((Ext.refl w2.drew).alloc _ _), cx_ext hS0.2.1 hltb ((Ext.refl w2.drew).alloc _ _), cx_ext hS0.2.2.1 hltb ((Ext.refl w2.drew).alloc _ _), cx_ext hS0.2.2.2.1 hltb ((Ext.refl w2.drew).alloc _ _), cx_ext hS0.2.2.2.2 hltb ((Ext.refl w2.drew).alloc _ _)⟩
  have HBW : ∀ v' W b' c', Grown ((w2.alloc (.cells #[.int .u8 3, .int .i32 (i : Nat), .int .u64 0, .int .u64 (lim N 0 : Nat), .int .u64 (lim N 1 : Nat), .int .u64 (lim N 2 : Nat), .int .u64 (lim N 3 : Nat), .slice none 0 0, .bool false] 227)).drew) 227 9 (.slice oj n capj) n bj cj (#[.int .u8 3, .int .i32 (i : Nat), .int .u64 0, .int .u64 (lim N 0 : Nat), .int .u64 (lim N 1 : Nat), .int .u64 (lim N 2 : Nat), .int .u64 (lim N 3 : Nat), .slice none 0 0, .bool false] : Array Value).toList v' W b' c' → Mod (fun x => x = bj ∧ own1 bj = 3) ((w2.alloc (.cells #[.int .u8 3, .int .i32 (i : Nat), .int .u64 0, .int .u64 (lim N 0 : Nat), .int .u64 (lim N 1 : Nat), .int .u64 (lim N 2 : Nat), .int .u64 (lim N 3 : Nat), .slice none 0 0, .bool false] 227)).drew) W := fun v' W b' c' hG => by
    rcases hG.how with ⟨_, ⟨cp, hc⟩, hmm⟩ | ⟨_, hx⟩
    · exact hmm.sub (fun x hx => ⟨hx, hTag cp hc⟩)
    · exact hx.mod _
  have hs2 : w2.heap.size < ((w2.alloc (.cells #[.int .u8 3, .int .i32 (i : Nat), .int .u64 0, .int .u64 (lim N 0 : Nat), .int .u64 (lim N 1 : Nat), .int .u64 (lim N 2 : Nat), .int .u64 (lim N 3 : Nat), .slice none 0 0, .bool false] 227)).drew).heap.size := by simp
  have hE2 : Ext w2 ((w2.alloc (.cells #[.int .u8 3, .int .i32 (i : Nat), .int .u64 0, .int .u64 (lim N 0 : Nat), .int .u64 (lim N 1 : Nat), .int .u64 (lim N 2 : Nat), .int .u64 (lim N 3 : Nat), .slice none 0 0, .bool false] 227)).drew) := ((Ext.refl _).alloc _ _).drew
  have HS2 : ∀ v' W b' c', Grown ((w2.alloc (.cells #[.int .u8 3, .int .i32 (i : Nat), .int .u64 0, .int .u64 (lim N 0 : Nat), .int .u64 (lim N 1 : Nat), .int .u64 (lim N 2 : Nat), .int .u64 (lim N 3 : Nat), .slice none 0 0, .bool false] 227)).drew) 227 9 (.slice oj n capj) n bj cj (#[.int .u8 3, .int .i32 (i : Nat), .int .u64 0, .int .u64 (lim N 0 : Nat), .int .u64 (lim N 1 : Nat), .int .u64 (lim N 2 : Nat), .int .u64 (lim N 3 : Nat), .slice none 0 0, .bool false] : Array Value).toList v' W b' c' → W.cell? ⟨g, 2436, none⟩ = some (.slice (some ⟨b, 0, none⟩) m cap) ∧ W.cell? ⟨b, i * 14 + 5, none⟩ = some (.int .u64 (lim N 0 : Nat)) ∧ W.cell? ⟨b, i * 14 + 6, none⟩ = some (.int .u64 (lim N 1 : Nat)) ∧ W.cell? ⟨b, i * 14 + 7, none⟩ = some (.int .u64 (lim N 2 : Nat)) ∧ W.cell? ⟨b, i * 14 + 8, none⟩ = some (.int .u64 (lim N 3 : Nat)) := fun v' W b' c' hG =>
    ⟨cx_mod hS1.1 (by omega) (fun q => by have := h1.tag; rw [q.1, q.2] at this; omega) (HBW _ _ _ _ hG), cx_mod hS1.2.1 (by omega) (fun q => by rw [q.1, q.2] at hob; omega) (HBW _ _ _ _ hG), cx_mod hS1.2.2.1 (by omega) (fun q => by rw [q.1, q.2] at hob; omega) (HBW _ _ _ _ hG), cx_mod hS1.2.2.2.1 (by omega) (fun q => by rw [q.1, q.2] at hob; omega) (HBW _ _ _ _ hG), cx_mod hS1.2.2.2.2 (by omega) (fun q => by rw [q.1, q.2] at hob; omega) (HBW _ _ _ _ hG)⟩
  have HA : Arn ((w2.alloc (.cells #[.int .u8 3, .int .i32 (i : Nat), .int .u64 0, .int .u64 (lim N 0 : Nat), .int .u64 (lim N 1 : Nat), .int .u64 (lim N 2 : Nat), .int .u64 (lim N 3 : Nat), .slice none 0 0, .bool false] 227)).drew) 227 9 (.slice oj n capj) n bj cj := by
    rcases hArn with q | ⟨cp, q1, q2, q3, q4⟩
    · exact Or.inl q
    · exact Or.inr ⟨cp, q1, q2, q3, q4.ext hE2⟩
  have hone : ∀ u ∈ (#[.int .u8 3, .int .i32 (i : Nat), .int .u64 0, .int .u64 (lim N 0 : Nat), .int .u64 (lim N 1 : Nat), .int .u64 (lim N 2 : Nat), .int .u64 (lim N 3 : Nat), .slice none 0 0, .bool false] : Array Value).toList, u.oneCell' = true := fun u hu => by
    simp only [List.mem_cons, List.not_mem_nil, or_false] at hu
    rcases hu with q | q | q | q | q | q | q | q | q <;> subst q <;> rfl
  have hNl : N < P256 := by rw [← hN.out, ← hSL.1]; exact hA.vLt
  refine wp_region_held_drew (S := fun w' => w'.cell? ⟨g, 2436, none⟩ = some (.slice (some ⟨b, 0, none⟩) m cap) ∧ w'.cell? ⟨b, i * 14 + 5, none⟩ = some (.int .u64 (lim N 0 : Nat)) ∧ w'.cell? ⟨b, i * 14 + 6, none⟩ = some (.int .u64 (lim N 1 : Nat)) ∧ w'.cell? ⟨b, i * 14 + 7, none⟩ = some (.int .u64 (lim N 2 : Nat)) ∧ w'.cell? ⟨b, i * 14 + 8, none⟩ = some (.int .u64 (lim N 3 : Nat))) (by kernel_rfl) hS0 (fun hHeld => ?_)
  refine wpAnyH_take (i := 0) (v := ?_) rfl (by kernel_rfl) (by kernel_rfl) (by kernel_rfl) (fun _ _ _ h => h) (Or.inl ⟨by rfl, ?_⟩) hHeld ?_
  rotate_left
  · intro w hSw; go_simp; try with_reducible rfl
  change wpAnyH _ _ _ _ _ _ _ (Act.put _ (some 23) _) _
  simp only [Act.put, List.setIfInBounds_toArray, List.set_cons_zero, List.set_cons_succ]
  refine wpAnyH_take (i := 1) (v := ?_) rfl (by kernel_rfl) (by kernel_rfl) (by kernel_rfl) (fun _ _ _ h => h) (Or.inl ⟨by rfl, ?_⟩) hHeld ?_
  rotate_left
  · intro w hSw; go_simp; try with_reducible rfl
  change wpAnyH _ _ _ _ _ _ _ (Act.put _ (some 24) _) _
  simp only [Act.put, List.setIfInBounds_toArray, List.set_cons_zero, List.set_cons_succ]
  refine wpAnyH_take (i := 2) (v := ?_) rfl (by kernel_rfl) (by kernel_rfl) (by kernel_rfl) (fun _ _ _ h => h) (Or.inl ⟨by rfl, ?_⟩) hHeld ?_
  rotate_left
  · intro w hSw; go_simp; try with_reducible rfl
  change wpAnyH _ _ _ _ _ _ _ (Act.put _ (some 25) _) _
  simp only [Act.put, List.setIfInBounds_toArray, List.set_cons_zero, List.set_cons_succ]
  refine wpAnyH_take (i := 3) (v := ?_) rfl (by kernel_rfl) (by kernel_rfl) (by kernel_rfl) (fun _ _ _ h => h) (Or.inl ⟨by rfl, ?_⟩) hHeld ?_
  rotate_left
  · intro w hSw; go_simp; try with_reducible rfl
  change wpAnyH _ _ _ _ _ _ _ (Act.put _ (some 26) _) _
  simp only [Act.put, List.setIfInBounds_toArray, List.set_cons_zero, List.set_cons_succ]
  refine wpAnyH_take (i := 5) (v := ?_) rfl (by kernel_rfl) (by kernel_rfl) (by kernel_rfl) (fun _ _ _ h => h) (Or.inl ⟨by rfl, ?_⟩) hHeld ?_
  rotate_left
  · intro w hSw; go_simp; try with_reducible rfl
  change wpAnyH _ _ _ _ _ _ _ (Act.put _ (some 28) _) _
  simp only [Act.put, List.setIfInBounds_toArray, List.set_cons_zero, List.set_cons_succ]
  refine wpAnyH_take (i := 6) (v := ?_) rfl (by kernel_rfl) (by kernel_rfl) (by kernel_rfl) (fun _ _ _ h => h) (Or.inl ⟨by rfl, ?_⟩) hHeld ?_
  rotate_left
  · intro w hSw; go_simp; try with_reducible rfl
  change wpAnyH _ _ _ _ _ _ _ (Act.put _ (some 29) _) _
  simp only [Act.put, List.setIfInBounds_toArray, List.set_cons_zero, List.set_cons_succ]
  refine wpAnyH_take (i := 7) (v := ?_) rfl (by kernel_rfl) (by kernel_rfl) (by kernel_rfl) (fun _ _ _ h => h) (Or.inl ⟨by rfl, ?_⟩) hHeld ?_
  rotate_left
  · intro w hSw; go_simp; try with_reducible rfl
  change wpAnyH _ _ _ _ _ _ _ (Act.put _ (some 30) _) _
  simp only [Act.put, List.setIfInBounds_toArray, List.set_cons_zero, List.set_cons_succ]
  refine wpAnyH_take (i := 8) (v := ?_) rfl (by kernel_rfl) (by kernel_rfl) (by kernel_rfl) (fun _ _ _ h => h) (Or.inl ⟨by rfl, ?_⟩) hHeld ?_
  rotate_left
  · intro w hSw; go_simp; try with_reducible rfl
  change wpAnyH _ _ _ _ _ _ _ (Act.put _ (some 31) _) _
  simp only [Act.put, List.setIfInBounds_toArray, List.set_cons_zero, List.set_cons_succ]
  refine wpAnyH_take (i := 9) (v := ?_) rfl (by kernel_rfl) (by kernel_rfl) (by kernel_rfl) (fun _ _ _ h => h) (Or.inl ⟨by rfl, ?_⟩) hHeld ?_
  rotate_left
  · intro w hSw; go_simp; try with_reducible rfl
  change wpAnyH _ _ _ _ _ _ _ (Act.put _ (some 32) _) _
  simp only [Act.put, List.setIfInBounds_toArray, List.set_cons_zero, List.set_cons_succ]
  refine wpAnyH_take (i := 10) (v := ?_) rfl (by kernel_rfl) (by kernel_rfl) (by kernel_rfl) (fun _ _ _ h => h) (Or.inl ⟨by rfl, ?_⟩) hHeld ?_
  rotate_left
  · intro w hSw; go_simp; try with_reducible rfl
  change wpAnyH _ _ _ _ _ _ _ (Act.put _ (some 33) _) _
  simp only [Act.put, List.setIfInBounds_toArray, List.set_cons_zero, List.set_cons_succ]
  refine wpAnyH_take (i := 11) (v := ?_) rfl (by kernel_rfl) (by kernel_rfl) (by kernel_rfl) (fun _ _ _ h => h) (Or.inl ⟨by rfl, ?_⟩) hHeld ?_
  rotate_left
  · intro w hSw; go_simp; try with_reducible rfl
  change wpAnyH _ _ _ _ _ _ _ (Act.put _ (some 34) _) _
  simp only [Act.put, List.setIfInBounds_toArray, List.set_cons_zero, List.set_cons_succ]
  refine wpAnyH_take (i := 12) (v := ?_) rfl (by kernel_rfl) (by kernel_rfl) (by kernel_rfl) (fun _ _ _ h => h) (Or.inl ⟨by rfl, ?_⟩) hHeld ?_
  rotate_left
  · intro w hSw; go_simp; try with_reducible rfl
  change wpAnyH _ _ _ _ _ _ _ (Act.put _ (some 35) _) _
  simp only [Act.put, List.setIfInBounds_toArray, List.set_cons_zero, List.set_cons_succ]
  refine wpAnyH_take (i := 13) (v := ?_) rfl (by kernel_rfl) (by kernel_rfl) (by kernel_rfl) (fun _ _ _ h => h) (Or.inl ⟨by rfl, ?_⟩) hHeld ?_
  rotate_left
  · intro w hSw; go_simp; try with_reducible rfl
  change wpAnyH _ _ _ _ _ _ _ (Act.put _ (some 36) _) _
  simp only [Act.put, List.setIfInBounds_toArray, List.set_cons_zero, List.set_cons_succ]
  refine wpAnyH_take (i := 14) (v := ?_) rfl (by kernel_rfl) (by kernel_rfl) (by kernel_rfl) (fun _ _ _ h => h) (Or.inl ⟨by rfl, ?_⟩) hHeld ?_
  rotate_left
  · intro w hSw; go_simp; try with_reducible rfl
  change wpAnyH _ _ _ _ _ _ _ (Act.put _ (some 37) _) _
  simp only [Act.put, List.setIfInBounds_toArray, List.set_cons_zero, List.set_cons_succ]
  refine wpAnyH_ready (rs := [4, 15]) (by kernel_rfl) (by simp) ?_
  refine AllReadyH.cons rfl (fun K hK => ?_) (AllReadyH.cons rfl (fun K hK => ?_) AllReadyH.nil)
  · go_simp
    refine hK.out _ _ ?_ (fun hHeld => ?_)
    · exact hS0
    clear hK K
    refine wpAnyH_ready (rs := [15]) (by kernel_rfl) (by simp) ?_
    refine AllReadyH.cons rfl (fun K hK => ?_) AllReadyH.nil
    go_simp
    refine hK.out _ _ ?_ (fun hHeld => ?_)
    · exact hS1
    clear hK K
    refine wpAnyH_ready (rs := [16]) (by kernel_rfl) (by simp) ?_
    refine AllReadyH.cons rfl (fun K hK => ?_) AllReadyH.nil
    refine step_append1 rfl (.tmp 27) (.tmp 38) 93 rfl 227 Hvah.t227 _ 9 under80 info219 zero219 size219 rfl bytes219 (.slice oj n capj) n bj cj HA (by have := hn.out; omega) ⟨w2.heap.size, 0, none⟩ 1 (#[.int .u8 3, .int .i32 (i : Nat), .int .u64 0, .int .u64 (lim N 0 : Nat), .int .u64 (lim N 1 : Nat), .int .u64 (lim N 2 : Nat), .int .u64 (lim N 3 : Nat), .slice none 0 0, .bool false] : Array Value).toList rfl (World.news_of_block (heap_new _ _)) hone (by simp [Act.eval]) (by simp [Act.eval]) ?_
    rintro v' W b' c' hG
    refine hK.out _ _ ?_ (fun hHeld => ?_)
    · exact HS2 _ _ _ _ hG
    clear hK K
    change wpAnyH _ _ _ _ _ _ _ (Act.put _ (some 39) _) _
    simp only [Act.put, List.setIfInBounds_toArray, List.set_cons_zero, List.set_cons_succ]
    refine wpAnyH_take (i := 17) (v := ?_) rfl (by kernel_rfl) (by kernel_rfl) (by kernel_rfl) (fun _ _ _ h => h) (Or.inl ⟨by rfl, ?_⟩) hHeld ?_
    rotate_left
    · intro w hSw; go_simp; try with_reducible rfl
    change wpAnyH _ _ _ _ _ _ _ (Act.put _ (some 40) _) _
    simp only [Act.put, List.setIfInBounds_toArray, List.set_cons_zero, List.set_cons_succ]
    refine wpAnyH_take (i := 18) (v := ?_) rfl (by kernel_rfl) (by kernel_rfl) (by kernel_rfl) (fun _ _ _ h => h) (Or.inl ⟨by rfl, ?_⟩) hHeld ?_
    rotate_left
    · intro w hSw; go_simp; try with_reducible rfl
    change wpAnyH _ _ _ _ _ _ _ (Act.put _ (some 41) _) _
    simp only [Act.put, List.setIfInBounds_toArray, List.set_cons_zero, List.set_cons_succ]
    have hBW := (h1.blk.ext hE2).mod (HBW _ _ _ _ hG) (fun q => by have := h1.tag; rw [q.1, q.2] at this; omega)
    have kg := hBW.cell (i := 10629) (by omega)
    have kf := hBW.fz
    have hSW := HS2 _ _ _ _ hG
    obtain ⟨capj', rfl⟩ := hG.some
    refine wpAnyH_ready (rs := [19]) (by kernel_rfl) (by simp) ?_
    refine AllReadyH.cons rfl (fun K hK => ?_) AllReadyH.nil
    go_simp
    refine hK.out _ _ ?_ (fun hHeld => ?_)
    · exact ⟨cx_set hSW.1 (by omega), cx_set hSW.2.1 (fun q => hbg q.1), cx_set hSW.2.2.1 (fun q => hbg q.1), cx_set hSW.2.2.2.1 (fun q => hbg q.1), cx_set hSW.2.2.2.2 (fun q => hbg q.1)⟩
    clear hK K
    refine wpAnyH_done (by kernel_rfl) ?_ _
    clear hHeld
    obtain ⟨own2, c4, h2, s2⟩ := push_end (e := ⟨3, i, 0, N, [], false⟩) (z := #[.int .u8 3, .int .i32 (i : Nat), .int .u64 0, .int .u64 (lim N 0 : Nat), .int .u64 (lim N 1 : Nat), .int .u64 (lim N 2 : Nat), .int .u64 (lim N 3 : Nat), .slice none 0 0, .bool false]) h1 (by rw [hnJ]; exact hJ) ⟨fun q => by simp at q, fun _ => hil, fun q => by simp at q, by simp⟩ hE2 (by rw [hvj, hnJ, hn.out]; exact hTag) hJR (by rw [hvj, hnJ, hn.out]; exact hG)
      (fun own' w' c3 o K hnw => ⟨hnw 0 _ rfl, hnw 1 _ rfl, hnw 2 _ rfl, ⟨hnw 3 _ rfl, hnw 4 _ rfl, hnw 5 _ rfl, hnw 6 _ rfl⟩, by rw [hnw 7 _ rfl]; exact NL.nil, hnw 8 _ rfl, by show (3 : Nat) ≤ 10; decide, by have := h1.nS; show i < 16384; omega, by show (0 : Nat) < _; decide, hNl⟩)
    obtain ⟨y0, y1, y2, y3⟩ := cell_there (heap_new' ((w.alloc (.cells (av a) 31)).alloc (.cells #[.int .u64 (lim k 0 : Nat), .int .u64 (lim k 1 : Nat), .int .u64 (lim k 2 : Nat), .int .u64 (lim k 3 : Nat)] 79)) (.cells #[.int .u64 (lim x 0 : Nat), .int .u64 (lim x 1 : Nat), .int .u64 (lim x 2 : Nat), .int .u64 (lim x 3 : Nat)] 79) (n := w.heap.size + 2) (by simp))
    have hy0 : own (w.heap.size + 2) = 0 := h.fresh _ (by omega)
    have hy1 : own1 (w.heap.size + 2) = 0 := (s1.keep _ (by simp)).trans hy0
    have hys : w.heap.size + 2 < w2.heap.size := Nat.lt_of_lt_of_le (by simp) s1.mod.size
    have z0 := s2.cell0 hys hy1 (s1.cell0 (by simp) hy0 y0)
    have z1 := s2.cell0 hys hy1 (s1.cell0 (by simp) hy0 y1)
    have z2 := s2.cell0 hys hy1 (s1.cell0 (by simp) hy0 y2)
    have z3 := s2.cell0 hys hy1 (s1.cell0 (by simp) hy0 y3)
    refine w_gen (fun X => VRep own2 X g c4 ((V.needAS a k).push ⟨3, i, 0, N, [], false⟩) ∧ VStep own1 w2 c1 own2 X c4 ∧ X.cell? ⟨w.heap.size + 2, 0, none⟩ = some (.int .u64 (lim x 0 : Nat)) ∧ X.cell? ⟨w.heap.size + 2, 1, none⟩ = some (.int .u64 (lim x 1 : Nat)) ∧ X.cell? ⟨w.heap.size + 2, 2, none⟩ = some (.int .u64 (lim x 2 : Nat)) ∧ X.cell? ⟨w.heap.size + 2, 3, none⟩ = some (.int .u64 (lim x 3 : Nat))) ⟨h2, s2, z0, z1, z2, z3⟩ ?_
    rintro X ⟨h2, s2, z0, z1, z2, z3⟩
    clear hSW kf kg hBW hG HS2 HBW hS0 hS1 k0 kj hfz HA
    have hixp : ((V.needAS a k).push ⟨3, i, 0, N, [], false⟩).pk a k = some i := by have := needAS_pk V a k; rw [hi.out] at this; exact this
    obtain ⟨b2, cap2, c5, hv2, hil2, hlc2, hcm2, hb2, hob2, hrows2, hA2, hin2⟩ := h2.slotAt hixp
    have hml : ((V.needAS a k).push ⟨3, i, 0, N, [], false⟩).slots.length = m := hm.out
    rw [hml] at hv2
    have k0 := h2.blk.cell (i := 2436) (by omega)
    rw [hv2] at k0
    have k1 := hb2.cell (i := i * 14 + 5) (by omega)
    have k2 := hb2.cell (i := i * 14 + 6) (by omega)
    have k3 := hb2.cell (i := i * 14 + 7) (by omega)
    have k4 := hb2.cell (i := i * 14 + 8) (by omega)
    have kf := hb2.fz
    have hbl := hb2.lt
    have hbn : w.heap.size + 2 ≠ b2 := fun q => by have := (s2.keep _ hys).trans hy1; rw [q, hob2] at this; omega
    go_wp2
    go_region
    go_wp2
    go_ret
    have hfin := modS_end (f := fun y => { y with val := x }) (c3 := upd4 c5 (i * 14 + 5) x) (i := i) h2 (by rw [hml]; exact hv2) hlc2 hcm2 hob2 hil2 hrows2 ((hb2.set4 (i * 14 + 5) x).drew) (fun j hj => upd4_out _ _ _ _ (by omega)) ((Mod.refl (· = b2) X).set4 (Or.inl rfl) (i * 14 + 5) _ _ _ _).drew (fun _ => rfl) (slot_setVal (hrows2 i hil2) hx)
    refine ⟨rfl, own2, c4, ?_, (VStep.ext ((((Ext.refl w).alloc (av a) 31).alloc #[.int .u64 (lim k 0 : Nat), .int .u64 (lim k 1 : Nat), .int .u64 (lim k 2 : Nat), .int .u64 (lim k 3 : Nat)] 79).alloc #[.int .u64 (lim x 0 : Nat), .int .u64 (lim x 1 : Nat), .int .u64 (lim x 2 : Nat), .int .u64 (lim x 3 : Nat)] 79)).trans (s1.trans (s2.trans hfin.2))⟩
    have hV : V.store a k x = ((V.needAS a k).push ⟨3, i, 0, N, [], false⟩).modS i (fun y => { y with val := x }) := by
      unfold EV.store EV.opS
      rw [hi.out, hN.out]; rfl
    rw [hV]
    exact hfin.1
  · go_simp
    refine hK.out _ _ ?_ (fun hHeld => ?_)
    · exact hS1
    clear hK K
    refine wpAnyH_ready (rs := [4]) (by kernel_rfl) (by simp) ?_
    refine AllReadyH.cons rfl (fun K hK => ?_) AllReadyH.nil
    go_simp
    refine hK.out _ _ ?_ (fun hHeld => ?_)
    · exact hS1
    clear hK K
    refine wpAnyH_ready (rs := [16]) (by kernel_rfl) (by simp) ?_
    refine AllReadyH.cons rfl (fun K hK => ?_) AllReadyH.nil
    refine step_append1 rfl (.tmp 27) (.tmp 38) 93 rfl 227 Hvah.t227 _ 9 under80 info219 zero219 size219 rfl bytes219 (.slice oj n capj) n bj cj HA (by have := hn.out; omega) ⟨w2.heap.size, 0, none⟩ 1 (#[.int .u8 3, .int .i32 (i : Nat), .int .u64 0, .int .u64 (lim N 0 : Nat), .int .u64 (lim N 1 : Nat), .int .u64 (lim N 2 : Nat), .int .u64 (lim N 3 : Nat), .slice none 0 0, .bool false] : Array Value).toList rfl (World.news_of_block (heap_new _ _)) hone (by simp [Act.eval]) (by simp [Act.eval]) ?_
    rintro v' W b' c' hG
    refine hK.out _ _ ?_ (fun hHeld => ?_)
    · exact HS2 _ _ _ _ hG
    clear hK K
    change wpAnyH _ _ _ _ _ _ _ (Act.put _ (some 39) _) _
    simp only [Act.put, List.setIfInBounds_toArray, List.set_cons_zero, List.set_cons_succ]
    refine wpAnyH_take (i := 17) (v := ?_) rfl (by kernel_rfl) (by kernel_rfl) (by kernel_rfl) (fun _ _ _ h => h) (Or.inl ⟨by rfl, ?_⟩) hHeld ?_
    rotate_left
    · intro w hSw; go_simp; try with_reducible rfl
    change wpAnyH _ _ _ _ _ _ _ (Act.put _ (some 40) _) _
    simp only [Act.put, List.setIfInBounds_toArray, List.set_cons_zero, List.set_cons_succ]
    refine wpAnyH_take (i := 18) (v := ?_) rfl (by kernel_rfl) (by kernel_rfl) (by kernel_rfl) (fun _ _ _ h => h) (Or.inl ⟨by rfl, ?_⟩) hHeld ?_
    rotate_left
    · intro w hSw; go_simp; try with_reducible rfl
    change wpAnyH _ _ _ _ _ _ _ (Act.put _ (some 41) _) _
    simp only [Act.put, List.setIfInBounds_toArray, List.set_cons_zero, List.set_cons_succ]
    have hBW := (h1.blk.ext hE2).mod (HBW _ _ _ _ hG) (fun q => by have := h1.tag; rw [q.1, q.2] at this; omega)
    have kg := hBW.cell (i := 10629) (by omega)
    have kf := hBW.fz
    have hSW := HS2 _ _ _ _ hG
    obtain ⟨capj', rfl⟩ := hG.some
    refine wpAnyH_ready (rs := [19]) (by kernel_rfl) (by simp) ?_
    refine AllReadyH.cons rfl (fun K hK => ?_) AllReadyH.nil
    go_simp
    refine hK.out _ _ ?_ (fun hHeld => ?_)
    · exact ⟨cx_set hSW.1 (by omega), cx_set hSW.2.1 (fun q => hbg q.1), cx_set hSW.2.2.1 (fun q => hbg q.1), cx_set hSW.2.2.2.1 (fun q => hbg q.1), cx_set hSW.2.2.2.2 (fun q => hbg q.1)⟩
    clear hK K
    refine wpAnyH_done (by kernel_rfl) ?_ _
    clear hHeld
    obtain ⟨own2, c4, h2, s2⟩ := push_end (e := ⟨3, i, 0, N, [], false⟩) (z := #[.int .u8 3, .int .i32 (i : Nat), .int .u64 0, .int .u64 (lim N 0 : Nat), .int .u64 (lim N 1 : Nat), .int .u64 (lim N 2 : Nat), .int .u64 (lim N 3 : Nat), .slice none 0 0, .bool false]) h1 (by rw [hnJ]; exact hJ) ⟨fun q => by simp at q, fun _ => hil, fun q => by simp at q, by simp⟩ hE2 (by rw [hvj, hnJ, hn.out]; exact hTag) hJR (by rw [hvj, hnJ, hn.out]; exact hG)
      (fun own' w' c3 o K hnw => ⟨hnw 0 _ rfl, hnw 1 _ rfl, hnw 2 _ rfl, ⟨hnw 3 _ rfl, hnw 4 _ rfl, hnw 5 _ rfl, hnw 6 _ rfl⟩, by rw [hnw 7 _ rfl]; exact NL.nil, hnw 8 _ rfl, by show (3 : Nat) ≤ 10; decide, by have := h1.nS; show i < 16384; omega, by show (0 : Nat) < _; decide, hNl⟩)
    obtain ⟨y0, y1, y2, y3⟩ := cell_there (heap_new' ((w.alloc (.cells (av a) 31)).alloc (.cells #[.int .u64 (lim k 0 : Nat), .int .u64 (lim k 1 : Nat), .int .u64 (lim k 2 : Nat), .int .u64 (lim k 3 : Nat)] 79)) (.cells #[.int .u64 (lim x 0 : Nat), .int .u64 (lim x 1 : Nat), .int .u64 (lim x 2 : Nat), .int .u64 (lim x 3 : Nat)] 79) (n := w.heap.size + 2) (by simp))
    have hy0 : own (w.heap.size + 2) = 0 := h.fresh _ (by omega)
    have hy1 : own1 (w.heap.size + 2) = 0 := (s1.keep _ (by simp)).trans hy0
    have hys : w.heap.size + 2 < w2.heap.size := Nat.lt_of_lt_of_le (by simp) s1.mod.size
    have z0 := s2.cell0 hys hy1 (s1.cell0 (by simp) hy0 y0)
    have z1 := s2.cell0 hys hy1 (s1.cell0 (by simp) hy0 y1)
    have z2 := s2.cell0 hys hy1 (s1.cell0 (by simp) hy0 y2)
    have z3 := s2.cell0 hys hy1 (s1.cell0 (by simp) hy0 y3)
    refine w_gen (fun X => VRep own2 X g c4 ((V.needAS a k).push ⟨3, i, 0, N, [], false⟩) ∧ VStep own1 w2 c1 own2 X c4 ∧ X.cell? ⟨w.heap.size + 2, 0, none⟩ = some (.int .u64 (lim x 0 : Nat)) ∧ X.cell? ⟨w.heap.size + 2, 1, none⟩ = some (.int .u64 (lim x 1 : Nat)) ∧ X.cell? ⟨w.heap.size + 2, 2, none⟩ = some (.int .u64 (lim x 2 : Nat)) ∧ X.cell? ⟨w.heap.size + 2, 3, none⟩ = some (.int .u64 (lim x 3 : Nat))) ⟨h2, s2, z0, z1, z2, z3⟩ ?_
    rintro X ⟨h2, s2, z0, z1, z2, z3⟩
    clear hSW kf kg hBW hG HS2 HBW hS0 hS1 k0 kj hfz HA
    have hixp : ((V.needAS a k).push ⟨3, i, 0, N, [], false⟩).pk a k = some i := by have := needAS_pk V a k; rw [hi.out] at this; exact this
    obtain ⟨b2, cap2, c5, hv2, hil2, hlc2, hcm2, hb2, hob2, hrows2, hA2, hin2⟩ := h2.slotAt hixp
    have hml : ((V.needAS a k).push ⟨3, i, 0, N, [], false⟩).slots.length = m := hm.out
    rw [hml] at hv2
    have k0 := h2.blk.cell (i := 2436) (by omega)
    rw [hv2] at k0
    have k1 := hb2.cell (i := i * 14 + 5) (by omega)
    have k2 := hb2.cell (i := i * 14 + 6) (by omega)
    have k3 := hb2.cell (i := i * 14 + 7) (by omega)
    have k4 := hb2.cell (i := i * 14 + 8) (by omega)
    have kf := hb2.fz
    have hbl := hb2.lt
    have hbn : w.heap.size + 2 ≠ b2 := fun q => by have := (s2.keep _ hys).trans hy1; rw [q, hob2] at this; omega
    go_wp2
    go_region
    go_wp2
    go_ret
    have hfin := modS_end (f := fun y => { y with val := x }) (c3 := upd4 c5 (i * 14 + 5) x) (i := i) h2 (by rw [hml]; exact hv2) hlc2 hcm2 hob2 hil2 hrows2 ((hb2.set4 (i * 14 + 5) x).drew) (fun j hj => upd4_out _ _ _ _ (by omega)) ((Mod.refl (· = b2) X).set4 (Or.inl rfl) (i * 14 + 5) _ _ _ _).drew (fun _ => rfl) (slot_setVal (hrows2 i hil2) hx)
    refine ⟨rfl, own2, c4, ?_, (VStep.ext ((((Ext.refl w).alloc (av a) 31).alloc #[.int .u64 (lim k 0 : Nat), .int .u64 (lim k 1 : Nat), .int .u64 (lim k 2 : Nat), .int .u64 (lim k 3 : Nat)] 79).alloc #[.int .u64 (lim x 0 : Nat), .int .u64 (lim x 1 : Nat), .int .u64 (lim x 2 : Nat), .int .u64 (lim x 3 : Nat)] 79)).trans (s1.trans (s2.trans hfin.2))⟩
    have hV : V.store a k x = ((V.needAS a k).push ⟨3, i, 0, N, [], false⟩).modS i (fun y => { y with val := x }) := by
      unfold EV.store EV.opS
      rw [hi.out, hN.out]; rfl
    rw [hV]
    exact hfin.1
end
end Go.Proofs.YgvahwGreat
