import Derived.Test.YgvahwGreatVaultZ
import Derived.Test.YgvahwGreatYX
namespace Go.Proofs.YgvahwGreat
open Go.RowKit
set_option linter.unusedSimpArgs false
attribute [local go_sem] wv_fold
theorem one77 : OneT 90 := oneT_of (by kernel_rfl) (by kernel_rfl)
theorem VStep.bs {own own' : Nat → Nat} {w w' : World} {c c' : Nat → Value} (k : VStep own w c own' w' c') {o : Option Addr} {l : List Nat} (hb : BS (Mu own) w o l) : BS (Mu own') w' o l := ⟨hb.lt, fun hl => by
    obtain ⟨b, off, h1, h2, h3, h4⟩ := hb.spot hl
    have h2' : own b = 0 := by apply Decidable.byContradiction; exact h2
    exact ⟨b, off, h1, by unfold Mu; rw [k.keep b h3]; exact h2, Nat.lt_of_lt_of_le h3 k.mod.size, fun i hi => (k.mod.cell (p := ⟨b, off + i, none⟩) h3 (fun q => q.1.1 h2')).trans (h4 i hi)⟩⟩
theorem VStep.nl {own own' : Nat → Nat} {w w' : World} {c c' : Nat → Value} (k : VStep own w c own' w' c') {v : Value} {l : List Nat} (hv : NL (Mu own) w v l) : NL (Mu own') w' v l := by
  obtain ⟨o, cap, h1, h2, h3, h4⟩ := hv
  exact ⟨o, cap, h1, h2, h3, k.bs h4⟩
section
variable {own : Nat → Nat} {w : World} {g : Nat} {c : Nat → Value} {V : EV} {a : Nat}
set_option maxRecDepth 100000 in
set_option maxHeartbeats 1600000 in
theorem vPutCode (v : Value) (L : List Nat) (h : VRep own w g c V) (ha : a < 2 ^ 160) (hv0 : NL (Mu own) w v L) (hL : L.length ≤ 256) (hJ : V.journal.length < 65536) (hroom : V.ix a = none → V.accts.length < 2560) :
    Calls Hvah.prog 264 #[.pointer (some ⟨g, 2435, none⟩), .agg (av a), v] w fun e w' => e = .returned (.bool true) ∧ ∃ own' c', VRep own' w' g c' (V.putCode a L) ∧ VStep own w c own' w' c' := by
  have HR : ∀ W, Ext w W → Calls Hvah.prog 179 #[.pointer (some ⟨g, 2435, none⟩)] W fun e w' => e = .returned (.bool true) ∧ w' = W := fun W hW => by
    have := vRoom (h.ext hW); rw [decide_eq_true hJ] at this; exact this
  have HAc : ∀ W, Ext w W → Calls Hvah.prog 91 #[.pointer (some ⟨g, 2435, none⟩), .agg (av a)] W fun e w' => e = .returned (.tuple #[.int .i32 (V.at_ a : Nat), .bool true]) ∧ ∃ own' c', VRep own' w' g c' (V.need a) ∧ VStep own W c own' w' c' := fun W hW => vAcct (h.ext hW) ha hroom
  have hat := (need_len V a).2.2
  have hnJ : (V.need a).journal = V.journal := by unfold EV.need; split <;> rfl
  obtain ⟨i, hi⟩ : ∃ i, Hid (V.at_ a = i) := ⟨_, (rfl : V.at_ a = _)⟩
  rw [hi.out] at HAc
  obtain ⟨ov, cv, rfl, z1, z2, z3⟩ := hv0
  have hv0 : NL (Mu own) w (.slice ov L.length cv) L := ⟨ov, cv, rfl, z1, z2, z3⟩
  obtain ⟨lv, hlv⟩ : ∃ l, Hid (L.length = l) := ⟨_, rfl⟩
  rw [hlv.out] at hL hv0
  rw [hlv.out]
  have hL2 : ¬ (256 : Int) < lv := by omega
  go_enter Hvah.func264, Hvah.ntmps264
  go_wp2_with (first | ((with_reducible (refine Veil.out ?_; apply wl_box)); (case hx => rfl)) | ((with_reducible (refine Veil.out ?_; apply wl_load_av (n := a))); (case hn => exact ha); (case hx => rfl); (case hr => exact row_box a (Ext.refl _))) | (go_at_call 179; refine (HR _ ((Ext.refl _).alloc _ _)).mono ?_; rintro e w1 ⟨rfl, rfl⟩) | (go_at_call 91; refine (HAc _ ((Ext.refl _).alloc _ _)).mono ?_; rintro e w2 ⟨rfl, own1, c1, h1, s1⟩))
  obtain ⟨b, cap, c2, hv, hil, hlc, hcm, hb, hob, hrows, hA, hin⟩ := h1.acctAt (need_ix V a)
  rw [hi.out] at hA hin hil
  have hil' : (i : Int) < (V.need a).accts.length := by omega
  obtain ⟨m, hm⟩ : ∃ m, Hid ((V.need a).accts.length = m) := ⟨_, (rfl : (V.need a).accts.length = _)⟩
  rw [hm.out] at hv hil'
  rw [(need_ex V a).acct] at hA
  obtain ⟨N, hN⟩ : ∃ N, Hid ((V.acct a).code = N) := ⟨_, (rfl : (V.acct a).code = _)⟩
  have hcd := hA.code
  rw [hN.out] at hcd
  obtain ⟨oc, cpc, hcode, hq1, hq2, hq3⟩ := hcd
  have hcd' : NL (Mu own1) w2 (.slice oc N.length cpc) N := ⟨oc, cpc, rfl, hq1, hq2, hq3⟩
  obtain ⟨nl, hnl⟩ : ∃ nl, Hid (N.length = nl) := ⟨_, rfl⟩
  rw [hnl.out] at hcode hcd'
  obtain ⟨bj, cj, hArn, hTag, hJR⟩ := h1.jrn.arn
  rw [List.length_reverse, hnJ] at hArn hTag
  obtain ⟨oj, capj, hvj⟩ : ∃ o cap, c1 10629 = .slice o V.journal.length cap := by
    rcases hArn with ⟨q1, q2⟩ | ⟨cp, q1, _⟩
    · exact ⟨none, 0, by rw [q1]; exact q2⟩
    · exact ⟨_, _, q1⟩
  obtain ⟨n, hn⟩ : ∃ n, Hid (V.journal.length = n) := ⟨_, (rfl : V.journal.length = _)⟩
  rw [hn.out] at hvj hArn hTag
  rw [hvj] at hArn hTag
  have k0 := h1.blk.cell (i := 2435) (by omega)
  have kj := h1.blk.cell (i := 10629) (by omega)
  rw [hv] at k0
  rw [hvj] at kj
  have r0 := hb.cell (i := i * 29 + 25) (by omega)
  rw [hcode] at r0
  have hfz := h1.blk.fz
  have hlt := h1.blk.lt
  have hltb := hb.lt
  have hbg : b ≠ g := fun q => by have := h1.tag; rw [← q, hob] at this; omega
  have hS0 : w2.drew.cell? ⟨g, 2435, none⟩ = some (.slice (some ⟨b, 0, none⟩) m cap) ∧ w2.drew.cell? ⟨b, i * 29 + 25, none⟩ = some (.slice oc nl cpc) := ⟨k0, r0⟩
  have hS1 : ((w2.alloc (.cells #[.int .u8 2, .int .i32 (i : Nat), .int .u64 0, .int .u64 0, .int .u64 0, .int .u64 0, .int .u64 0, .slice oc nl cpc, .bool false] 227)).drew).cell? ⟨g, 2435, none⟩ = some (.slice (some ⟨b, 0, none⟩) m cap) ∧ ((w2.alloc (.cells #[.int .u8 2, .int .i32 (i : Nat), .int .u64 0, .int .u64 0, .int .u64 0, .int .u64 0, .int .u64 0, .slice oc nl cpc, .bool false] 227)).drew).cell? ⟨b, i * 29 + 25, none⟩ = some (.slice oc nl cpc) := ⟨cx_ext hS0.1 hlt ((Ext.refl w2.drew).alloc _ _), cx_ext hS0.2 hltb ((Ext.refl w2.drew).alloc _ _)⟩
  have HBW : ∀ v' W b' c', Grown ((w2.alloc (.cells #[.int .u8 2, .int .i32 (i : Nat), .int .u64 0, .int .u64 0, .int .u64 0, .int .u64 0, .int .u64 0, .slice oc nl cpc, .bool false] 227)).drew) 227 9 (.slice oj n capj) n bj cj (#[.int .u8 2, .int .i32 (i : Nat), .int .u64 0, .int .u64 0, .int .u64 0, .int .u64 0, .int .u64 0, .slice oc nl cpc, .bool false] : Array Value).toList v' W b' c' → Mod (fun x => x = bj ∧ own1 bj = 3) ((w2.alloc (.cells #[.int .u8 2, .int .i32 (i : Nat), .int .u64 0, .int .u64 0, .int .u64 0, .int .u64 0, .int .u64 0, .slice oc nl cpc, .bool false] 227)).drew) W := fun v' W b' c' hG => by
    rcases hG.how with ⟨_, ⟨cp, hc⟩, hmm⟩ | ⟨_, hx⟩
    · exact hmm.sub (fun x hx => ⟨hx, hTag cp hc⟩)
    · exact hx.mod _
  have hs2 : w2.heap.size < ((w2.alloc (.cells #[.int .u8 2, .int .i32 (i : Nat), .int .u64 0, .int .u64 0, .int .u64 0, .int .u64 0, .int .u64 0, .slice oc nl cpc, .bool false] 227)).drew).heap.size := by simp
  have hE2 : Ext w2 ((w2.alloc (.cells #[.int .u8 2, .int .i32 (i : Nat), .int .u64 0, .int .u64 0, .int .u64 0, .int .u64 0, .int .u64 0, .slice oc nl cpc, .bool false] 227)).drew) := ((Ext.refl _).alloc _ _).drew
  have HS2 : ∀ v' W b' c', Grown ((w2.alloc (.cells #[.int .u8 2, .int .i32 (i : Nat), .int .u64 0, .int .u64 0, .int .u64 0, .int .u64 0, .int .u64 0, .slice oc nl cpc, .bool false] 227)).drew) 227 9 (.slice oj n capj) n bj cj (#[.int .u8 2, .int .i32 (i : Nat), .int .u64 0, .int .u64 0, .int .u64 0, .int .u64 0, .int .u64 0, .slice oc nl cpc, .bool false] : Array Value).toList v' W b' c' → W.cell? ⟨g, 2435, none⟩ = some (.slice (some ⟨b, 0, none⟩) m cap) ∧ W.cell? ⟨b, i * 29 + 25, none⟩ = some (.slice oc nl cpc) := fun v' W b' c' hG =>
    ⟨cx_mod hS1.1 (by omega) (fun q => by have := h1.tag; rw [q.1, q.2] at this; omega) (HBW _ _ _ _ hG), cx_mod hS1.2 (by omega) (fun q => by rw [q.1, q.2] at hob; omega) (HBW _ _ _ _ hG)⟩
  have HA : Arn ((w2.alloc (.cells #[.int .u8 2, .int .i32 (i : Nat), .int .u64 0, .int .u64 0, .int .u64 0, .int .u64 0, .int .u64 0, .slice oc nl cpc, .bool false] 227)).drew) 227 9 (.slice oj n capj) n bj cj := by
    rcases hArn with q | ⟨cp, q1, q2, q3, q4⟩
    · exact Or.inl q
    · exact Or.inr ⟨cp, q1, q2, q3, q4.ext hE2⟩
  have hone : ∀ u ∈ (#[.int .u8 2, .int .i32 (i : Nat), .int .u64 0, .int .u64 0, .int .u64 0, .int .u64 0, .int .u64 0, .slice oc nl cpc, .bool false] : Array Value).toList, u.oneCell' = true := fun u hu => by
    simp only [List.mem_cons, List.not_mem_nil, or_false] at hu
    rcases hu with q | q | q | q | q | q | q | q | q <;> subst q <;> rfl
  refine wp_region_held_drew (S := fun w' => w'.cell? ⟨g, 2435, none⟩ = some (.slice (some ⟨b, 0, none⟩) m cap) ∧ w'.cell? ⟨b, i * 29 + 25, none⟩ = some (.slice oc nl cpc)) (by kernel_rfl) hS0 (fun hHeld => ?_)
  refine wpAnyH_take (i := 0) (v := ?_) rfl (by kernel_rfl) (by kernel_rfl) (by kernel_rfl) (fun _ _ _ h => h) (Or.inl ⟨by rfl, ?_⟩) hHeld ?_
  rotate_left
  · intro w hSw; go_simp; try with_reducible rfl
  change wpAnyH _ _ _ _ _ _ _ (Act.put _ (some 25) _) _
  simp only [Act.put, List.setIfInBounds_toArray, List.set_cons_zero, List.set_cons_succ]
  refine wpAnyH_take (i := 1) (v := ?_) rfl (by kernel_rfl) (by kernel_rfl) (by kernel_rfl) (fun _ _ _ h => h) (Or.inl ⟨by rfl, ?_⟩) hHeld ?_
  rotate_left
  · intro w hSw; go_simp; try with_reducible rfl
  change wpAnyH _ _ _ _ _ _ _ (Act.put _ (some 26) _) _
  simp only [Act.put, List.setIfInBounds_toArray, List.set_cons_zero, List.set_cons_succ]
  refine wpAnyH_take (i := 2) (v := ?_) rfl (by kernel_rfl) (by kernel_rfl) (by kernel_rfl) (fun _ _ _ h => h) (Or.inl ⟨by rfl, ?_⟩) hHeld ?_
  rotate_left
  · intro w hSw; go_simp; try with_reducible rfl
  change wpAnyH _ _ _ _ _ _ _ (Act.put _ (some 27) _) _
  simp only [Act.put, List.setIfInBounds_toArray, List.set_cons_zero, List.set_cons_succ]
  refine wpAnyH_take (i := 3) (v := ?_) rfl (by kernel_rfl) (by kernel_rfl) (by kernel_rfl) (fun _ _ _ h => h) (Or.inl ⟨by rfl, ?_⟩) hHeld ?_
  rotate_left
  · intro w hSw; go_simp; try with_reducible rfl
  change wpAnyH _ _ _ _ _ _ _ (Act.put _ (some 28) _) _
  simp only [Act.put, List.setIfInBounds_toArray, List.set_cons_zero, List.set_cons_succ]
  refine wpAnyH_take (i := 5) (v := ?_) rfl (by kernel_rfl) (by kernel_rfl) (by kernel_rfl) (fun _ _ _ h => h) (Or.inl ⟨by rfl, ?_⟩) hHeld ?_
  rotate_left
  · intro w hSw; go_simp; try with_reducible rfl
  change wpAnyH _ _ _ _ _ _ _ (Act.put _ (some 30) _) _
  simp only [Act.put, List.setIfInBounds_toArray, List.set_cons_zero, List.set_cons_succ]
  refine wpAnyH_take (i := 6) (v := ?_) rfl (by kernel_rfl) (by kernel_rfl) (by kernel_rfl) (fun _ _ _ h => h) (Or.inl ⟨by rfl, ?_⟩) hHeld ?_
  rotate_left
  · intro w hSw; go_simp; try with_reducible rfl
  change wpAnyH _ _ _ _ _ _ _ (Act.put _ (some 31) _) _
  simp only [Act.put, List.setIfInBounds_toArray, List.set_cons_zero, List.set_cons_succ]
  refine wpAnyH_take (i := 7) (v := ?_) rfl (by kernel_rfl) (by kernel_rfl) (by kernel_rfl) (fun _ _ _ h => h) (Or.inl ⟨by rfl, ?_⟩) hHeld ?_
  rotate_left
  · intro w hSw; go_simp; try with_reducible rfl
  change wpAnyH _ _ _ _ _ _ _ (Act.put _ (some 32) _) _
  simp only [Act.put, List.setIfInBounds_toArray, List.set_cons_zero, List.set_cons_succ]
  refine wpAnyH_take (i := 8) (v := ?_) rfl (by kernel_rfl) (by kernel_rfl) (by kernel_rfl) (fun _ _ _ h => h) (Or.inl ⟨by rfl, ?_⟩) hHeld ?_
  rotate_left
  · intro w hSw; go_simp; try with_reducible rfl
  change wpAnyH _ _ _ _ _ _ _ (Act.put _ (some 33) _) _
  simp only [Act.put, List.setIfInBounds_toArray, List.set_cons_zero, List.set_cons_succ]
  refine wpAnyH_take (i := 9) (v := ?_) rfl (by kernel_rfl) (by kernel_rfl) (by kernel_rfl) (fun _ _ _ h => h) (Or.inl ⟨by rfl, ?_⟩) hHeld ?_
  rotate_left
  · intro w hSw; go_simp; try with_reducible rfl
  change wpAnyH _ _ _ _ _ _ _ (Act.put _ (some 34) _) _
  simp only [Act.put, List.setIfInBounds_toArray, List.set_cons_zero, List.set_cons_succ]
  refine wpAnyH_take (i := 10) (v := ?_) rfl (by kernel_rfl) (by kernel_rfl) (by kernel_rfl) (fun _ _ _ h => h) (Or.inl ⟨by rfl, ?_⟩) hHeld ?_
  rotate_left
  · intro w hSw; go_simp; try with_reducible rfl
  change wpAnyH _ _ _ _ _ _ _ (Act.put _ (some 35) _) _
  simp only [Act.put, List.setIfInBounds_toArray, List.set_cons_zero, List.set_cons_succ]
  refine wpAnyH_take (i := 11) (v := ?_) rfl (by kernel_rfl) (by kernel_rfl) (by kernel_rfl) (fun _ _ _ h => h) (Or.inl ⟨by rfl, ?_⟩) hHeld ?_
  rotate_left
  · intro w hSw; go_simp; try with_reducible rfl
  change wpAnyH _ _ _ _ _ _ _ (Act.put _ (some 36) _) _
  simp only [Act.put, List.setIfInBounds_toArray, List.set_cons_zero, List.set_cons_succ]
  refine wpAnyH_take (i := 12) (v := ?_) rfl (by kernel_rfl) (by kernel_rfl) (by kernel_rfl) (fun _ _ _ h => h) (Or.inl ⟨by rfl, ?_⟩) hHeld ?_
  rotate_left
  · intro w hSw; go_simp; try with_reducible rfl
  change wpAnyH _ _ _ _ _ _ _ (Act.put _ (some 37) _) _
  simp only [Act.put, List.setIfInBounds_toArray, List.set_cons_zero, List.set_cons_succ]
  refine wpAnyH_take (i := 13) (v := ?_) rfl (by kernel_rfl) (by kernel_rfl) (by kernel_rfl) (fun _ _ _ h => h) (Or.inl ⟨by rfl, ?_⟩) hHeld ?_
  rotate_left
  · intro w hSw; go_simp; try with_reducible rfl
  change wpAnyH _ _ _ _ _ _ _ (Act.put _ (some 38) _) _
  simp only [Act.put, List.setIfInBounds_toArray, List.set_cons_zero, List.set_cons_succ]
  refine wpAnyH_take (i := 14) (v := ?_) rfl (by kernel_rfl) (by kernel_rfl) (by kernel_rfl) (fun _ _ _ h => h) (Or.inl ⟨by rfl, ?_⟩) hHeld ?_
  rotate_left
  · intro w hSw; go_simp; try with_reducible rfl
  change wpAnyH _ _ _ _ _ _ _ (Act.put _ (some 39) _) _
  simp only [Act.put, List.setIfInBounds_toArray, List.set_cons_zero, List.set_cons_succ]
  refine wpAnyH_ready (rs := [4, 15]) (by kernel_rfl) (by simp) ?_
  refine AllReadyH.cons rfl (fun K hK => ?_) (AllReadyH.cons rfl (fun K hK => ?_) AllReadyH.nil)
  · go_simp
    refine hK.out _ _ ?_ (fun hHeld => ?_)
    · exact hS0
    clear hK K
    refine wpAnyH_ready (rs := [15]) (by kernel_rfl) (by simp) ?_
    refine AllReadyH.cons rfl (fun K hK => ?_) AllReadyH.nil
    go_simp
    refine hK.out _ _ ?_ (fun hHeld => ?_)
    · exact hS1
    clear hK K
    refine wpAnyH_ready (rs := [16]) (by kernel_rfl) (by simp) ?_
    refine AllReadyH.cons rfl (fun K hK => ?_) AllReadyH.nil
    refine step_append1 rfl (.tmp 29) (.tmp 40) 93 rfl 227 Hvah.t227 _ 9 under80 info219 zero219 size219 rfl bytes219 (.slice oj n capj) n bj cj HA (by have := hn.out; omega) ⟨w2.heap.size, 0, none⟩ 1 (#[.int .u8 2, .int .i32 (i : Nat), .int .u64 0, .int .u64 0, .int .u64 0, .int .u64 0, .int .u64 0, .slice oc nl cpc, .bool false] : Array Value).toList rfl (World.news_of_block (heap_new _ _)) hone (by simp [Act.eval]) (by simp [Act.eval]) ?_
    rintro v' W b' c' hG
    refine hK.out _ _ ?_ (fun hHeld => ?_)
    · exact HS2 _ _ _ _ hG
    clear hK K
    change wpAnyH _ _ _ _ _ _ _ (Act.put _ (some 41) _) _
    simp only [Act.put, List.setIfInBounds_toArray, List.set_cons_zero, List.set_cons_succ]
    refine wpAnyH_take (i := 17) (v := ?_) rfl (by kernel_rfl) (by kernel_rfl) (by kernel_rfl) (fun _ _ _ h => h) (Or.inl ⟨by rfl, ?_⟩) hHeld ?_
    rotate_left
    · intro w hSw; go_simp; try with_reducible rfl
    change wpAnyH _ _ _ _ _ _ _ (Act.put _ (some 42) _) _
    simp only [Act.put, List.setIfInBounds_toArray, List.set_cons_zero, List.set_cons_succ]
    refine wpAnyH_take (i := 18) (v := ?_) rfl (by kernel_rfl) (by kernel_rfl) (by kernel_rfl) (fun _ _ _ h => h) (Or.inl ⟨by rfl, ?_⟩) hHeld ?_
    rotate_left
    · intro w hSw; go_simp; try with_reducible rfl
    change wpAnyH _ _ _ _ _ _ _ (Act.put _ (some 43) _) _
    simp only [Act.put, List.setIfInBounds_toArray, List.set_cons_zero, List.set_cons_succ]
    have hBW := (h1.blk.ext hE2).mod (HBW _ _ _ _ hG) (fun q => by have := h1.tag; rw [q.1, q.2] at this; omega)
    have kg := hBW.cell (i := 10629) (by omega)
    have kf := hBW.fz
    have hSW := HS2 _ _ _ _ hG
    obtain ⟨capj', rfl⟩ := hG.some
    refine wpAnyH_ready (rs := [19]) (by kernel_rfl) (by simp) ?_
    refine AllReadyH.cons rfl (fun K hK => ?_) AllReadyH.nil
    go_simp
    refine hK.out _ _ ?_ (fun hHeld => ?_)
    · exact ⟨cx_set hSW.1 (by omega), cx_set hSW.2 (fun q => hbg q.1)⟩
    clear hK K
    refine wpAnyH_done (by kernel_rfl) ?_ _
    clear hHeld
    obtain ⟨own2, c4, h2, s2⟩ := push_end (e := ⟨2, i, 0, 0, N, false⟩) (z := #[.int .u8 2, .int .i32 (i : Nat), .int .u64 0, .int .u64 0, .int .u64 0, .int .u64 0, .int .u64 0, .slice oc nl cpc, .bool false]) h1 (by rw [hnJ]; exact hJ) ⟨fun _ => hil, fun q => by simp at q, fun q => by simp at q, by simp⟩ hE2 (by rw [hvj, hnJ, hn.out]; exact hTag) hJR (by rw [hvj, hnJ, hn.out]; exact hG)
      (fun own' w' c3 o K hnw => ⟨hnw 0 _ rfl, hnw 1 _ rfl, hnw 2 _ rfl, WAt.zero4 (q := 3) hnw rfl rfl rfl rfl, by rw [hnw 7 _ rfl]; exact K.nl hcd', hnw 8 _ rfl, by show (2 : Nat) ≤ 10; decide, by have := h1.nA; show i < 16384; omega, by show (0 : Nat) < _; decide, P256_pos⟩)
    refine w_gen (fun X => VRep own2 X g c4 ((V.need a).push ⟨2, i, 0, 0, N, false⟩) ∧ VStep own1 w2 c1 own2 X c4) ⟨h2, s2⟩ ?_
    rintro X ⟨h2, s2⟩
    clear hSW kf kg hBW hG HS2 HBW hS0 hS1 k0 kj hfz HA hone
    have hixp : ((V.need a).push ⟨2, i, 0, 0, N, false⟩).ix a = some i := by have := need_ix V a; rw [hi.out] at this; exact this
    obtain ⟨b2, cap2, c5, hv2, hil2, hlc2, hcm2, hb2, hob2, hrows2, hA2, hin2⟩ := h2.acctAt hixp
    have hml : ((V.need a).push ⟨2, i, 0, 0, N, false⟩).accts.length = m := hm.out
    rw [hml] at hv2
    have k0 := h2.blk.cell (i := 2435) (by omega)
    rw [hv2] at k0
    have kf := hb2.fz
    have hvX : NL (Mu own2) X (.slice ov lv cv) L := s2.nl (s1.nl (hv0.ext ((Ext.refl w).alloc (av a) 31)))
    have HC := fun W (hW : Ext X W) => vCopied (Mu own2) _ _ W (h2.ext hW).small (hvX.ext hW)
    have hgb2 : ¬ g = b2 := fun q => by have := h2.tag; rw [q, hob2] at this; omega
    clear hA hb hrows hJR hArn hTag HR HAc
    go_upto_region 7 with (fail)
    refine w_ext ?_
    rintro W0 hW0
    refine wp_region_held_drew (S := fun w' => Mod (fun x => x = b2) W0 w') (by kernel_rfl) (Mod.refl _ _).drew (fun hHeld => ?_)
    have HH : Hid (Mod (fun x => x = b2) W0 _) := hHeld
    clear hHeld
    refine wpAnyH_take (i := 0) (v := ?_) rfl (by kernel_rfl) (by kernel_rfl) (by kernel_rfl) (fun _ _ _ h => h) (Or.inl ⟨by rfl, ?_⟩) HH.out ?_
    rotate_left
    · intro w hSw; go_simp; try with_reducible rfl
    change wpAnyH _ _ _ _ _ _ _ (Act.put _ (some 44) _) _
    simp only [Act.put, List.setIfInBounds_toArray, List.set_cons_zero, List.set_cons_succ]
    refine wpAnyH_take (i := 1) (v := ?_) rfl (by kernel_rfl) (by kernel_rfl) (by kernel_rfl) (fun _ _ _ h => h) (Or.inl ⟨by rfl, ?_⟩) HH.out ?_
    rotate_left
    · intro w hSw; go_simp; try with_reducible rfl
    change wpAnyH _ _ _ _ _ _ _ (Act.put _ (some 45) _) _
    simp only [Act.put, List.setIfInBounds_toArray, List.set_cons_zero, List.set_cons_succ]
    refine wpAnyH_take (i := 2) (v := ?_) rfl (by kernel_rfl) (by kernel_rfl) (by kernel_rfl) (fun _ _ _ h => h) (Or.inl ⟨by rfl, ?_⟩) HH.out ?_
    rotate_left
    · intro w hSw; go_simp; try with_reducible rfl
    change wpAnyH _ _ _ _ _ _ _ (Act.put _ (some 46) _) _
    simp only [Act.put, List.setIfInBounds_toArray, List.set_cons_zero, List.set_cons_succ]
    refine wpAnyH_take (i := 3) rfl (by kernel_rfl) (by kernel_rfl) (by kernel_rfl) (fun _ _ _ h => h) (yieldsIf_load1 (by rfl) _ _ rfl _ _ rfl one77 _ (fun w hSw => by rw [((h2.blk.ext (show Ext X W0 from by (repeat (first | with_reducible exact Ext.refl _ | with_reducible assumption | refine Ext.trans ?_ (by with_reducible assumption) | refine Ext.alloc ?_ _ _ | refine Ext.drew ?_ | refine Ext.drewN ?_ _)))).mod hSw hgb2).cell (by omega), hv2])) HH.out ?_
    change wpAnyH _ _ _ _ _ _ _ (Act.put _ (some 47) _) _
    simp only [Act.put, List.setIfInBounds_toArray, List.set_cons_zero, List.set_cons_succ]
    refine wpAnyH_take (i := 4) (v := ?_) rfl (by kernel_rfl) (by kernel_rfl) (by kernel_rfl) (fun _ _ _ h => h) (Or.inl ⟨by rfl, ?_⟩) HH.out ?_
    rotate_left
    · intro w hSw; go_simp; try with_reducible rfl
    change wpAnyH _ _ _ _ _ _ _ (Act.put _ (some 48) _) _
    simp only [Act.put, List.setIfInBounds_toArray, List.set_cons_zero, List.set_cons_succ]
    refine wpAnyH_take (i := 5) (v := ?_) rfl (by kernel_rfl) (by kernel_rfl) (by kernel_rfl) (fun _ _ _ h => h) (Or.inl ⟨by rfl, ?_⟩) HH.out ?_
    rotate_left
    · intro w hSw; go_simp; try with_reducible rfl
    change wpAnyH _ _ _ _ _ _ _ (Act.put _ (some 49) _) _
    simp only [Act.put, List.setIfInBounds_toArray, List.set_cons_zero, List.set_cons_succ]
    refine wpAnyH_ready (rs := [6]) (by kernel_rfl) (by simp) ?_
    refine AllReadyH.cons rfl (fun K hK => ?_) AllReadyH.nil
    go_simp
    go_at_call 86; refine (HC _ (by (repeat (first | with_reducible exact Ext.refl _ | with_reducible assumption | refine Ext.trans ?_ (by with_reducible assumption) | refine Ext.alloc ?_ _ _ | refine Ext.drew ?_ | refine Ext.drewN ?_ _)))).mono ?_; rintro e w6 ⟨r, rfl, hr, he⟩; obtain ⟨ro, rc, rfl, r1, r2, r3⟩ := hr
    refine hK.out _ _ ?_ (fun hHeld => ?_)
    · first | exact HH.out.trans hmY | exact HH.out.trans_ext he | exact HH.out
    clear hK K HH
    have HH : Hid (Mod (fun x => x = b2) W0 _) := hHeld
    clear hHeld
    refine wpAnyH_take (i := 7) (v := ?_) rfl (by kernel_rfl) (by kernel_rfl) (by kernel_rfl) (fun _ _ _ h => h) (Or.inl ⟨by rfl, ?_⟩) HH.out ?_
    rotate_left
    · intro w hSw; go_simp; try with_reducible rfl
    change wpAnyH _ _ _ _ _ _ _ (Act.put _ (some 51) _) _
    simp only [Act.put, List.setIfInBounds_toArray, List.set_cons_zero, List.set_cons_succ]
    refine wpAnyH_take (i := 8) (v := ?_) rfl (by kernel_rfl) (by kernel_rfl) (by kernel_rfl) (fun _ _ _ h => h) (Or.inl ⟨by rfl, ?_⟩) HH.out ?_
    rotate_left
    · intro w hSw; go_simp; try with_reducible rfl
    change wpAnyH _ _ _ _ _ _ _ (Act.put _ (some 52) _) _
    simp only [Act.put, List.setIfInBounds_toArray, List.set_cons_zero, List.set_cons_succ]
    refine wpAnyH_ready (rs := [9]) (by kernel_rfl) (by simp) ?_
    refine AllReadyH.cons rfl (fun K hK => ?_) AllReadyH.nil
    refine step_any rfl (op_store1 rfl one32 rfl rfl (by rfl) (hb2.ext (by (repeat (first | with_reducible exact Ext.refl _ | with_reducible assumption | refine Ext.trans ?_ (by with_reducible assumption) | refine Ext.alloc ?_ _ _ | refine Ext.drew ?_ | refine Ext.drewN ?_ _)))) (by omega) ?_)
    rintro W8 b8 m8
    refine hK.out _ _ ?_ (fun hHeld => ?_)
    · exact HH.out.trans m8
    clear hK K HH
    have HH : Hid (Mod (fun x => x = b2) W0 _) := hHeld
    clear hHeld
    change wpAnyH _ _ _ _ _ _ _ (Act.put _ none _) _
    simp only [Act.put, List.setIfInBounds_toArray, List.set_cons_zero, List.set_cons_succ]
    refine wpAnyH_done (by kernel_rfl) ?_ _
    have hr : NL (Mu own2) w6 (.slice ro L.length rc) L := ⟨ro, rc, rfl, r1, r2, r3⟩
    have eX : Ext X w6 := by (repeat (first | with_reducible exact Ext.refl _ | with_reducible assumption | refine Ext.trans ?_ (by with_reducible assumption) | refine Ext.alloc ?_ _ _ | refine Ext.drew ?_ | refine Ext.drewN ?_ _))
    go_wp2
    go_ret
    have hfin := modA_end (f := fun y => { y with code := L }) (c3 := updv c5 (i * 29 + 25) (.slice ro L.length rc)) (i := i) (h2.ext eX) (by rw [hml]; exact hv2) hlc2 hcm2 hob2 hil2 (fun j hj => (hrows2 j hj).ext eX) b8 (fun j hj => updv_ne _ _ (by omega)) m8 (fun _ => rfl) (fun own' w' K => acct_setCode ((hrows2 i hil2).ext eX) (K.nl hr))
    refine ⟨rfl, own2, c4, ?_, (VStep.ext ((Ext.refl w).alloc (av a) 31)).trans (s1.trans (s2.trans ((VStep.ext eX).trans hfin.2)))⟩
    have hV : V.putCode a L = ((V.need a).push ⟨2, i, 0, 0, N, false⟩).modA i (fun y => { y with code := L }) := by
      unfold EV.putCode EV.opA
      rw [hi.out, hN.out]; rfl
    rw [hV]
    exact hfin.1
  · go_simp
    refine hK.out _ _ ?_ (fun hHeld => ?_)
    · exact hS1
    clear hK K
    refine wpAnyH_ready (rs := [4]) (by kernel_rfl) (by simp) ?_
    refine AllReadyH.cons rfl (fun K hK => ?_) AllReadyH.nil
    go_simp
    refine hK.out _ _ ?_ (fun hHeld => ?_)
    · exact hS1
    clear hK K
    refine wpAnyH_ready (rs := [16]) (by kernel_rfl) (by simp) ?_
    refine AllReadyH.cons rfl (fun K hK => ?_) AllReadyH.nil
    refine step_append1 rfl (.tmp 29) (.tmp 40) 93 rfl 227 Hvah.t227 _ 9 under80 info219 zero219 size219 rfl bytes219 (.slice oj n capj) n bj cj HA (by have := hn.out; omega) ⟨w2.heap.size, 0, none⟩ 1 (#[.int .u8 2, .int .i32 (i : Nat), .int .u64 0, .int .u64 0, .int .u64 0, .int .u64 0, .int .u64 0, .slice oc nl cpc, .bool false] : Array Value).toList rfl (World.news_of_block (heap_new _ _)) hone (by simp [Act.eval]) (by simp [Act.eval]) ?_
    rintro v' W b' c' hG
    refine hK.out _ _ ?_ (fun hHeld => ?_)
    · exact HS2 _ _ _ _ hG
    clear hK K
    change wpAnyH _ _ _ _ _ _ _ (Act.put _ (some 41) _) _
    simp only [Act.put, List.setIfInBounds_toArray, List.set_cons_zero, List.set_cons_succ]
    refine wpAnyH_take (i := 17) (v := ?_) rfl (by kernel_rfl) (by kernel_rfl) (by kernel_rfl) (fun _ _ _ h => h) (Or.inl ⟨by rfl, ?_⟩) hHeld ?_
    rotate_left
    · intro w hSw; go_simp; try with_reducible rfl
    change wpAnyH _ _ _ _ _ _ _ (Act.put _ (some 42) _) _
    simp only [Act.put, List.setIfInBounds_toArray, List.set_cons_zero, List.set_cons_succ]
    refine wpAnyH_take (i := 18) (v := ?_) rfl (by kernel_rfl) (by kernel_rfl) (by kernel_rfl) (fun _ _ _ h => h) (Or.inl ⟨by rfl, ?_⟩) hHeld ?_
    rotate_left
    · intro w hSw; go_simp; try with_reducible rfl
    change wpAnyH _ _ _ _ _ _ _ (Act.put _ (some 43) _) _
    simp only [Act.put, List.setIfInBounds_toArray, List.set_cons_zero, List.set_cons_succ]
    have hBW := (h1.blk.ext hE2).mod (HBW _ _ _ _ hG) (fun q => by have := h1.tag; rw [q.1, q.2] at this; omega)
    have kg := hBW.cell (i := 10629) (by omega)
    have kf := hBW.fz
    have hSW := HS2 _ _ _ _ hG
    obtain ⟨capj', rfl⟩ := hG.some
    refine wpAnyH_ready (rs := [19]) (by kernel_rfl) (by simp) ?_
    refine AllReadyH.cons rfl (fun K hK => ?_) AllReadyH.nil
    go_simp
    refine hK.out _ _ ?_ (fun hHeld => ?_)
    · exact ⟨cx_set hSW.1 (by omega), cx_set hSW.2 (fun q => hbg q.1)⟩
    clear hK K
    refine wpAnyH_done (by kernel_rfl) ?_ _
    clear hHeld
    obtain ⟨own2, c4, h2, s2⟩ := push_end (e := ⟨2, i, 0, 0, N, false⟩) (z := #[.int .u8 2, .int .i32 (i : Nat), .int .u64 0, .int .u64 0, .int .u64 0, .int .u64 0, .int .u64 0, .slice oc nl cpc, .bool false]) h1 (by rw [hnJ]; exact hJ) ⟨fun _ => hil, fun q => by simp at q, fun q => by simp at q, by simp⟩ hE2 (by rw [hvj, hnJ, hn.out]; exact hTag) hJR (by rw [hvj, hnJ, hn.out]; exact hG)
      (fun own' w' c3 o K hnw => ⟨hnw 0 _ rfl, hnw 1 _ rfl, hnw 2 _ rfl, WAt.zero4 (q := 3) hnw rfl rfl rfl rfl, by rw [hnw 7 _ rfl]; exact K.nl hcd', hnw 8 _ rfl, by show (2 : Nat) ≤ 10; decide, by have := h1.nA; show i < 16384; omega, by show (0 : Nat) < _; decide, P256_pos⟩)
    refine w_gen (fun X => VRep own2 X g c4 ((V.need a).push ⟨2, i, 0, 0, N, false⟩) ∧ VStep own1 w2 c1 own2 X c4) ⟨h2, s2⟩ ?_
    rintro X ⟨h2, s2⟩
    clear hSW kf kg hBW hG HS2 HBW hS0 hS1 k0 kj hfz HA hone
    have hixp : ((V.need a).push ⟨2, i, 0, 0, N, false⟩).ix a = some i := by have := need_ix V a; rw [hi.out] at this; exact this
    obtain ⟨b2, cap2, c5, hv2, hil2, hlc2, hcm2, hb2, hob2, hrows2, hA2, hin2⟩ := h2.acctAt hixp
    have hml : ((V.need a).push ⟨2, i, 0, 0, N, false⟩).accts.length = m := hm.out
    rw [hml] at hv2
    have k0 := h2.blk.cell (i := 2435) (by omega)
    rw [hv2] at k0
    have kf := hb2.fz
    have hvX : NL (Mu own2) X (.slice ov lv cv) L := s2.nl (s1.nl (hv0.ext ((Ext.refl w).alloc (av a) 31)))
    have HC := fun W (hW : Ext X W) => vCopied (Mu own2) _ _ W (h2.ext hW).small (hvX.ext hW)
    have hgb2 : ¬ g = b2 := fun q => by have := h2.tag; rw [q, hob2] at this; omega
    clear hA hb hrows hJR hArn hTag HR HAc
    go_upto_region 7 with (fail)
    refine w_ext ?_
    rintro W0 hW0
    refine wp_region_held_drew (S := fun w' => Mod (fun x => x = b2) W0 w') (by kernel_rfl) (Mod.refl _ _).drew (fun hHeld => ?_)
    have HH : Hid (Mod (fun x => x = b2) W0 _) := hHeld
    clear hHeld
    refine wpAnyH_take (i := 0) (v := ?_) rfl (by kernel_rfl) (by kernel_rfl) (by kernel_rfl) (fun _ _ _ h => h) (Or.inl ⟨by rfl, ?_⟩) HH.out ?_
    rotate_left
    · intro w hSw; go_simp; try with_reducible rfl
    change wpAnyH _ _ _ _ _ _ _ (Act.put _ (some 44) _) _
    simp only [Act.put, List.setIfInBounds_toArray, List.set_cons_zero, List.set_cons_succ]
    refine wpAnyH_take (i := 1) (v := ?_) rfl (by kernel_rfl) (by kernel_rfl) (by kernel_rfl) (fun _ _ _ h => h) (Or.inl ⟨by rfl, ?_⟩) HH.out ?_
    rotate_left
    · intro w hSw; go_simp; try with_reducible rfl
    change wpAnyH _ _ _ _ _ _ _ (Act.put _ (some 45) _) _
    simp only [Act.put, List.setIfInBounds_toArray, List.set_cons_zero, List.set_cons_succ]
    refine wpAnyH_take (i := 2) (v := ?_) rfl (by kernel_rfl) (by kernel_rfl) (by kernel_rfl) (fun _ _ _ h => h) (Or.inl ⟨by rfl, ?_⟩) HH.out ?_
    rotate_left
    · intro w hSw; go_simp; try with_reducible rfl
    change wpAnyH _ _ _ _ _ _ _ (Act.put _ (some 46) _) _
    simp only [Act.put, List.setIfInBounds_toArray, List.set_cons_zero, List.set_cons_succ]
    refine wpAnyH_take (i := 3) rfl (by kernel_rfl) (by kernel_rfl) (by kernel_rfl) (fun _ _ _ h => h) (yieldsIf_load1 (by rfl) _ _ rfl _ _ rfl one77 _ (fun w hSw => by rw [((h2.blk.ext (show Ext X W0 from by (repeat (first | with_reducible exact Ext.refl _ | with_reducible assumption | refine Ext.trans ?_ (by with_reducible assumption) | refine Ext.alloc ?_ _ _ | refine Ext.drew ?_ | refine Ext.drewN ?_ _)))).mod hSw hgb2).cell (by omega), hv2])) HH.out ?_
    change wpAnyH _ _ _ _ _ _ _ (Act.put _ (some 47) _) _
    simp only [Act.put, List.setIfInBounds_toArray, List.set_cons_zero, List.set_cons_succ]
    refine wpAnyH_take (i := 4) (v := ?_) rfl (by kernel_rfl) (by kernel_rfl) (by kernel_rfl) (fun _ _ _ h => h) (Or.inl ⟨by rfl, ?_⟩) HH.out ?_
    rotate_left
    · intro w hSw; go_simp; try with_reducible rfl
    change wpAnyH _ _ _ _ _ _ _ (Act.put _ (some 48) _) _
    simp only [Act.put, List.setIfInBounds_toArray, List.set_cons_zero, List.set_cons_succ]
    refine wpAnyH_take (i := 5) (v := ?_) rfl (by kernel_rfl) (by kernel_rfl) (by kernel_rfl) (fun _ _ _ h => h) (Or.inl ⟨by rfl, ?_⟩) HH.out ?_
    rotate_left
    · intro w hSw; go_simp; try with_reducible rfl
    change wpAnyH _ _ _ _ _ _ _ (Act.put _ (some 49) _) _
    simp only [Act.put, List.setIfInBounds_toArray, List.set_cons_zero, List.set_cons_succ]
    refine wpAnyH_ready (rs := [6]) (by kernel_rfl) (by simp) ?_
    refine AllReadyH.cons rfl (fun K hK => ?_) AllReadyH.nil
    go_simp
    go_at_call 86; refine (HC _ (by (repeat (first | with_reducible exact Ext.refl _ | with_reducible assumption | refine Ext.trans ?_ (by with_reducible assumption) | refine Ext.alloc ?_ _ _ | refine Ext.drew ?_ | refine Ext.drewN ?_ _)))).mono ?_; rintro e w6 ⟨r, rfl, hr, he⟩; obtain ⟨ro, rc, rfl, r1, r2, r3⟩ := hr
    refine hK.out _ _ ?_ (fun hHeld => ?_)
    · first | exact HH.out.trans hmY | exact HH.out.trans_ext he | exact HH.out
    clear hK K HH
    have HH : Hid (Mod (fun x => x = b2) W0 _) := hHeld
    clear hHeld
    refine wpAnyH_take (i := 7) (v := ?_) rfl (by kernel_rfl) (by kernel_rfl) (by kernel_rfl) (fun _ _ _ h => h) (Or.inl ⟨by rfl, ?_⟩) HH.out ?_
    rotate_left
    · intro w hSw; go_simp; try with_reducible rfl
    change wpAnyH _ _ _ _ _ _ _ (Act.put _ (some 51) _) _
    simp only [Act.put, List.setIfInBounds_toArray, List.set_cons_zero, List.set_cons_succ]
    refine wpAnyH_take (i := 8) (v := ?_) rfl (by kernel_rfl) (by kernel_rfl) (by kernel_rfl) (fun _ _ _ h => h) (Or.inl ⟨by rfl, ?_⟩) HH.out ?_
    rotate_left
    · intro w hSw; go_simp; try with_reducible rfl
    change wpAnyH _ _ _ _ _ _ _ (Act.put _ (some 52) _) _
    simp only [Act.put, List.setIfInBounds_toArray, List.set_cons_zero, List.set_cons_succ]
    refine wpAnyH_ready (rs := [9]) (by kernel_rfl) (by simp) ?_
    refine AllReadyH.cons rfl (fun K hK => ?_) AllReadyH.nil
    refine step_any rfl (op_store1 rfl one32 rfl rfl (by rfl) (hb2.ext (by (repeat (first | with_reducible exact Ext.refl _ | with_reducible assumption | refine Ext.trans ?_ (by with_reducible assumption) | refine Ext.alloc ?_ _ _ | refine Ext.drew ?_ | refine Ext.drewN ?_ _)))) (by omega) ?_)
    rintro W8 b8 m8
    refine hK.out _ _ ?_ (fun hHeld => ?_)
    · exact HH.out.trans m8
    clear hK K HH
    have HH : Hid (Mod (fun x => x = b2) W0 _) := hHeld
    clear hHeld
    change wpAnyH _ _ _ _ _ _ _ (Act.put _ none _) _
    simp only [Act.put, List.setIfInBounds_toArray, List.set_cons_zero, List.set_cons_succ]
    refine wpAnyH_done (by kernel_rfl) ?_ _
    have hr : NL (Mu own2) w6 (.slice ro L.length rc) L := ⟨ro, rc, rfl, r1, r2, r3⟩
    have eX : Ext X w6 := by (repeat (first | with_reducible exact Ext.refl _ | with_reducible assumption | refine Ext.trans ?_ (by with_reducible assumption) | refine Ext.alloc ?_ _ _ | refine Ext.drew ?_ | refine Ext.drewN ?_ _))
    go_wp2
    go_ret
    have hfin := modA_end (f := fun y => { y with code := L }) (c3 := updv c5 (i * 29 + 25) (.slice ro L.length rc)) (i := i) (h2.ext eX) (by rw [hml]; exact hv2) hlc2 hcm2 hob2 hil2 (fun j hj => (hrows2 j hj).ext eX) b8 (fun j hj => updv_ne _ _ (by omega)) m8 (fun _ => rfl) (fun own' w' K => acct_setCode ((hrows2 i hil2).ext eX) (K.nl hr))
    refine ⟨rfl, own2, c4, ?_, (VStep.ext ((Ext.refl w).alloc (av a) 31)).trans (s1.trans (s2.trans ((VStep.ext eX).trans hfin.2)))⟩
    have hV : V.putCode a L = ((V.need a).push ⟨2, i, 0, 0, N, false⟩).modA i (fun y => { y with code := L }) := by
      unfold EV.putCode EV.opA
      rw [hi.out, hN.out]; rfl
    rw [hV]
    exact hfin.1
end
end Go.Proofs.YgvahwGreat
