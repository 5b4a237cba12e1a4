import Derived.Test.YgvahwGreatVaultM
namespace Go.Proofs.YgvahwGreat
open Go.RowKit
attribute [local go_sem] wv_fold

theorem under80 : Hvah.prog.underlying 93 = some (.slice 227) := by kernel_rfl
theorem info219 : Hvah.prog.info? 227 = some Hvah.t227 := by kernel_rfl
theorem zero219 : Hvah.t227.zero = some (.agg #[.int .u8 0, .int .i32 0, .int .u64 0, .int .u64 0, .int .u64 0, .int .u64 0, .int .u64 0, .slice none 0 0, .bool false]) := by kernel_rfl
theorem size219 : Hvah.t227.size = 9 := by kernel_rfl
theorem bytes219 : Hvah.t227.bytes ≤ 4096 := by decide +kernel
theorem cx_ext {w w' : World} {b o : Nat} {v : Value} (h : w.cell? ⟨b, o, none⟩ = some v) (hb : b < w.heap.size) (e : Ext w w') : w'.cell? ⟨b, o, none⟩ = some v := by rw [e.rc _ _ hb]; exact h
theorem cx_mod {S : Nat → Prop} {w w' : World} {b o : Nat} {v : Value} (h : w.cell? ⟨b, o, none⟩ = some v) (hb : b < w.heap.size) (hS : ¬ S b) (e : Mod S w w') : w'.cell? ⟨b, o, none⟩ = some v := by rw [e.cell (p := ⟨b, o, none⟩) hb hS]; exact h
theorem cx_set {w : World} {b o g i : Nat} {v u : Value} (h : w.cell? ⟨b, o, none⟩ = some v) (hb : ¬ (b = g ∧ o = i)) : (w.setCell ⟨g, i, none⟩ u).cell? ⟨b, o, none⟩ = some v := by
  by_cases q : b = g
  · subst q
    have hne : ¬ i = o := fun e => hb ⟨rfl, e.symm⟩
    unfold World.cell? at *
    simp only [World.setCell, Array.getElem?_modify, if_true]
    cases hh : w.heap[b]? with
    | none => rw [hh] at h; cases h
    | some ob =>
      rw [hh] at h
      cases ob <;> simp_all
  · rw [World.cell?_of_block (w := w) (Below.heap_setCell _ _ _ _ q)]; exact h
/-- A field of an account set. -/
theorem acct_setNonce {own own' : Nat → Nat} {g k o n : Nat} {w w' : World} {c : Nat → Value} {x : EAcct} (K : Keep own own' g k w w') (h : AcctC (Mu own) w c o x) (hn : n < 18446744073709551616) : AcctC (Mu own') w' (updv c (o + 20) (.int .u64 (n : Nat))) o { x with nonce := n } := by
  have hc : ∀ j, j < 29 → j ≠ 20 → updv c (o + 20) (.int .u64 (n : Nat)) (o + j) = c (o + j) := fun j _ h2 => updv_ne _ _ (by omega)
  refine ⟨fun i v hv => ?_, h.aLt, updv_same _ _ _, hn, ⟨?_, ?_, ?_, ?_⟩, h.bLt, ?_, ?_, ?_, ?_⟩
  · have hi := (Array.getElem?_eq_some_iff.1 hv).1
    rw [av_size h.aLt] at hi
    rw [hc i (by omega) (by omega)]; exact h.addr i v hv
  · rw [hc 21 (by omega) (by omega)]; exact h.bal.c0
  · rw [Nat.add_assoc, hc 22 (by omega) (by omega)]; exact h.bal.c1
  · rw [Nat.add_assoc, hc 23 (by omega) (by omega)]; exact h.bal.c2
  · rw [Nat.add_assoc, hc 24 (by omega) (by omega)]; exact h.bal.c3
  · rw [hc 25 (by omega) (by omega)]; exact K.nl h.code
  · rw [hc 26 (by omega) (by omega)]; exact h.warm
  · rw [hc 27 (by omega) (by omega)]; exact h.made
  · rw [hc 28 (by omega) (by omega)]; exact h.gone
theorem WAt.zero4 {c : Nat → Value} {o : Nat} {z : Array Value} {q : Nat} (hn : ∀ j u, z.toList[j]? = some u → c (o + j) = u) (h0 : z.toList[q]? = some (.int .u64 0)) (h1 : z.toList[q + 1]? = some (.int .u64 0)) (h2 : z.toList[q + 2]? = some (.int .u64 0)) (h3 : z.toList[q + 3]? = some (.int .u64 0)) : WAt c (o + q) 0 :=
  WAt.zero (hn _ _ h0) (by rw [Nat.add_assoc]; exact hn _ _ h1) (by rw [Nat.add_assoc]; exact hn _ _ h2) (by rw [Nat.add_assoc]; exact hn _ _ h3)
section
variable {own : Nat → Nat} {w : World} {g : Nat} {c : Nat → Value} {V : EV} {a : Nat}
set_option maxRecDepth 100000 in
set_option maxHeartbeats 1600000 in
theorem vPutNonce (x : Nat) (h : VRep own w g c V) (ha : a < 2 ^ 160) (hx : x < 18446744073709551616) (hJ : V.journal.length < 65536) (hroom : V.ix a = none → V.accts.length < 2560) :
    Calls Hvah.prog 105 #[.pointer (some ⟨g, 2435, none⟩), .agg (av a), .int .u64 x] w fun e w' => e = .returned (.bool true) ∧ ∃ own' c', VRep own' w' g c' (V.putNonce a x) ∧ VStep own w c own' w' c' := by
  have HR : ∀ W, Ext w W → Calls Hvah.prog 179 #[.pointer (some ⟨g, 2435, none⟩)] W fun e w' => e = .returned (.bool true) ∧ w' = W := fun W hW => by
    have := vRoom (h.ext hW); rw [decide_eq_true hJ] at this; exact this
  have HAc : ∀ W, Ext w W → Calls Hvah.prog 91 #[.pointer (some ⟨g, 2435, none⟩), .agg (av a)] W fun e w' => e = .returned (.tuple #[.int .i32 (V.at_ a : Nat), .bool true]) ∧ ∃ own' c', VRep own' w' g c' (V.need a) ∧ VStep own W c own' w' c' := fun W hW => vAcct (h.ext hW) ha hroom
  have hat := (need_len V a).2.2
  have hget := need_get V h.wf a hat
  have hnJ : (V.need a).journal = V.journal := by unfold EV.need; split <;> rfl
  obtain ⟨i, hi⟩ : ∃ i, Hid (V.at_ a = i) := ⟨_, (rfl : V.at_ a = _)⟩
  rw [hi.out] at HAc
  go_enter Hvah.func105, Hvah.ntmps105
  go_wp2_with (first | ((with_reducible (refine Veil.out ?_; apply wl_box)); (case hx => rfl)) | ((with_reducible (refine Veil.out ?_; apply wl_load_av (n := a))); (case hn => exact ha); (case hx => rfl); (case hr => exact row_box a (Ext.refl _))) | (go_at_call 179; refine (HR _ ((Ext.refl _).alloc _ _)).mono ?_; rintro e w1 ⟨rfl, rfl⟩) | (go_at_call 91; refine (HAc _ ((Ext.refl _).alloc _ _)).mono ?_; rintro e w2 ⟨rfl, own1, c1, h1, s1⟩))
  obtain ⟨b, cap, c2, hv, hil, hlc, hcm, hb, hob, hrows, hA, hin⟩ := h1.acctAt (need_ix V a)
  rw [hi.out] at hA hin hil
  have hil' : (i : Int) < (V.need a).accts.length := by omega
  obtain ⟨m, hm⟩ : ∃ m, Hid ((V.need a).accts.length = m) := ⟨_, (rfl : (V.need a).accts.length = _)⟩
  rw [hm.out] at hv hil'
  rw [(need_ex V a).acct] at hA
  obtain ⟨N, hN⟩ : ∃ N, Hid ((V.acct a).nonce = N) := ⟨_, (rfl : (V.acct a).nonce = _)⟩
  obtain ⟨bj, cj, hArn, hTag, hJR⟩ := h1.jrn.arn
  rw [List.length_reverse, hnJ] at hArn hTag
  obtain ⟨oj, capj, hvj⟩ : ∃ o cap, c1 10629 = .slice o V.journal.length cap := by
    rcases hArn with ⟨q1, q2⟩ | ⟨cp, q1, _⟩
    · exact ⟨none, 0, by rw [q1]; exact q2⟩
    · exact ⟨_, _, q1⟩
  obtain ⟨n, hn⟩ : ∃ n, Hid (V.journal.length = n) := ⟨_, (rfl : V.journal.length = _)⟩
  rw [hn.out] at hvj hArn hTag
  have hArn0 := hArn
  rw [hvj] at hArn hTag
  have k0 := h1.blk.cell (i := 2435) (by omega)
  have kj := h1.blk.cell (i := 10629) (by omega)
  have k1 := hb.cell (i := i * 29 + 20) (by omega)
  rw [hv] at k0
  rw [hvj] at kj
  rw [hA.nonce, hN.out] at k1
  have hfz := h1.blk.fz
  have hlt := h1.blk.lt
  have hltb := hb.lt
  have hbg : b ≠ g := fun q => by have := h1.tag; rw [← q, hob] at this; omega
  have hS0 : w2.drew.cell? ⟨g, 2435, none⟩ = some (.slice (some ⟨b, 0, none⟩) m cap) ∧ w2.drew.cell? ⟨b, i * 29 + 20, none⟩ = some (.int .u64 (N : Nat)) := ⟨k0, k1⟩
  have hS1 : ((w2.alloc (.cells #[.int .u8 1, .int .i32 (i : Nat), .int .u64 (N : Nat), .int .u64 0, .int .u64 0, .int .u64 0, .int .u64 0, .slice none 0 0, .bool false] 227)).drew).cell? ⟨g, 2435, none⟩ = some (.slice (some ⟨b, 0, none⟩) m cap) ∧ ((w2.alloc (.cells #[.int .u8 1, .int .i32 (i : Nat), .int .u64 (N : Nat), .int .u64 0, .int .u64 0, .int .u64 0, .int .u64 0, .slice none 0 0, .bool false] 227)).drew).cell? ⟨b, i * 29 + 20, none⟩ = some (.int .u64 (N : Nat)) := ⟨cx_ext hS0.1 hlt ((Ext.refl w2.drew).alloc _ _), cx_ext hS0.2 hltb ((Ext.refl w2.drew).alloc _ _)⟩
  have HBW : ∀ v' W b' c', Grown ((w2.alloc (.cells #[.int .u8 1, .int .i32 (i : Nat), .int .u64 (N : Nat), .int .u64 0, .int .u64 0, .int .u64 0, .int .u64 0, .slice none 0 0, .bool false] 227)).drew) 227 9 (.slice oj n capj) n bj cj (#[.int .u8 1, .int .i32 (i : Nat), .int .u64 (N : Nat), .int .u64 0, .int .u64 0, .int .u64 0, .int .u64 0, .slice none 0 0, .bool false] : Array Value).toList v' W b' c' → Mod (fun x => x = bj ∧ own1 bj = 3) ((w2.alloc (.cells #[.int .u8 1, .int .i32 (i : Nat), .int .u64 (N : Nat), .int .u64 0, .int .u64 0, .int .u64 0, .int .u64 0, .slice none 0 0, .bool false] 227)).drew) W := fun v' W b' c' hG => by
    rcases hG.how with ⟨_, ⟨cp, hc⟩, hmm⟩ | ⟨_, hx⟩
    · exact hmm.sub (fun x hx => ⟨hx, hTag cp hc⟩)
    · exact hx.mod _
  have hs2 : w2.heap.size < ((w2.alloc (.cells #[.int .u8 1, .int .i32 (i : Nat), .int .u64 (N : Nat), .int .u64 0, .int .u64 0, .int .u64 0, .int .u64 0, .slice none 0 0, .bool false] 227)).drew).heap.size := by simp
  have hE2 : Ext w2 ((w2.alloc (.cells #[.int .u8 1, .int .i32 (i : Nat), .int .u64 (N : Nat), .int .u64 0, .int .u64 0, .int .u64 0, .int .u64 0, .slice none 0 0, .bool false] 227)).drew) := ((Ext.refl _).alloc _ _).drew
  have HS2 : ∀ v' W b' c', Grown ((w2.alloc (.cells #[.int .u8 1, .int .i32 (i : Nat), .int .u64 (N : Nat), .int .u64 0, .int .u64 0, .int .u64 0, .int .u64 0, .slice none 0 0, .bool false] 227)).drew) 227 9 (.slice oj n capj) n bj cj (#[.int .u8 1, .int .i32 (i : Nat), .int .u64 (N : Nat), .int .u64 0, .int .u64 0, .int .u64 0, .int .u64 0, .slice none 0 0, .bool false] : Array Value).toList v' W b' c' → W.cell? ⟨g, 2435, none⟩ = some (.slice (some ⟨b, 0, none⟩) m cap) ∧ W.cell? ⟨b, i * 29 + 20, none⟩ = some (.int .u64 (N : Nat)) := fun v' W b' c' hG =>
    ⟨cx_mod hS1.1 (by omega) (fun q => by have := h1.tag; rw [q.1, q.2] at this; omega) (HBW _ _ _ _ hG), cx_mod hS1.2 (by omega) (fun q => by rw [q.1, q.2] at hob; omega) (HBW _ _ _ _ hG)⟩
  have HA : Arn ((w2.alloc (.cells #[.int .u8 1, .int .i32 (i : Nat), .int .u64 (N : Nat), .int .u64 0, .int .u64 0, .int .u64 0, .int .u64 0, .slice none 0 0, .bool false] 227)).drew) 227 9 (.slice oj n capj) n bj cj := by
    rcases hArn with q | ⟨cp, q1, q2, q3, q4⟩
    · exact Or.inl q
    · exact Or.inr ⟨cp, q1, q2, q3, q4.ext hE2⟩
  refine wp_region_held_drew (S := fun w' => w'.cell? ⟨g, 2435, none⟩ = some (.slice (some ⟨b, 0, none⟩) m cap) ∧ w'.cell? ⟨b, i * 29 + 20, none⟩ = some (.int .u64 (N : Nat))) (by kernel_rfl) hS0 (fun hHeld => ?_)
  refine wpAnyH_take (i := 0) (v := ?_) rfl (by kernel_rfl) (by kernel_rfl) (by kernel_rfl) (fun _ _ _ h => h) (Or.inl ⟨by rfl, ?_⟩) hHeld ?_
  rotate_left
  · intro w hSw; go_simp; try with_reducible rfl
  change wpAnyH _ _ _ _ _ _ _ (Act.put _ (some 20) _) _
  simp only [Act.put, List.setIfInBounds_toArray, List.set_cons_zero, List.set_cons_succ]
  refine wpAnyH_take (i := 1) (v := ?_) rfl (by kernel_rfl) (by kernel_rfl) (by kernel_rfl) (fun _ _ _ h => h) (Or.inl ⟨by rfl, ?_⟩) hHeld ?_
  rotate_left
  · intro w hSw; go_simp; try with_reducible rfl
  change wpAnyH _ _ _ _ _ _ _ (Act.put _ (some 21) _) _
  simp only [Act.put, List.setIfInBounds_toArray, List.set_cons_zero, List.set_cons_succ]
  refine wpAnyH_take (i := 2) (v := ?_) rfl (by kernel_rfl) (by kernel_rfl) (by kernel_rfl) (fun _ _ _ h => h) (Or.inl ⟨by rfl, ?_⟩) hHeld ?_
  rotate_left
  · intro w hSw; go_simp; try with_reducible rfl
  change wpAnyH _ _ _ _ _ _ _ (Act.put _ (some 22) _) _
  simp only [Act.put, List.setIfInBounds_toArray, List.set_cons_zero, List.set_cons_succ]
  refine wpAnyH_take (i := 3) (v := ?_) rfl (by kernel_rfl) (by kernel_rfl) (by kernel_rfl) (fun _ _ _ h => h) (Or.inl ⟨by rfl, ?_⟩) hHeld ?_
  rotate_left
  · intro w hSw; go_simp; try with_reducible rfl
  change wpAnyH _ _ _ _ _ _ _ (Act.put _ (some 23) _) _
  simp only [Act.put, List.setIfInBounds_toArray, List.set_cons_zero, List.set_cons_succ]
  refine wpAnyH_take (i := 5) (v := ?_) rfl (by kernel_rfl) (by kernel_rfl) (by kernel_rfl) (fun _ _ _ h => h) (Or.inl ⟨by rfl, ?_⟩) hHeld ?_
  rotate_left
  · intro w hSw; go_simp; try with_reducible rfl
  change wpAnyH _ _ _ _ _ _ _ (Act.put _ (some 25) _) _
  simp only [Act.put, List.setIfInBounds_toArray, List.set_cons_zero, List.set_cons_succ]
  refine wpAnyH_take (i := 6) (v := ?_) rfl (by kernel_rfl) (by kernel_rfl) (by kernel_rfl) (fun _ _ _ h => h) (Or.inl ⟨by rfl, ?_⟩) hHeld ?_
  rotate_left
  · intro w hSw; go_simp; try with_reducible rfl
  change wpAnyH _ _ _ _ _ _ _ (Act.put _ (some 26) _) _
  simp only [Act.put, List.setIfInBounds_toArray, List.set_cons_zero, List.set_cons_succ]
  refine wpAnyH_take (i := 7) (v := ?_) rfl (by kernel_rfl) (by kernel_rfl) (by kernel_rfl) (fun _ _ _ h => h) (Or.inl ⟨by rfl, ?_⟩) hHeld ?_
  rotate_left
  · intro w hSw; go_simp; try with_reducible rfl
  change wpAnyH _ _ _ _ _ _ _ (Act.put _ (some 27) _) _
  simp only [Act.put, List.setIfInBounds_toArray, List.set_cons_zero, List.set_cons_succ]
  refine wpAnyH_take (i := 8) (v := ?_) rfl (by kernel_rfl) (by kernel_rfl) (by kernel_rfl) (fun _ _ _ h => h) (Or.inl ⟨by rfl, ?_⟩) hHeld ?_
  rotate_left
  · intro w hSw; go_simp; try with_reducible rfl
  change wpAnyH _ _ _ _ _ _ _ (Act.put _ (some 28) _) _
  simp only [Act.put, List.setIfInBounds_toArray, List.set_cons_zero, List.set_cons_succ]
  refine wpAnyH_take (i := 9) (v := ?_) rfl (by kernel_rfl) (by kernel_rfl) (by kernel_rfl) (fun _ _ _ h => h) (Or.inl ⟨by rfl, ?_⟩) hHeld ?_
  rotate_left
  · intro w hSw; go_simp; try with_reducible rfl
  change wpAnyH _ _ _ _ _ _ _ (Act.put _ (some 29) _) _
  simp only [Act.put, List.setIfInBounds_toArray, List.set_cons_zero, List.set_cons_succ]
  refine wpAnyH_take (i := 10) (v := ?_) rfl (by kernel_rfl) (by kernel_rfl) (by kernel_rfl) (fun _ _ _ h => h) (Or.inl ⟨by rfl, ?_⟩) hHeld ?_
  rotate_left
  · intro w hSw; go_simp; try with_reducible rfl
  change wpAnyH _ _ _ _ _ _ _ (Act.put _ (some 30) _) _
  simp only [Act.put, List.setIfInBounds_toArray, List.set_cons_zero, List.set_cons_succ]
  refine wpAnyH_take (i := 11) (v := ?_) rfl (by kernel_rfl) (by kernel_rfl) (by kernel_rfl) (fun _ _ _ h => h) (Or.inl ⟨by rfl, ?_⟩) hHeld ?_
  rotate_left
  · intro w hSw; go_simp; try with_reducible rfl
  change wpAnyH _ _ _ _ _ _ _ (Act.put _ (some 31) _) _
  simp only [Act.put, List.setIfInBounds_toArray, List.set_cons_zero, List.set_cons_succ]
  refine wpAnyH_take (i := 12) (v := ?_) rfl (by kernel_rfl) (by kernel_rfl) (by kernel_rfl) (fun _ _ _ h => h) (Or.inl ⟨by rfl, ?_⟩) hHeld ?_
  rotate_left
  · intro w hSw; go_simp; try with_reducible rfl
  change wpAnyH _ _ _ _ _ _ _ (Act.put _ (some 32) _) _
  simp only [Act.put, List.setIfInBounds_toArray, List.set_cons_zero, List.set_cons_succ]
  refine wpAnyH_take (i := 13) (v := ?_) rfl (by kernel_rfl) (by kernel_rfl) (by kernel_rfl) (fun _ _ _ h => h) (Or.inl ⟨by rfl, ?_⟩) hHeld ?_
  rotate_left
  · intro w hSw; go_simp; try with_reducible rfl
  change wpAnyH _ _ _ _ _ _ _ (Act.put _ (some 33) _) _
  simp only [Act.put, List.setIfInBounds_toArray, List.set_cons_zero, List.set_cons_succ]
  refine wpAnyH_take (i := 14) (v := ?_) rfl (by kernel_rfl) (by kernel_rfl) (by kernel_rfl) (fun _ _ _ h => h) (Or.inl ⟨by rfl, ?_⟩) hHeld ?_
  rotate_left
  · intro w hSw; go_simp; try with_reducible rfl
  change wpAnyH _ _ _ _ _ _ _ (Act.put _ (some 34) _) _
  simp only [Act.put, List.setIfInBounds_toArray, List.set_cons_zero, List.set_cons_succ]
  have hone : ∀ u ∈ (#[.int .u8 1, .int .i32 (i : Nat), .int .u64 (N : Nat), .int .u64 0, .int .u64 0, .int .u64 0, .int .u64 0, .slice none 0 0, .bool false] : Array Value).toList, u.oneCell' = true := fun u hu => by
    simp only [List.mem_cons, List.not_mem_nil, or_false] at hu
    rcases hu with q | q | q | q | q | q | q | q | q <;> subst q <;> rfl
  have hNl : N < 18446744073709551616 := by rw [← hN.out]; exact hA.nLt
  refine wpAnyH_ready (rs := [4, 15]) (by kernel_rfl) (by simp) ?_
  refine AllReadyH.cons rfl (fun K hK => ?_) (AllReadyH.cons rfl (fun K hK => ?_) AllReadyH.nil)
  · go_simp
    refine hK.out _ _ ?_ (fun hHeld => ?_)
    · exact hS0
    clear hK K
    refine wpAnyH_ready (rs := [15]) (by kernel_rfl) (by simp) ?_
    refine AllReadyH.cons rfl (fun K hK => ?_) AllReadyH.nil
    go_simp
    refine hK.out _ _ ?_ (fun hHeld => ?_)
    · exact hS1
    clear hK K
    refine wpAnyH_ready (rs := [16]) (by kernel_rfl) (by simp) ?_
    refine AllReadyH.cons rfl (fun K hK => ?_) AllReadyH.nil
    refine step_append1 rfl (.tmp 24) (.tmp 35) 93 rfl 227 Hvah.t227 _ 9 under80 info219 zero219 size219 rfl bytes219 (.slice oj n capj) n bj cj HA (by have := hn.out; omega) ⟨w2.heap.size, 0, none⟩ 1 (#[.int .u8 1, .int .i32 (i : Nat), .int .u64 (N : Nat), .int .u64 0, .int .u64 0, .int .u64 0, .int .u64 0, .slice none 0 0, .bool false] : Array Value).toList rfl (World.news_of_block (heap_new _ _)) hone (by simp [Act.eval]) (by simp [Act.eval]) ?_
    rintro v' W b' c' hG
    refine hK.out _ _ ?_ (fun hHeld => ?_)
    · exact HS2 _ _ _ _ hG
    clear hK K
    change wpAnyH _ _ _ _ _ _ _ (Act.put _ (some 36) _) _
    simp only [Act.put, List.setIfInBounds_toArray, List.set_cons_zero, List.set_cons_succ]
    refine wpAnyH_take (i := 17) (v := ?_) rfl (by kernel_rfl) (by kernel_rfl) (by kernel_rfl) (fun _ _ _ h => h) (Or.inl ⟨by rfl, ?_⟩) hHeld ?_
    rotate_left
    · intro w hSw; go_simp; try with_reducible rfl
    change wpAnyH _ _ _ _ _ _ _ (Act.put _ (some 37) _) _
    simp only [Act.put, List.setIfInBounds_toArray, List.set_cons_zero, List.set_cons_succ]
    refine wpAnyH_take (i := 18) (v := ?_) rfl (by kernel_rfl) (by kernel_rfl) (by kernel_rfl) (fun _ _ _ h => h) (Or.inl ⟨by rfl, ?_⟩) hHeld ?_
    rotate_left
    · intro w hSw; go_simp; try with_reducible rfl
    change wpAnyH _ _ _ _ _ _ _ (Act.put _ (some 38) _) _
    simp only [Act.put, List.setIfInBounds_toArray, List.set_cons_zero, List.set_cons_succ]
    have hBW := (h1.blk.ext hE2).mod (HBW _ _ _ _ hG) (fun q => by have := h1.tag; rw [q.1, q.2] at this; omega)
    have kg := hBW.cell (i := 10629) (by omega)
    have kf := hBW.fz
    have hSW := HS2 _ _ _ _ hG
    obtain ⟨capj', rfl⟩ := hG.some
    refine wpAnyH_ready (rs := [19]) (by kernel_rfl) (by simp) ?_
    refine AllReadyH.cons rfl (fun K hK => ?_) AllReadyH.nil
    go_simp
    refine hK.out _ _ ?_ (fun hHeld => ?_)
    · exact ⟨cx_set hSW.1 (by omega), cx_set hSW.2 (fun q => hbg q.1)⟩
    clear hK K
    refine wpAnyH_done (by kernel_rfl) ?_ _
    clear hHeld
    obtain ⟨own2, c4, h2, s2⟩ := push_end (e := ⟨1, i, N, 0, [], false⟩) (z := #[.int .u8 1, .int .i32 (i : Nat), .int .u64 (N : Nat), .int .u64 0, .int .u64 0, .int .u64 0, .int .u64 0, .slice none 0 0, .bool false]) h1 (by rw [hnJ]; exact hJ) ⟨fun _ => hil, fun q => by simp at q, fun q => by simp at q, by simp⟩ hE2 (by rw [hvj, hnJ, hn.out]; exact hTag) hJR (by rw [hvj, hnJ, hn.out]; exact hG)
      (fun own' w' c3 o K hnw => ⟨hnw 0 _ rfl, hnw 1 _ rfl, hnw 2 _ rfl, WAt.zero4 (q := 3) hnw rfl rfl rfl rfl, by rw [hnw 7 _ rfl]; exact NL.nil, hnw 8 _ rfl, by show (1 : Nat) ≤ 10; decide, by have := h1.nA; show i < 16384; omega, hNl, P256_pos⟩)
    refine w_gen (fun X => VRep own2 X g c4 ((V.need a).push ⟨1, i, N, 0, [], false⟩) ∧ VStep own1 w2 c1 own2 X c4) ⟨h2, s2⟩ ?_
    rintro X ⟨h2, s2⟩
    clear hSW kf kg hBW hG HS2 HBW hS0 hS1 k0 k1 kj hfz HA
    have hixp : ((V.need a).push ⟨1, i, N, 0, [], false⟩).ix a = some i := by have := need_ix V a; rw [hi.out] at this; exact this
    obtain ⟨b2, cap2, c5, hv2, hil2, hlc2, hcm2, hb2, hob2, hrows2, hA2, hin2⟩ := h2.acctAt hixp
    have hml : ((V.need a).push ⟨1, i, N, 0, [], false⟩).accts.length = m := hm.out
    rw [hml] at hv2
    have k0 := h2.blk.cell (i := 2435) (by omega)
    rw [hv2] at k0
    have k1 := hb2.cell (i := i * 29 + 20) (by omega)
    have kf := hb2.fz
    go_wp2
    go_ret
    have hfin := modA_end (f := fun y => { y with nonce := x }) (c3 := updv c5 (i * 29 + 20) (.int .u64 (x : Nat))) (i := i) h2 (by rw [hml]; exact hv2) hlc2 hcm2 hob2 hil2 hrows2 (hb2.set (i * 29 + 20) (.int .u64 (x : Nat))) (fun j hj => updv_ne _ _ (by omega)) ((Mod.refl (· = b2) X).setCell (Or.inl rfl) _) (fun _ => rfl) (fun own' w' K => acct_setNonce K (hrows2 i hil2) hx)
    refine ⟨rfl, own2, c4, ?_, (VStep.ext ((Ext.refl w).alloc (av a) 31)).trans (s1.trans (s2.trans hfin.2))⟩
    have hV : V.putNonce a x = ((V.need a).push ⟨1, i, N, 0, [], false⟩).modA i (fun y => { y with nonce := x }) := by
      unfold EV.putNonce EV.opA
      rw [hi.out, hN.out]; rfl
    rw [hV]
    exact hfin.1
  · go_simp
    refine hK.out _ _ ?_ (fun hHeld => ?_)
    · exact hS1
    clear hK K
    refine wpAnyH_ready (rs := [4]) (by kernel_rfl) (by simp) ?_
    refine AllReadyH.cons rfl (fun K hK => ?_) AllReadyH.nil
    go_simp
    refine hK.out _ _ ?_ (fun hHeld => ?_)
    · exact hS1
    clear hK K
    refine wpAnyH_ready (rs := [16]) (by kernel_rfl) (by simp) ?_
    refine AllReadyH.cons rfl (fun K hK => ?_) AllReadyH.nil
    refine step_append1 rfl (.tmp 24) (.tmp 35) 93 rfl 227 Hvah.t227 _ 9 under80 info219 zero219 size219 rfl bytes219 (.slice oj n capj) n bj cj HA (by have := hn.out; omega) ⟨w2.heap.size, 0, none⟩ 1 (#[.int .u8 1, .int .i32 (i : Nat), .int .u64 (N : Nat), .int .u64 0, .int .u64 0, .int .u64 0, .int .u64 0, .slice none 0 0, .bool false] : Array Value).toList rfl (World.news_of_block (heap_new _ _)) hone (by simp [Act.eval]) (by simp [Act.eval]) ?_
    rintro v' W b' c' hG
    refine hK.out _ _ ?_ (fun hHeld => ?_)
    · exact HS2 _ _ _ _ hG
    clear hK K
    change wpAnyH _ _ _ _ _ _ _ (Act.put _ (some 36) _) _
    simp only [Act.put, List.setIfInBounds_toArray, List.set_cons_zero, List.set_cons_succ]
    refine wpAnyH_take (i := 17) (v := ?_) rfl (by kernel_rfl) (by kernel_rfl) (by kernel_rfl) (fun _ _ _ h => h) (Or.inl ⟨by rfl, ?_⟩) hHeld ?_
    rotate_left
    · intro w hSw; go_simp; try with_reducible rfl
    change wpAnyH _ _ _ _ _ _ _ (Act.put _ (some 37) _) _
    simp only [Act.put, List.setIfInBounds_toArray, List.set_cons_zero, List.set_cons_succ]
    refine wpAnyH_take (i := 18) (v := ?_) rfl (by kernel_rfl) (by kernel_rfl) (by kernel_rfl) (fun _ _ _ h => h) (Or.inl ⟨by rfl, ?_⟩) hHeld ?_
    rotate_left
    · intro w hSw; go_simp; try with_reducible rfl
    change wpAnyH _ _ _ _ _ _ _ (Act.put _ (some 38) _) _
    simp only [Act.put, List.setIfInBounds_toArray, List.set_cons_zero, List.set_cons_succ]
    have hBW := (h1.blk.ext hE2).mod (HBW _ _ _ _ hG) (fun q => by have := h1.tag; rw [q.1, q.2] at this; omega)
    have kg := hBW.cell (i := 10629) (by omega)
    have kf := hBW.fz
    have hSW := HS2 _ _ _ _ hG
    obtain ⟨capj', rfl⟩ := hG.some
    refine wpAnyH_ready (rs := [19]) (by kernel_rfl) (by simp) ?_
    refine AllReadyH.cons rfl (fun K hK => ?_) AllReadyH.nil
    go_simp
    refine hK.out _ _ ?_ (fun hHeld => ?_)
    · exact ⟨cx_set hSW.1 (by omega), cx_set hSW.2 (fun q => hbg q.1)⟩
    clear hK K
    refine wpAnyH_done (by kernel_rfl) ?_ _
    clear hHeld
    obtain ⟨own2, c4, h2, s2⟩ := push_end (e := ⟨1, i, N, 0, [], false⟩) (z := #[.int .u8 1, .int .i32 (i : Nat), .int .u64 (N : Nat), .int .u64 0, .int .u64 0, .int .u64 0, .int .u64 0, .slice none 0 0, .bool false]) h1 (by rw [hnJ]; exact hJ) ⟨fun _ => hil, fun q => by simp at q, fun q => by simp at q, by simp⟩ hE2 (by rw [hvj, hnJ, hn.out]; exact hTag) hJR (by rw [hvj, hnJ, hn.out]; exact hG)
      (fun own' w' c3 o K hnw => ⟨hnw 0 _ rfl, hnw 1 _ rfl, hnw 2 _ rfl, WAt.zero4 (q := 3) hnw rfl rfl rfl rfl, by rw [hnw 7 _ rfl]; exact NL.nil, hnw 8 _ rfl, by show (1 : Nat) ≤ 10; decide, by have := h1.nA; show i < 16384; omega, hNl, P256_pos⟩)
    refine w_gen (fun X => VRep own2 X g c4 ((V.need a).push ⟨1, i, N, 0, [], false⟩) ∧ VStep own1 w2 c1 own2 X c4) ⟨h2, s2⟩ ?_
    rintro X ⟨h2, s2⟩
    clear hSW kf kg hBW hG HS2 HBW hS0 hS1 k0 k1 kj hfz HA
    have hixp : ((V.need a).push ⟨1, i, N, 0, [], false⟩).ix a = some i := by have := need_ix V a; rw [hi.out] at this; exact this
    obtain ⟨b2, cap2, c5, hv2, hil2, hlc2, hcm2, hb2, hob2, hrows2, hA2, hin2⟩ := h2.acctAt hixp
    have hml : ((V.need a).push ⟨1, i, N, 0, [], false⟩).accts.length = m := hm.out
    rw [hml] at hv2
    have k0 := h2.blk.cell (i := 2435) (by omega)
    rw [hv2] at k0
    have k1 := hb2.cell (i := i * 29 + 20) (by omega)
    have kf := hb2.fz
    go_wp2
    go_ret
    have hfin := modA_end (f := fun y => { y with nonce := x }) (c3 := updv c5 (i * 29 + 20) (.int .u64 (x : Nat))) (i := i) h2 (by rw [hml]; exact hv2) hlc2 hcm2 hob2 hil2 hrows2 (hb2.set (i * 29 + 20) (.int .u64 (x : Nat))) (fun j hj => updv_ne _ _ (by omega)) ((Mod.refl (· = b2) X).setCell (Or.inl rfl) _) (fun _ => rfl) (fun own' w' K => acct_setNonce K (hrows2 i hil2) hx)
    refine ⟨rfl, own2, c4, ?_, (VStep.ext ((Ext.refl w).alloc (av a) 31)).trans (s1.trans (s2.trans hfin.2))⟩
    have hV : V.putNonce a x = ((V.need a).push ⟨1, i, N, 0, [], false⟩).modA i (fun y => { y with nonce := x }) := by
      unfold EV.putNonce EV.opA
      rw [hi.out, hN.out]; rfl
    rw [hV]
    exact hfin.1
end
end Go.Proofs.YgvahwGreat
