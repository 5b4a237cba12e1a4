import Derived.Test.YgvahwGreatVaultG
import Derived.Test.YgvahwGreatVaultH0
namespace Go.Proofs.YgvahwGreat
open Go.RowKit
attribute [local go_sem] wv_fold

/-- The cells of a slot that is new. -/
abbrev slotZ (i k : Nat) : Array Value := #[.int .i32 (i : Nat), .int .u64 (lim k 0 : Nat), .int .u64 (lim k 1 : Nat), .int .u64 (lim k 2 : Nat), .int .u64 (lim k 3 : Nat), .int .u64 0, .int .u64 0, .int .u64 0, .int .u64 0, .int .u64 0, .int .u64 0, .int .u64 0, .int .u64 0, .bool false]
theorem lim_zero (k : Nat) : lim 0 k = 0 := by simp [lim]
theorem WAt.zero {c : Nat → Value} {o : Nat} (h0 : c o = .int .u64 0) (h1 : c (o + 1) = .int .u64 0) (h2 : c (o + 2) = .int .u64 0) (h3 : c (o + 3) = .int .u64 0) : WAt c o 0 :=
  ⟨by rw [lim_zero]; exact h0, by rw [lim_zero]; exact h1, by rw [lim_zero]; exact h2, by rw [lim_zero]; exact h3⟩
theorem slotZ_new {i k o : Nat} {c : Nat → Value} (hi : i < 2560) (hk : k < P256) (hc : ∀ j u, (slotZ i k).toList[j]? = some u → c (o + j) = u) : SlotC c o (ESlot.new i k) where
  acct := hc 0 _ rfl
  aLt := hi
  key := ⟨hc 1 _ rfl, hc 2 _ rfl, hc 3 _ rfl, hc 4 _ rfl⟩
  kLt := hk
  val := WAt.zero (hc 5 _ rfl) (hc 6 _ rfl) (hc 7 _ rfl) (hc 8 _ rfl)
  vLt := P256_pos
  orig := WAt.zero (hc 9 _ rfl) (hc 10 _ rfl) (hc 11 _ rfl) (hc 12 _ rfl)
  oLt := P256_pos
  warm := hc 13 _ rfl
theorem under78 : Hvah.prog.underlying 91 = some (.slice 185) := by kernel_rfl
theorem info177 : Hvah.prog.info? 185 = some Hvah.t185 := by kernel_rfl
theorem zero177 : Hvah.t185.zero = some (.agg #[.int .i32 0, .int .u64 0, .int .u64 0, .int .u64 0, .int .u64 0, .int .u64 0, .int .u64 0, .int .u64 0, .int .u64 0, .int .u64 0, .int .u64 0, .int .u64 0, .int .u64 0, .bool false]) := by kernel_rfl
theorem size177 : Hvah.t185.size = 14 := by kernel_rfl
theorem bytes177 : Hvah.t185.bytes ≤ 4096 := by decide +kernel
theorem slotZ_one (i k : Nat) : ∀ u ∈ (slotZ i k).toList, u.oneCell' = true := fun u hu => by
  simp only [List.mem_cons, List.not_mem_nil, or_false] at hu
  rcases hu with h | h | h | h | h | h | h | h | h | h | h | h | h | h <;> subst h <;> rfl
theorem slot_end {own : Nat → Nat} {w w1 W : World} {g i k d b b' : Nat} {c c2 c' : Nat → Value} {V : EV} {t : Nat → Int} {v' : Value} (h : VRep own w g c V) (hi : i < V.accts.length) (hk : k < P256) (hj : ixG ESlot.kc (i, k) V.slots = none) (hroom : V.slots.length < 2560)
    (ht : ∀ p, p < 4096 → c (6533 + p) = .int .i32 (t p)) (hT : TOK 4096 V.slots.length (fun i => mixP (V.slots.getD i (ESlot.new 0 0)).acct (V.slots.getD i (ESlot.new 0 0)).key % 4096) t) (hd : d < 4096) (hfree : t ((mixP i k % 4096 + d) % 4096) = -1) (hbusy : ∀ e, e < d → 0 ≤ t ((mixP i k % 4096 + e) % 4096))
    (hE : Ext w w1) (hTag : ∀ cap, c 2436 = .slice (some ⟨b, 0, none⟩) V.slots.length cap → own b = 2) (hRows : ∀ (i : Nat) (h : i < V.slots.length), SlotC c2 (i * 14) V.slots[i])
    (hG : Grown ((w1.alloc (.cells (slotZ i k) 185)).drew) 185 14 (c 2436) V.slots.length b c2 (slotZ i k).toList v' W b' c') :
    ∃ own' c'', VRep own' ((W.setCell ⟨g, 2436, none⟩ v').setCell ⟨g, 6533 + (mixP i k % 4096 + d) % 4096, none⟩ (.int .i32 (V.slots.length : Nat))) g c'' (V.needS i k) ∧ VStep own w c own' ((W.setCell ⟨g, 2436, none⟩ v').setCell ⟨g, 6533 + (mixP i k % 4096 + d) % 4096, none⟩ (.int .i32 (V.slots.length : Nat))) c'' := by
  have hP : (mixP i k % 4096 + d) % 4096 < 4096 := Nat.mod_lt _ (by decide)
  obtain ⟨P, hPe⟩ : ∃ P, P = (mixP i k % 4096 + d) % 4096 := ⟨_, rfl⟩
  rw [← hPe] at hP ⊢
  have hE0 : Ext w ((w1.alloc (.cells (slotZ i k) 185)).drew) := (hE.alloc _ _).drew
  have hB0 := h.blk.ext hE0
  have hgb : b' ≠ g ∧ (b' < w.heap.size → own b' = 2) ∧ Blk W g 27024 105 c ∧ Mod (fun x => x = g ∨ own x = 2) w W := by
    rcases hG.how with ⟨e, ⟨cp, hc⟩, hm⟩ | ⟨e, hx⟩
    · have h1 := hTag cp hc
      have hne : b ≠ g := fun e2 => by have := h.tag; rw [← e2, h1] at this; omega
      refine ⟨by rw [e]; exact hne, fun _ => by rw [e]; exact h1, hB0.mod hm (fun e2 => hne e2.symm), (hE0.mod _).trans' hm (fun x hx => Or.inl (Or.inr (by rw [hx]; exact h1)))⟩
    · have hs := hE0.size
      have hg := h.blk.lt
      exact ⟨by rw [e]; omega, fun h1 => by rw [e] at h1; omega, hB0.ext hx, (hE0.mod _).trans_ext hx⟩
  obtain ⟨hbg, hbt, hBW, hMW⟩ := hgb
  obtain ⟨own', hown⟩ : ∃ own' : Nat → Nat, own' = fun x => if x = b' then 2 else own x := ⟨_, rfl⟩
  have ho1 : own' b' = 2 := by rw [hown]; simp
  have ho2 : ∀ x, x ≠ b' → own' x = own x := fun x hx => by rw [hown]; simp [hx]
  have hkeep : ∀ x, x < w.heap.size → own' x = own x := fun x hx => by
    by_cases e : x = b'
    · subst e; rw [ho1, hbt hx]
    · exact ho2 x e
  have hMF : Mod (fun x => x = g ∨ own x = 2) w ((W.setCell ⟨g, 2436, none⟩ v').setCell ⟨g, 6533 + P, none⟩ (.int .i32 (V.slots.length : Nat))) := (hMW.setCell (Or.inl (Or.inl rfl)) _).setCell (Or.inl (Or.inl rfl)) _
  have K : Keep own own' g 2 w ((W.setCell ⟨g, 2436, none⟩ v').setCell ⟨g, 6533 + P, none⟩ (.int .i32 (V.slots.length : Nat))) := ⟨hkeep, hMF, h.tag, by decide⟩
  have hBF := (hBW.set 2436 v').set (6533 + P) (.int .i32 (V.slots.length : Nat))
  have hcF : ∀ i, i ≠ 2436 → i ≠ 6533 + P → updv (updv c 2436 v') (6533 + P) (.int .i32 (V.slots.length : Nat)) i = c i := fun i h1 h2 => by rw [updv_ne _ _ h2, updv_ne _ _ h1]
  have hc0 : updv (updv c 2436 v') (6533 + P) (.int .i32 (V.slots.length : Nat)) 2436 = v' := by rw [updv_ne _ _ (by omega), updv_same]
  have hc1 : updv (updv c 2436 v') (6533 + P) (.int .i32 (V.slots.length : Nat)) (6533 + P) = .int .i32 (V.slots.length : Nat) := updv_same _ _ _
  obtain ⟨cF, hcFe⟩ : ∃ cF, cF = updv (updv c 2436 v') (6533 + P) (.int .i32 (V.slots.length : Nat)) := ⟨_, rfl⟩
  rw [← hcFe] at hBF hcF hc0 hc1
  have e2 : V.needS i k = { V with slots := V.slots ++ [ESlot.new i k] } := by unfold EV.needS; rw [hj]; simp
  have hsF : W.heap.size = ((W.setCell ⟨g, 2436, none⟩ v').setCell ⟨g, 6533 + P, none⟩ (.int .i32 (V.slots.length : Nat))).heap.size := by simp [World.setCell]
  have hb'W : b' < W.heap.size := by
    rcases hG.arn with ⟨q, _⟩ | ⟨cp, _, _, _, q⟩
    · omega
    · exact q.lt
  refine ⟨own', cF, ?_, hkeep, fun x hx => hcF x (by omega) (by omega), hMF.sub (fun x hx => ?_)⟩
  · rw [e2]
    refine ⟨hBF, by rw [ho2 g hbg.symm]; exact h.tag, fun x hx => ?_, by rw [← e2]; exact needS_wf h.wf hi k, ⟨fun e he => fits_more (h.jok.fits e he) (Nat.le_refl _) (by simp) (Nat.le_refl _), h.jok.marks, h.jok.fall⟩, h.nA, by simp; omega, h.nT, h.nJ, h.nL, h.nM, ?_, ?_, ?_, ?_, ?_, ?_, ?_, ?_, ?_, ?_, ?_, h.rLt⟩
    · rw [← hsF] at hx
      rw [ho2 x (by omega)]
      exact h.fresh x (Nat.le_trans hMW.size hx)
    · rw [hcF 2435 (by omega) (by omega)]; exact K.row h.accts (fun _ _ _ k => K.acct (fun _ _ => rfl) k) (by decide) (by decide)
    · rw [hc0]
      have hp : GRow 185 14 SlotC (Ow own' 2) W v' (V.slots ++ [ESlot.new i k]) :=
        GRow.push hG hRows (fun c c' o y hc hy => slot_move hc hy) (fun hnew => slotZ_new (by have := h.nA; omega) hk hnew) ho1
      exact hp.mono (fun _ _ _ k => k) (fun _ _ k => k) (fun b n t c hb hT => (hb.off (by unfold Ow at hT; intro e; rw [e, ho2 g hbg.symm, h.tag] at hT; omega)).off (by unfold Ow at hT; intro e; rw [e, ho2 g hbg.symm, h.tag] at hT; omega))
    · rw [hcF 27017 (by omega) (by omega)]; exact K.row h.temps (fun _ _ _ k => k) (by decide) (by decide)
    · rw [hcF 10629 (by omega) (by omega)]; exact K.row h.jrn (fun _ _ _ k => K.je (fun _ _ => rfl) k) (by decide) (by decide)
    · rw [hcF 27016 (by omega) (by omega)]; exact K.row h.logs (fun _ _ _ k => K.log (fun _ _ => rfl) k) (by decide) (by decide)
    · obtain ⟨t2, q1, q2⟩ := h.tA
      exact ⟨t2, fun p hp => by rw [hcF _ (by omega) (by omega)]; exact q1 p hp, q2⟩
    · refine ⟨fun p => if p = P then (V.slots.length : Int) else t p, fun p hp => ?_, ?_⟩
      · by_cases e : p = P
        · subst e; rw [hc1]; simp
        · rw [hcF _ (by omega) (by omega)]
          show c (6533 + p) = .int .i32 (if p = P then _ else t p)
          rw [if_neg e]; exact ht p hp
      · have hT' : TOK 4096 V.slots.length (fun j => mixP ((V.slots ++ [ESlot.new i k]).getD j (ESlot.new 0 0)).acct ((V.slots ++ [ESlot.new i k]).getD j (ESlot.new 0 0)).key % 4096) t := hT.congr (fun j hj => by
          simp only [List.getD_eq_getElem?_getD]; rw [List.getElem?_append_left hj])
        have hme : mixP ((V.slots ++ [ESlot.new i k]).getD V.slots.length (ESlot.new 0 0)).acct ((V.slots ++ [ESlot.new i k]).getD V.slots.length (ESlot.new 0 0)).key % 4096 = mixP i k % 4096 := by simp [ESlot.new]
        have := hT'.put hd (by simp only [hme]; exact hfree) (fun e he => by simp only [hme]; exact hbusy e he)
        simp only [hme, ← hPe] at this
        simpa using this
    · rw [hcF 27018 (by omega) (by omega)]
      rcases h.tT with q | ⟨t2, q1, q2⟩
      · exact Or.inl q
      · exact Or.inr ⟨t2, K.tab q1 (by decide), q2⟩
    · intro id hid
      have := h.nM
      rw [hcF _ (by omega) (by omega)]; exact h.marks id hid
    · rw [hcF 27014 (by omega) (by omega)]; exact h.nm
    · rw [hcF 27015 (by omega) (by omega)]; exact h.ref
  · rcases hx with e | e
    · subst e; rw [h.tag]; exact ⟨by decide, by decide⟩
    · rw [e]; exact ⟨by decide, by decide⟩

section
variable {own : Nat → Nat} {w : World} {g : Nat} {c : Nat → Value} {V : EV} {i k : Nat}
theorem vFindS_some (h : VRep own w g c V) (hi : i < 2560) (hk : k < P256) {j : Nat} (hj : ixG ESlot.kc (i, k) V.slots = some j) (W : World) (hW : Ext w W) :
    Calls Hvah.prog 169 #[.pointer (some ⟨g, 2435, none⟩), .int .i32 i, wv k] W fun e w' => e = .returned (.tuple #[.int .i32 j, .int .i32 (-1)]) ∧ Ext W w' := by
  obtain ⟨t, h1, h2⟩ := h.tS
  refine (vFindSlot _ g i k c V.slots t W hi hk (h.blk.ext hW) h.nS h.wf.s1 ((h.ext hW).slots) h1 h2).mono ?_
  rintro e w' ⟨a, f, rfl, hf, he⟩
  rcases hf with ⟨q, hq, rfl, rfl⟩ | ⟨hq, _⟩
  · rw [hj] at hq; cases hq
    exact ⟨rfl, he⟩
  · rw [hj] at hq; cases hq
theorem vFindS_none (h : VRep own w g c V) (hi : i < 2560) (hk : k < P256) (hj : ixG ESlot.kc (i, k) V.slots = none) : ∃ t : Nat → Int, ∃ d : Nat, (∀ p, p < 4096 → c (6533 + p) = .int .i32 (t p)) ∧ TOK 4096 V.slots.length (fun i => mixP (V.slots.getD i (ESlot.new 0 0)).acct (V.slots.getD i (ESlot.new 0 0)).key % 4096) t ∧
    d < 4096 ∧ t ((mixP i k % 4096 + d) % 4096) = -1 ∧ (∀ e, e < d → 0 ≤ t ((mixP i k % 4096 + e) % 4096)) ∧
    ∀ W, Ext w W → Calls Hvah.prog 169 #[.pointer (some ⟨g, 2435, none⟩), .int .i32 i, wv k] W fun e w' => e = .returned (.tuple #[.int .i32 (-1), .int .i32 ((mixP i k % 4096 + d) % 4096 : Nat)]) ∧ Ext W w' := by
  obtain ⟨t, h1, h2⟩ := h.tS
  obtain ⟨d, hd⟩ := h2.first (Nat.lt_of_le_of_lt h.nS (by decide)) (mixP i k % 4096)
  refine ⟨t, d, h1, h2, hd.1, hd.2.1, hd.2.2, fun W hW => ?_⟩
  refine (vFindSlot _ g i k c V.slots t W hi hk (h.blk.ext hW) h.nS h.wf.s1 ((h.ext hW).slots) h1 h2).mono ?_
  rintro e w' ⟨a, f, rfl, hf, he⟩
  rcases hf with ⟨q, hq, _⟩ | ⟨_, rfl, d', p1, rfl, p2, p3⟩
  · rw [hj] at hq; cases hq
  · have : d' = d := by
      rcases Nat.lt_trichotomy d' d with q | q | q
      · have := hd.2.2 d' q; omega
      · exact q
      · have := p3 d q; omega
    subst this
    exact ⟨rfl, he⟩
set_option maxRecDepth 100000 in
set_option maxHeartbeats 1600000 in
theorem vSlot (h : VRep own w g c V) (hi : i < V.accts.length) (hk : k < P256) (hroom : ixG ESlot.kc (i, k) V.slots = none → V.slots.length < 2560) :
    Calls Hvah.prog 93 #[.pointer (some ⟨g, 2435, none⟩), .int .i32 i, wv k] w fun e w' => e = .returned (.tuple #[.int .i32 (V.atS i k : Nat), .bool true]) ∧ ∃ own' c', VRep own' w' g c' (V.needS i k) ∧ VStep own w c own' w' c' := by
  have hi' : i < 2560 := Nat.lt_of_lt_of_le hi h.nA
  cases hj : ixG ESlot.kc (i, k) V.slots with
  | some j =>
    have HF := vFindS_some h hi' hk hj
    have e1 : V.atS i k = j := by unfold EV.atS; rw [hj]; rfl
    have e2 : V.needS i k = V := by unfold EV.needS; rw [hj]; simp
    rw [e1, e2]
    go_enter Hvah.func93, Hvah.ntmps93
    go_wp2_with (first | (go_at_call 169; refine (HF _ ((Ext.refl _).alloc _ _)).mono ?_; rintro e w1 ⟨rfl, he⟩))
    go_ret2
    have hE := ((Ext.refl w).alloc #[.int .u64 (lim k 0 : Nat), .int .u64 (lim k 1 : Nat), .int .u64 (lim k 2 : Nat), .int .u64 (lim k 3 : Nat)] 79).trans he
    exact ⟨rfl, own, c, h.ext hE, VStep.ext hE⟩
  | none =>
    obtain ⟨t, d, ht, hT, hd, hfree, hbusy, HF⟩ := vFindS_none h hi' hk hj
    have hroom := hroom hj
    have hP : (mixP i k % 4096 + d) % 4096 < 4096 := Nat.mod_lt _ (by decide)
    obtain ⟨P, hPe⟩ : ∃ P, Hid ((mixP i k % 4096 + d) % 4096 = P) := ⟨_, (rfl : (mixP i k % 4096 + d) % 4096 = _)⟩
    rw [hPe.out] at hP
    simp only [hPe.out] at HF
    have hPi : (P : Int) < 4096 := by omega
    obtain ⟨b, c2, hArn, hTag, hRows⟩ := h.slots.arn
    obtain ⟨v, hv⟩ : ∃ v, Hid (c 2436 = v) := ⟨_, (rfl : c 2436 = _)⟩
    have hlen : ∃ o cap, v = .slice o V.slots.length cap := by
      rw [← hv.out]
      rcases h.slots with ⟨q1, q2⟩ | ⟨b, cap, c3, q1, _⟩
      · rw [q1, q2]; exact ⟨none, 0, rfl⟩
      · exact ⟨_, _, q1⟩
    obtain ⟨o, cap, rfl⟩ := hlen
    rw [hv.out] at hArn hTag
    obtain ⟨n, hn⟩ : ∃ n, Hid (V.slots.length = n) := ⟨_, (rfl : V.slots.length = _)⟩
    rw [hn.out] at hArn hTag hv hroom
    have hni : (n : Int) < 2560 := by omega
    go_enter Hvah.func93, Hvah.ntmps93
    go_wp2_with (first | (go_at_call 169; refine (HF _ ((Ext.refl _).alloc _ _)).mono ?_; rintro e w1 ⟨rfl, he⟩; have hE := ((Ext.refl w).alloc #[.int .u64 (lim k 0 : Nat), .int .u64 (lim k 1 : Nat), .int .u64 (lim k 2 : Nat), .int .u64 (lim k 3 : Nat)] 79).trans he; have k0 := (h.blk.ext hE).cell (i := 2436) (by omega); rw [hv.out] at k0; have hfz := (h.blk.ext hE).fz; have kb := cell_there ((he.block w.heap.size (by simp)).trans (heap_new _ _)); obtain ⟨q0, q1, q2, q3⟩ := kb))
    have hB1 := h.blk.ext hE
    have hlt := hB1.lt
    have hlt2 : w.heap.size < w1.heap.size := Nat.lt_of_lt_of_le (by simp) he.size
    have HA : ∀ W, Ext w W → Arn W 185 14 (.slice o n cap) n b c2 := fun W hW => by
      rcases hArn with h1 | ⟨cp, h1, h2, h3, h4⟩
      · exact Or.inl h1
      · exact Or.inr ⟨cp, h1, h2, h3, h4.ext hW⟩
    have HBW : ∀ v' W b' c', Grown ((w1.alloc (.cells (slotZ i k) 185)).drew) 185 14 (.slice o n cap) n b c2 (slotZ i k).toList v' W b' c' → Blk W g 27024 105 c := fun v' W b' c' hG => by
      have hB2 := (hB1.alloc (slotZ i k) 185).drew
      rcases hG.how with ⟨_, ⟨cp, hc⟩, hm⟩ | ⟨_, hx⟩
      · have h1 := hTag cp hc
        exact hB2.mod hm (fun e => by have := h.tag; rw [e, h1] at this; omega)
      · exact hB2.ext hx
    go_region_law (refine step_append1 rfl (.tmp 40) (.tmp 44) 91 rfl 185 Hvah.t185 _ 14 under78 info177 zero177 size177 rfl bytes177 (.slice o n cap) n b c2 (HA _ ((hE.alloc _ _).drew)) (by omega) ⟨w1.heap.size, 0, none⟩ 1 (slotZ i k).toList (by simp) (World.news_of_block (heap_new _ _)) (slotZ_one i k) (by simp [Act.eval]) (by simp [Act.eval]) ?_; rintro v' W b' c' hG; have hBW := HBW _ _ _ _ hG; have kg := hBW.cell (i := 2436) (by omega); have kf := hBW.fz; obtain ⟨cap', rfl⟩ := hG.some)
    all_goals
      have hR := slot_end h hi hk hj (by rw [hn.out]; omega) ht hT hd hfree hbusy hE (by rw [hv.out, hn.out]; exact hTag) hRows (by rw [hv.out, hn.out]; exact hG)
      rw [hPe.out, hn.out] at hR
      refine w_gen (fun X => Blk X g 27024 105 (updv c 2436 (.slice (some ⟨b', 0, none⟩) (n + 1) cap')) ∧ X = W.setCell ⟨g, 2436, none⟩ (.slice (some ⟨b', 0, none⟩) (n + 1) cap')) ⟨hBW.set _ _, rfl⟩ ?_
      rintro X ⟨hBX, hXe⟩
      rw [← hXe] at hR
      have kp := hBX.cell (i := 6533 + P) (by omega)
      have kf2 := hBX.fz
      have hat : V.atS i k = n := by unfold EV.atS; rw [hj]; exact hn.out
      clear hXe hBW kg kf hG k0 hfz hB1 HA HBW q0 q1 q2 q3
      go_wp2
      go_ret2
      exact ⟨by rw [hat]; rfl, hR⟩
end
end Go.Proofs.YgvahwGreat
