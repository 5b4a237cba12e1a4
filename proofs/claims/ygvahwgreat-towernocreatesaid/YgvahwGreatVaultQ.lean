import Derived.Test.YgvahwGreatVaultP
namespace Go.Proofs.YgvahwGreat
open Go.RowKit
attribute [local go_sem] wv_fold
section
variable {own : Nat → Nat} {w : World} {g : Nat} {c : Nat → Value} {V : EV} {a k : Nat}
theorem VRep.slotsLen (h : VRep own w g c V) : ∃ o cap, c 2436 = .slice o V.slots.length cap := by
  rcases h.slots with ⟨q1, q2⟩ | ⟨b, cap, c3, q1, _⟩
  · rw [q1, q2]; exact ⟨none, 0, rfl⟩
  · exact ⟨_, _, q1⟩
set_option maxRecDepth 100000 in
set_option maxHeartbeats 1600000 in
theorem vSlotOf (h : VRep own w g c V) (ha : a < 2 ^ 160) (hk : k < P256) (hrA : V.ix a = none → V.accts.length < 2560) (hrS : V.slots.length < 2560) :
    Calls Hvah.prog 257 #[.pointer (some ⟨g, 2435, none⟩), .agg (av a), wv k] w fun e w' => e = .returned (.tuple #[.int .i32 (V.atAS a k : Nat), .bool true]) ∧ ∃ own' c', VRep own' w' g c' (V.needAS a k) ∧ VStep own w c own' w' c' := by
  obtain ⟨i, f, HF, hf⟩ : ∃ i f : Int, (∀ W, Ext w W → Calls Hvah.prog 168 #[.pointer (some ⟨g, 2435, none⟩), .agg (av a)] W fun e w' => e = .returned (.tuple #[.int .i32 i, .int .i32 f]) ∧ Ext W w') ∧ True := by
    cases hj : V.ix a with
    | some j => exact ⟨_, _, vFind_some h ha hj, trivial⟩
    | none =>
      obtain ⟨t, d, _, _, _, _, _, HF⟩ := vFind_none h ha hj
      exact ⟨_, _, HF, trivial⟩
  clear hf
  have HAc : ∀ W, Ext w W → Calls Hvah.prog 91 #[.pointer (some ⟨g, 2435, none⟩), .agg (av a)] W fun e w' => e = .returned (.tuple #[.int .i32 (V.at_ a : Nat), .bool true]) ∧ ∃ own' c', VRep own' w' g c' (V.need a) ∧ VStep own W c own' w' c' := fun W hW => vAcct (h.ext hW) ha hrA
  have hat := (need_len V a).2.2
  have hsl : (V.need a).slots = V.slots := by unfold EV.need; split <;> rfl
  have HSl : ∀ (own1 : Nat → Nat) (W : World) (c1 : Nat → Value), VRep own1 W g c1 (V.need a) → Calls Hvah.prog 93 #[.pointer (some ⟨g, 2435, none⟩), .int .i32 (V.at_ a : Nat), wv k] W fun e w' => e = .returned (.tuple #[.int .i32 (V.atAS a k : Nat), .bool true]) ∧ ∃ own' c', VRep own' w' g c' (V.needAS a k) ∧ VStep own1 W c1 own' w' c' := fun own1 W c1 h1 => vSlot h1 hat hk (fun _ => by rw [hsl]; exact hrS)
  obtain ⟨o, cap, hv⟩ := h.slotsLen
  generalize V.at_ a = p at *
  generalize V.atAS a k = q at *
  obtain ⟨n, hn⟩ : ∃ n, Hid (V.slots.length = n) := ⟨_, (rfl : V.slots.length = _)⟩
  rw [hn.out] at hv hrS
  have hni : (n : Int) < 2560 := by omega
  by_cases hneg : i < 0
  · go_enter Hvah.func257, Hvah.ntmps257
    go_wp2_with (first | ((with_reducible (refine Veil.out ?_; apply wl_box)); (case hx => rfl)) | ((with_reducible (refine Veil.out ?_; apply wl_load_av (n := a))); (case hn => exact ha); (case hx => rfl); (case hr => exact row_box a ((Ext.refl _).alloc _ _))) | (go_at_call 168; refine (HF _ (((Ext.refl _).alloc _ _).alloc _ _)).mono ?_; rintro e w1 ⟨rfl, he⟩; have hE := (((Ext.refl w).alloc (av a) 31).alloc #[.int .u64 (lim k 0 : Nat), .int .u64 (lim k 1 : Nat), .int .u64 (lim k 2 : Nat), .int .u64 (lim k 3 : Nat)] 79).trans he; have k0 := (h.blk.ext hE).cell (i := 2436) (by omega); rw [hv] at k0; have hra := row_box a (((Ext.refl (w.alloc (.cells (av a) 31))).alloc #[.int .u64 (lim k 0 : Nat), .int .u64 (lim k 1 : Nat), .int .u64 (lim k 2 : Nat), .int .u64 (lim k 3 : Nat)] 79).trans he); obtain ⟨q0, q1, q2, q3⟩ := cell_there ((he.block (w.heap.size + 1) (by simp)).trans (heap_new' _ _ (by simp)))) | ((with_reducible (refine Veil.out ?_; apply wl_load_av (n := a))); (case hn => exact ha); (case hx => rfl); (case hr => exact hra)) | (go_at_call 91; refine (HAc _ hE).mono ?_; rintro e w2 ⟨rfl, own1, c1, h1, s1⟩; have hy0 : own (w.heap.size + 1) = 0 := h.fresh _ (by omega); have hys : w.heap.size + 1 < w1.heap.size := Nat.lt_of_lt_of_le (by simp) he.size; have z0 := s1.cell0 hys hy0 q0; have z1 := s1.cell0 hys hy0 q1; have z2 := s1.cell0 hys hy0 q2; have z3 := s1.cell0 hys hy0 q3) | (go_at_call 93; refine (HSl _ _ _ h1).mono ?_; rintro e w3 ⟨rfl, own2, c2, h2, s2⟩))
    go_ret2
    exact ⟨rfl, own2, c2, h2, (VStep.ext hE).trans (s1.trans s2)⟩
  · go_enter Hvah.func257, Hvah.ntmps257
    go_wp2_with (first | ((with_reducible (refine Veil.out ?_; apply wl_box)); (case hx => rfl)) | ((with_reducible (refine Veil.out ?_; apply wl_load_av (n := a))); (case hn => exact ha); (case hx => rfl); (case hr => exact row_box a ((Ext.refl _).alloc _ _))) | (go_at_call 168; refine (HF _ (((Ext.refl _).alloc _ _).alloc _ _)).mono ?_; rintro e w1 ⟨rfl, he⟩; have hE := (((Ext.refl w).alloc (av a) 31).alloc #[.int .u64 (lim k 0 : Nat), .int .u64 (lim k 1 : Nat), .int .u64 (lim k 2 : Nat), .int .u64 (lim k 3 : Nat)] 79).trans he; have k0 := (h.blk.ext hE).cell (i := 2436) (by omega); rw [hv] at k0; have hra := row_box a (((Ext.refl (w.alloc (.cells (av a) 31))).alloc #[.int .u64 (lim k 0 : Nat), .int .u64 (lim k 1 : Nat), .int .u64 (lim k 2 : Nat), .int .u64 (lim k 3 : Nat)] 79).trans he); obtain ⟨q0, q1, q2, q3⟩ := cell_there ((he.block (w.heap.size + 1) (by simp)).trans (heap_new' _ _ (by simp)))) | ((with_reducible (refine Veil.out ?_; apply wl_load_av (n := a))); (case hn => exact ha); (case hx => rfl); (case hr => exact hra)) | (go_at_call 91; refine (HAc _ hE).mono ?_; rintro e w2 ⟨rfl, own1, c1, h1, s1⟩; have hy0 : own (w.heap.size + 1) = 0 := h.fresh _ (by omega); have hys : w.heap.size + 1 < w1.heap.size := Nat.lt_of_lt_of_le (by simp) he.size; have z0 := s1.cell0 hys hy0 q0; have z1 := s1.cell0 hys hy0 q1; have z2 := s1.cell0 hys hy0 q2; have z3 := s1.cell0 hys hy0 q3) | (go_at_call 93; refine (HSl _ _ _ h1).mono ?_; rintro e w3 ⟨rfl, own2, c2, h2, s2⟩))
    go_ret2
    exact ⟨rfl, own2, c2, h2, (VStep.ext hE).trans (s1.trans s2)⟩
/-- A slot of the arena is changed. -/
theorem modS_end {i b cap : Nat} {w' : World} {c2 c3 : Nat → Value} {f : ESlot → ESlot} (h : VRep own w g c V) (hv : c 2436 = .slice (some ⟨b, 0, none⟩) V.slots.length cap) (hcap : V.slots.length ≤ cap) (hcm : cap ≤ 9223372036854775807) (hb : own b = 2) (hi : i < V.slots.length)
    (hRows : ∀ (i : Nat) (h : i < V.slots.length), SlotC c2 (i * 14) V.slots[i]) (hB : Blk w' b (cap * 14) 185 c3) (hc : ∀ j, j < i * 14 ∨ (i + 1) * 14 ≤ j → c3 j = c2 j) (hm : Mod (· = b) w w')
    (hf : ∀ x, (f x).kc = x.kc) (hnew : SlotC c3 (i * 14) (f V.slots[i])) : VRep own w' g c (V.modS i f) ∧ VStep own w c own w' c := by
  have K : Keep own own g 2 w w' := ⟨fun _ _ => rfl, hm.sub (fun x hx => Or.inr (by rw [hx]; exact hb)), h.tag, by decide⟩
  have hne : g ≠ b := fun q => by have := h.tag; rw [q, hb] at this; omega
  have hlen : (V.modS i f).slots.length = V.slots.length := by simp [EV.modS]
  have hset : (V.modS i f).slots = V.slots.set i (f V.slots[i]) := by unfold EV.modS; exact modify_set _ _ _ hi
  refine ⟨⟨h.blk.mod hm hne, h.tag, fun x hx => h.fresh x (Nat.le_trans hm.size hx), WF_modS h.wf f hf, ⟨fun e he => fits_more (h.jok.fits e he) (Nat.le_refl _) (by rw [hlen]; exact Nat.le_refl _) (Nat.le_refl _), h.jok.marks, h.jok.fall⟩, h.nA, by rw [hlen]; exact h.nS, h.nT, h.nJ, h.nL, h.nM, K.row h.accts (fun _ _ _ k => K.acct (fun _ _ => rfl) k) (by decide) (by decide), ?_, K.row h.temps (fun _ _ _ k => k) (by decide) (by decide),
    K.row h.jrn (fun _ _ _ k => K.je (fun _ _ => rfl) k) (by decide) (by decide), K.row h.logs (fun _ _ _ k => K.log (fun _ _ => rfl) k) (by decide) (by decide), h.tA, ?_, ?_, h.marks, h.nm, h.ref, h.rLt⟩, fun _ _ => rfl, fun _ _ => rfl, hm.sub (fun x hx => by rw [hx, hb]; exact ⟨by decide, by decide⟩)⟩
  · rw [hset]
    exact GRow.change (R := SlotC) hv hcap hcm hB hb hRows i _ hc (fun c c' o y hc hy => slot_move hc hy) hnew
  · obtain ⟨t, q1, q2⟩ := h.tS
    refine ⟨t, q1, ?_⟩
    rw [hlen]
    refine q2.congr (fun j hj => ?_)
    rw [hset]
    have hk1 : (f V.slots[i]).acct = V.slots[i].acct := congrArg Prod.fst (hf V.slots[i])
    have hk2 : (f V.slots[i]).key = V.slots[i].key := congrArg Prod.snd (hf V.slots[i])
    simp only [List.getD_eq_getElem?_getD, List.getElem?_set]
    split
    · rename_i q; subst q; simp [hi, hk1, hk2]
    · rfl
  · rcases h.tT with q | ⟨t2, q1, q2⟩
    · exact Or.inl q
    · exact Or.inr ⟨t2, K.tab q1 (by decide), q2⟩
theorem slot_setWarm {o : Nat} {x : ESlot} (h : SlotC c o x) : SlotC (updv c (o + 13) (.bool true)) o { x with warm := true } := by
  have hc : ∀ j, j < 13 → updv c (o + 13) (.bool true) (o + j) = c (o + j) := fun j h2 => updv_ne _ _ (by omega)
  refine ⟨?_, h.aLt, ⟨?_, ?_, ?_, ?_⟩, h.kLt, ⟨?_, ?_, ?_, ?_⟩, h.vLt, ⟨?_, ?_, ?_, ?_⟩, h.oLt, updv_same _ _ _⟩
  · exact (hc 0 (by omega)).trans h.acct
  · rw [hc 1 (by omega)]; exact h.key.c0
  · rw [Nat.add_assoc, hc 2 (by omega)]; exact h.key.c1
  · rw [Nat.add_assoc, hc 3 (by omega)]; exact h.key.c2
  · rw [Nat.add_assoc, hc 4 (by omega)]; exact h.key.c3
  · rw [hc 5 (by omega)]; exact h.val.c0
  · rw [Nat.add_assoc, hc 6 (by omega)]; exact h.val.c1
  · rw [Nat.add_assoc, hc 7 (by omega)]; exact h.val.c2
  · rw [Nat.add_assoc, hc 8 (by omega)]; exact h.val.c3
  · rw [hc 9 (by omega)]; exact h.orig.c0
  · rw [Nat.add_assoc, hc 10 (by omega)]; exact h.orig.c1
  · rw [Nat.add_assoc, hc 11 (by omega)]; exact h.orig.c2
  · rw [Nat.add_assoc, hc 12 (by omega)]; exact h.orig.c3
theorem slot_setVal {o n : Nat} {x : ESlot} (h : SlotC c o x) (hn : n < P256) : SlotC (upd4 c (o + 5) n) o { x with val := n } := by
  have hc : ∀ j, (j < 5 ∨ 9 ≤ j) → upd4 c (o + 5) n (o + j) = c (o + j) := fun j h2 => upd4_out _ _ _ _ (by omega)
  refine ⟨?_, h.aLt, ⟨?_, ?_, ?_, ?_⟩, h.kLt, upd4_at _ _ _, hn, ⟨?_, ?_, ?_, ?_⟩, h.oLt, ?_⟩
  · exact (hc 0 (by omega)).trans h.acct
  · rw [hc 1 (by omega)]; exact h.key.c0
  · rw [Nat.add_assoc, hc 2 (by omega)]; exact h.key.c1
  · rw [Nat.add_assoc, hc 3 (by omega)]; exact h.key.c2
  · rw [Nat.add_assoc, hc 4 (by omega)]; exact h.key.c3
  · rw [hc 9 (by omega)]; exact h.orig.c0
  · rw [Nat.add_assoc, hc 10 (by omega)]; exact h.orig.c1
  · rw [Nat.add_assoc, hc 11 (by omega)]; exact h.orig.c2
  · rw [Nat.add_assoc, hc 12 (by omega)]; exact h.orig.c3
  · rw [hc 13 (by omega)]; exact h.warm
end
end Go.Proofs.YgvahwGreat
