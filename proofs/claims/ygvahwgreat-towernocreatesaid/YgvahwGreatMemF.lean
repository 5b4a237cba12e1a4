import Derived.Test.YgvahwGreatMemE
namespace Go.Proofs.YgvahwGreat
open Go.RowKit
section
variable {ops : Array Oper} {o : Oper} {a : Act} {w : World} {K : Act → World → Prop} {Q : Exit → Act → World → Prop} {E : Prop}
/-- A row stored, as one step of a region that draws. -/
theorem step_storeR {t : TypeId} {n : Nat} (hg : o.guard = none) (rt : RowT t n) (x y : Operand) (hop : o.op = Op.store t x y) (b q : Nat) (r : Array Value) (hn : r.size = n) (hx : a.eval x = .pointer (some ⟨b, q, none⟩)) (hy : a.eval y = .agg r) (hth : w.there b q n) (h1 : ∀ v ∈ r.toList, v.oneCell' = true)
    (hK : K (a.put o.dst undef) (w.setCells b q r.toList)) : if Region.wanted o (yielded ops a.tmps) = true then Oper.wp Hvah.prog o a w K Q else E := by
  have hw : Region.wanted o (yielded ops a.tmps) = true := by simp [Region.wanted, hg]
  rw [if_pos hw]
  exact wp_store_mid t x y hop b q r hx hy (by rw [hn]; exact hth) (by rw [rt.size, hn]) (by have := all_oneCell_toArray h1; simpa using this) hK
end
section
variable {own : Nat → Nat} {w w' : World} {g m lo hi n cap b off k q : Nat} {o : Option Addr} {c cc : Nat → Value} {l bs : List Nat}
set_option maxRecDepth 100000 in
set_option maxHeartbeats 1600000 in
/-- Store32. -/
theorem tStore32 (h : TopM own w c m lo hi n cap b o cc l) (hB : Blk w g 27024 105 c) (L : List Nat) (hL : L.length = 32) (hL2 : ∀ x ∈ L, x < 256) (hfit : off + 32 ≤ hi - lo) :
    Calls Hvah.prog 311 #[.pointer (some ⟨g, 1, none⟩), .int .u32 off, .agg (bcells L).toArray] w fun e w' => e = .returned (.bool true) ∧ ∃ cc', TopM own w' c m lo hi n cap b o cc' (layN l (lo + off) L) ∧ Mod (· = b) w w' := by
  have h2 := h.h2
  have hbl : b < w.heap.size := (h.blk (by omega)).2.1.lt
  have HP := fun W (hW : Ext w W) => tPart (h.ext hW) (hB.ext hW) (k := 32) (by decide) hfit
  have HL : ∀ W, Ext w W → W.there b (lo + off) 32 ∧ ∃ cc', TopM own (W.setCells b (lo + off) (bcells L)) c m lo hi n cap b o cc' (layN l (lo + off) L) ∧ Mod (· = b) w (W.setCells b (lo + off) (bcells L)) := fun W hW => by
    have hT := h.ext hW
    obtain ⟨cc', q1, q2⟩ := hT.lay (q := lo + off) (bs := L) (by omega) (by rw [hL]; omega) hL2
    exact ⟨hT.there (by omega) (by decide), cc', q1, (hW.mod _).trans q2⟩
  generalize lo + off = q at *
  generalize layN l q L = R at *
  have hE : Ext w (w.alloc (.cells (bcells L).toArray 32)) := (Ext.refl w).alloc _ _
  have hZ := Ext.refl (w.alloc (.cells (bcells L).toArray 32))
  have hone : ∀ v ∈ (bcells L).toArray.toList, v.oneCell' = true := fun v hv => by
    simp [bcells] at hv
    obtain ⟨x, _, rfl⟩ := hv
    rfl
  have hsz : (bcells L).toArray.size = 32 := by simp [bcells, hL]
  have hAr := fun W => run_arrayAt W 32 5 32 32 32 (some ⟨b, q, none⟩) under27 (Nat.le_refl _)
  have HHone : Hid (∀ v ∈ (bcells L).toArray.toList, v.oneCell' = true) := hone
  clear hone
  go_enter Hvah.func311, Hvah.ntmps311
  go_wp2_with (first | ((with_reducible (refine Veil.out ?_; apply wl_box)); (case hx => rfl)) | (go_at_call 367; refine (HP _ hE).mono ?_; rintro e w1 ⟨rfl, he⟩; replace hE := hE.trans he; replace hZ := hZ.trans he; clear he))
  have hS0 : w1.rangeAt w.heap.size 0 (bcells L) := fun j v hv => boxes1 w _ 32 w1 hZ j v (by simpa using hv)
  refine wp_region_held_drew (S := fun w' => w'.rangeAt w.heap.size 0 (bcells L)) (by kernel_rfl) hS0 (fun hHeld => ?_)
  refine wpAnyH_take (i := 0) (v := ?_) rfl (by kernel_rfl) (by kernel_rfl) (by kernel_rfl) (fun _ _ _ h => h) (Or.inl ⟨by rfl, ?_⟩) hHeld ?_
  rotate_left
  · intro w hSw; go_simp; try with_reducible rfl
  change wpAnyH _ _ _ _ _ _ _ (Act.put _ (some 17) _) _
  simp only [Act.put, List.setIfInBounds_toArray, List.set_cons_zero, List.set_cons_succ]
  refine wpAnyH_take (i := 1) (v := ?_) rfl (by kernel_rfl) (by kernel_rfl) (by kernel_rfl) (fun _ _ _ h => h) (Or.inl ⟨by rfl, ?_⟩) hHeld ?_
  rotate_left
  · intro w hSw; go_simp; try with_reducible rfl
  change wpAnyH _ _ _ _ _ _ _ (Act.put _ (some 18) _) _
  simp only [Act.put, List.setIfInBounds_toArray, List.set_cons_zero, List.set_cons_succ]
  refine wpAnyH_take (i := 2) rfl (by kernel_rfl) (by kernel_rfl) (by kernel_rfl) (fun _ _ _ h => h) (yieldsIf_load_mid (by rfl) _ _ rfl _ _ rfl _ _ (fun w hSw => hSw) under27 rfl (by rw [rt27.size, bcells_length, hL])) hHeld ?_
  change wpAnyH _ _ _ _ _ _ _ (Act.put _ (some 19) _) _
  simp only [Act.put, List.setIfInBounds_toArray, List.set_cons_zero, List.set_cons_succ]
  refine wpAnyH_take (i := 3) (v := ?_) rfl (by kernel_rfl) (by kernel_rfl) (by kernel_rfl) (fun _ _ _ h => h) (Or.inl ⟨by rfl, ?_⟩) hHeld ?_
  rotate_left
  · intro w hSw; go_simp; try with_reducible rfl
  change wpAnyH _ _ _ _ _ _ _ (Act.put _ (some 20) _) _
  simp only [Act.put, List.setIfInBounds_toArray, List.set_cons_zero, List.set_cons_succ]
  refine wpAnyH_ready (rs := [4]) (by kernel_rfl) (by simp) ?_
  refine AllReadyH.cons rfl (fun K hK => ?_) AllReadyH.nil
  refine step_storeR rfl rt27 (.tmp 20) (.tmp 19) rfl b q (bcells L).toArray hsz rfl rfl (HL _ (hE.drew)).1 HHone.out ?_
  refine hK.out _ _ ?_ (fun hHeld => ?_)
  · exact World.rangeAt_setCells_apart hHeld _ _ _ (Or.inl (Nat.ne_of_gt hbl))
  clear hK K
  refine wpAnyH_done (by kernel_rfl) ?_ _
  clear hHeld
  have hfin := (HL _ (hE.drew)).2
  refine w_gen (fun W => ∃ cc', TopM own W c m lo hi n cap b o cc' R ∧ Mod (· = b) w W) hfin ?_
  rintro W5 hfin5
  go_wp2
  go_ret
  exact ⟨rfl, hfin5⟩
end
end Go.Proofs.YgvahwGreat
