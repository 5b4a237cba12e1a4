import Derived.Test.YgvahwGreatYpC
import Derived.Test.YgvahwGreatVaultN
import Derived.Deep.RegionHeld3
namespace Go.Proofs.YgvahwGreat
open Go.RowKit
theorem h_step {w a b : World} {S : World → Prop} (s0 : ∀ W, Ext w W → S W) (h : Ext w a ∧ S a) (e : Ext a b) : Ext w b ∧ S b := ⟨h.1.trans e, s0 b (h.1.trans e)⟩
section
variable {O : Nat → Prop} {w : World} {Y n : Nat} {t : TypeId} {c : Nat → Value}
set_option maxRecDepth 100000 in
set_option maxHeartbeats 1600000 in
theorem yIsWarm (hB : Blk w Y n t c) (hn : 8 ≤ n) (l : List Nat) (h : AddrL O w (c 1) l) (a : Nat) (ha : a < 2 ^ 160) (hlen : l.length ≤ 100000) :
    Calls Hvah.prog 402 #[.pointer (some ⟨Y, 0, none⟩), .agg (av a)] w fun e w' => e = .returned (.bool (decide (a ∈ l))) ∧ Ext w w' := by
  have hE0 : Ext w (w.alloc (.cells (av a) 31)) := (Ext.refl w).alloc _ _
  have HL := fun W (hW : Ext (w.alloc (.cells (av a) 31)) W) => yListed O (c 1) l a W (h.ext (hE0.trans hW) (fun _ _ _ k => k)) ha (by omega)
  have s0 : ∀ W, Ext (w.alloc (.cells (av a) 31)) W → (W.cell? ⟨Y, 1, none⟩ = some (c 1) ∧ W.rangeAt w.heap.size 0 (bcells (beL 20 a))) := fun W hW => ⟨(hB.ext (hE0.trans hW)).cell (by omega), fun j u hu => boxes1 w (av a) 31 W hW j u (by simpa [av] using hu)⟩
  have hu25 := under25
  have hi25 : (Hvah.prog.info? 31).map (·.size) = some (bcells (beL 20 a)).length := by rw [rt25.size, bcells_length, len20 ha]
  generalize c 1 = v at *
  generalize decide (a ∈ l) = bb at *
  go_enter Hvah.func402, Hvah.ntmps402
  go_wp2_with ((with_reducible (refine Veil.out ?_; apply wl_box)); (case hx => rfl))
  go_region_held3 (fun w' => Ext (w.alloc (.cells (av a) 31)) w' ∧ w'.cell? ⟨Y, 1, none⟩ = some v ∧ w'.rangeAt w.heap.size 0 (bcells (beL 20 a))) (first | exact ⟨(Ext.refl _).drew, s0 _ (Ext.refl _).drew⟩ | exact h_step s0 (by assumption) (by assumption))
    (first | (go_at_call 157; refine (HL _ (And.left (by assumption))).mono ?_; rintro e w4 ⟨rfl, he⟩))
  go_wp2
  go_ret
  exact ⟨rfl, hE0.drew.trans he⟩
set_option maxRecDepth 100000 in
set_option maxHeartbeats 1600000 in
theorem yWarm (hB : Blk w Y n t c) (hn : 8 ≤ n) (hO : Small O w) (hY : O Y) (l : List Nat) (h : AddrL O w (c 1) l) (a : Nat) (ha : a < 2 ^ 160) (hlen : l.length ≤ 100000) :
    Calls Hvah.prog 61 #[.pointer (some ⟨Y, 0, none⟩), .agg (av a)] w fun e w' => ∃ v', e = .returned (.tuple #[]) ∧ Blk w' Y n t (updv c 1 v') ∧ AddrL O w' v' (withA l a) ∧ Mod (· = Y) w w' := by
  have hE0 : Ext w (w.alloc (.cells (av a) 31)) := (Ext.refl w).alloc _ _
  have HL := fun W (hW : Ext (w.alloc (.cells (av a) 31)) W) => yWithAddr O (c 1) l a W (hO.ext (hE0.trans hW)) (h.ext (hE0.trans hW) (fun _ _ _ k => k)) ha (by omega)
  have s0 : ∀ W, Ext (w.alloc (.cells (av a) 31)) W → W.rangeAt w.heap.size 0 (bcells (beL 20 a)) := fun W hW j u hu => boxes1 w (av a) 31 W hW j u (by simpa [av] using hu)
  have HC : ∀ W, Ext w W → W.cell? ⟨Y, 1, none⟩ = some (c 1) := fun W hW => (hB.ext hW).cell (by omega)
  have hYl := hB.lt
  generalize hv : c 1 = v at HL HC h
  go_enter Hvah.func61, Hvah.ntmps61
  go_wp2_with ((with_reducible (refine Veil.out ?_; apply wl_box)); (case hx => rfl))
  have kc := HC _ hE0.drew
  refine wp_region_held_drew (S := fun w' => w'.rangeAt w.heap.size 0 (bcells (beL 20 a))) (by kernel_rfl) (s0 _ (Ext.refl _).drew) (fun hHeld => ?_)
  refine wpAnyH_take (i := 0) (v := ?_) rfl (by kernel_rfl) (by kernel_rfl) (by kernel_rfl) (fun _ _ _ h => h) (Or.inl ⟨by rfl, ?_⟩) hHeld ?_
  rotate_left
  · intro w hSw; go_simp; try with_reducible rfl
  change wpAnyH _ _ _ _ _ _ _ (Act.put _ (some 4) _) _
  simp only [Act.put, List.setIfInBounds_toArray, List.set_cons_zero, List.set_cons_succ]
  refine wpAnyH_take (i := 1) (v := ?_) rfl (by kernel_rfl) (by kernel_rfl) (by kernel_rfl) (fun _ _ _ h => h) (Or.inl ⟨by rfl, ?_⟩) hHeld ?_
  rotate_left
  · intro w hSw; go_simp; try with_reducible rfl
  change wpAnyH _ _ _ _ _ _ _ (Act.put _ (some 5) _) _
  simp only [Act.put, List.setIfInBounds_toArray, List.set_cons_zero, List.set_cons_succ]
  refine wpAnyH_take (i := 2) (v := ?_) rfl (by kernel_rfl) (by kernel_rfl) (by kernel_rfl) (fun _ _ _ h => h) (Or.inl ⟨by rfl, ?_⟩) hHeld ?_
  rotate_left
  · intro w hSw; go_simp; try with_reducible rfl
  change wpAnyH _ _ _ _ _ _ _ (Act.put _ (some 6) _) _
  simp only [Act.put, List.setIfInBounds_toArray, List.set_cons_zero, List.set_cons_succ]
  refine wpAnyH_take (i := 3) (v := ?_) rfl (by kernel_rfl) (by kernel_rfl) (by kernel_rfl) (fun _ _ _ h => h) (Or.inl ⟨by rfl, ?_⟩) hHeld ?_
  rotate_left
  · intro w hSw; go_simp; try with_reducible rfl
  change wpAnyH _ _ _ _ _ _ _ (Act.put _ (some 7) _) _
  simp only [Act.put, List.setIfInBounds_toArray, List.set_cons_zero, List.set_cons_succ]
  refine wpAnyH_take (i := 5) rfl (by kernel_rfl) (by kernel_rfl) (by kernel_rfl) (fun _ _ _ h => h) (yieldsIf_load_mid (by rfl) _ _ rfl _ _ rfl _ _ (fun w hSw => hSw) under25 rfl (by rw [rt25.size, bcells_length, len20 ha])) hHeld ?_
  change wpAnyH _ _ _ _ _ _ _ (Act.put _ (some 9) _) _
  simp only [Act.put, List.setIfInBounds_toArray, List.set_cons_zero, List.set_cons_succ]
  refine wpAnyH_ready (rs := [4]) (by kernel_rfl) (by simp) ?_
  refine AllReadyH.cons rfl (fun K hK => ?_) AllReadyH.nil
  go_simp
  refine hK.out _ _ ?_ (fun hHeld => ?_)
  · exact s0 _ (Ext.refl _).drew
  clear hK K
  refine wpAnyH_ready (rs := [6]) (by kernel_rfl) (by simp) ?_
  refine AllReadyH.cons rfl (fun K hK => ?_) AllReadyH.nil
  go_simp
  go_at_call 137
  refine (HL _ (Ext.refl _).drew).mono ?_
  rintro e w4 ⟨r, rfl, hr, he⟩
  obtain ⟨ro, rc, hre, _⟩ := GRow.slice hr
  subst hre
  refine hK.out _ _ ?_ (fun hHeld => ?_)
  · exact s0 _ ((Ext.refl _).drew.trans he)
  clear hK K
  refine wpAnyH_take (i := 7) (v := ?_) rfl (by kernel_rfl) (by kernel_rfl) (by kernel_rfl) (fun _ _ _ h => h) (Or.inl ⟨by rfl, ?_⟩) hHeld ?_
  rotate_left
  · intro w hSw; go_simp; try with_reducible rfl
  change wpAnyH _ _ _ _ _ _ _ (Act.put _ (some 11) _) _
  simp only [Act.put, List.setIfInBounds_toArray, List.set_cons_zero, List.set_cons_succ]
  refine wpAnyH_take (i := 8) (v := ?_) rfl (by kernel_rfl) (by kernel_rfl) (by kernel_rfl) (fun _ _ _ h => h) (Or.inl ⟨by rfl, ?_⟩) hHeld ?_
  rotate_left
  · intro w hSw; go_simp; try with_reducible rfl
  change wpAnyH _ _ _ _ _ _ _ (Act.put _ (some 12) _) _
  simp only [Act.put, List.setIfInBounds_toArray, List.set_cons_zero, List.set_cons_succ]
  have hB4 := hB.ext (hE0.drew.trans he)
  have k4 := hB4.cell (i := 1) (by omega)
  have f4 := hB4.fz
  refine wpAnyH_ready (rs := [9]) (by kernel_rfl) (by simp) ?_
  refine AllReadyH.cons rfl (fun K hK => ?_) AllReadyH.nil
  go_simp
  refine hK.out _ _ ?_ (fun hHeld => ?_)
  · exact fun j u hu => cx_set (hHeld j u hu) (fun q => by have := q.1; omega)
  clear hK K
  refine wpAnyH_done (by kernel_rfl) ?_ _
  go_wp2
  go_end0
  refine ⟨_, rfl, hB4.set 1 _, ?_, Mod.setCell (S := (· = Y)) ((hE0.drew.trans he).mod _) (Or.inl rfl) _⟩
  exact hr.mono (fun _ _ _ k => k) (fun _ _ k => k) (fun q _ _ _ k hq => k.off (fun e => hq (e ▸ hY)))
end
end Go.Proofs.YgvahwGreat
