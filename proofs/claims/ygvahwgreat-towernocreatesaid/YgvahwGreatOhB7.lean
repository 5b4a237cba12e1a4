import Derived.Test.YgvahwGreatOhA
namespace Go.Proofs.YgvahwGreat
open Go.RowKit
set_option linter.unusedSimpArgs false
section
variable {own : Nat → Nat} {w : World} {g : Nat} {c : Nat → Value} {V : EV} {st : ASt} {sn stale : List Nat} {s : Nat} {f : AFrame} {rest : List AFrame}
set_option maxRecDepth 100000 in
set_option maxHeartbeats 6400000 in
theorem mEnterB7 {r : Array Value} (h : MRep own w g c V st sn stale) (hfr : FrR (Mu own) w r f) (hr : Room V 5) (hn7 : st.frames.length < 7) (hkd : f.kind = 7) : Calls Hvah.prog 114 #[.pointer (some ⟨g, 0, none⟩), .agg r] w fun e w' => e = .returned (.bool true) ∧ ∃ own' c', MRep own' w' g c' V.snap { st with now := st.now, frames := { f with saved := st.now } :: st.frames, ret := [], phase := 1 } (V.marks.length :: sn) stale ∧ MStep own w own' w' := by
  obtain ⟨n, hn⟩ : ∃ n, Hid (st.frames.length = n) := ⟨_, rfl⟩
  rw [hn.out] at hn7
  have ht := h.m.top
  rw [hn.out] at ht
  have hok := hfr.ok
  have KB := fun W (hW : Ext w W) => h.v.blk.ext hW
  have KP : ∀ W, Ext w W → W.cell? ⟨g, 0, none⟩ = some (.pointer (some ⟨g, 2435, none⟩)) := fun W hW => by rw [(KB W hW).cell (by decide), h.m.ptr]
  have w1 : IntKind.i64.wrap ((n : Int) - 1) = (n : Int) - 1 := by rw [IntKind.wrap_i64]; omega
  have w2 : IntKind.i64.wrap (n : Int) = n := by rw [IntKind.wrap_i64]; omega
  have w3 : IntKind.u8.wrap (n : Int) = n := by rw [IntKind.wrap_u8]; omega
  have w4 : IntKind.i64.wrap ((n : Int) * 64) = n * 64 := by rw [IntKind.wrap_i64]; omega
  have w5 : IntKind.u16.wrap ((n : Int) * 64) = n * 64 := by rw [IntKind.wrap_u16]; omega
  have w6 : IntKind.i8.wrap (n : Int) = n := by
    have : n = 0 ∨ n = 1 ∨ n = 2 ∨ n = 3 ∨ n = 4 ∨ n = 5 ∨ n = 6 := by omega
    rcases this with rfl | rfl | rfl | rfl | rfl | rfl | rfl <;> rfl
  have z1 : ¬ (n : Int) < 0 := by omega
  have n7i : (n : Int) < 7 := by omega
  have z2 : ¬ (6 : Int) < n := by omega
  obtain ⟨co, cc, hcd, hc1, hc2, hc3⟩ := hfr.code
  have hcode : NL (Mu own) w (.slice co f.code.length cc) f.code := ⟨co, cc, rfl, hc1, hc2, hc3⟩
  have HSc := fun W (hW : Ext w W) => cScan (hcode.ext hW) hok.code
  clear hcode hc1 hc2 hc3
  have hds : (dsRow f.code).size = 8 := rowOf_size _ _ _
  have hdo : Ones (dsRow f.code) := ones_of (fun j hj => by rw [hds] at hj; unfold dsRow; rw [cf_rowOf _ _ _ hj]; rfl)
  obtain ⟨ml, hml⟩ : ∃ m, Hid (V.marks.length = m) := ⟨_, rfl⟩
  have hmlt : ml < 16384 := by have := hr.m; rw [hml.out] at this; omega
  obtain ⟨lc, hlc⟩ : ∃ m, Hid (f.code.length = m) := ⟨_, rfl⟩
  rw [hlc.out] at hcd HSc
  go_enter Hvah.func114, Hvah.ntmps114
  go_upto_region 5 with (first | ((with_reducible (refine Veil.out ?_; apply wl_boxB)); (case hx => rfl); (case hn => exact hfr.size); rintro B W1 e1 b1 g1) | ((with_reducible (refine Veil.out ?_; apply wl_load1 onel74)); (case hx => rfl); (case hB => exact KB _ (by (repeat (first | with_reducible exact Ext.refl _ | with_reducible assumption | refine Ext.trans ?_ (by with_reducible assumption) | refine Ext.alloc ?_ _ _ | refine Ext.drew ?_ | refine Ext.drewN ?_ _)))); (case ho => decide); rw [ht]) | ((with_reducible (refine Veil.out ?_; apply wl_loadC onet60)); (case hw => go_simp); (case hx => rfl); (case hc => exact KP _ (by (repeat (first | with_reducible exact Ext.refl _ | with_reducible assumption | refine Ext.trans ?_ (by with_reducible assumption) | refine Ext.alloc ?_ _ _ | refine Ext.drew ?_ | refine Ext.drewN ?_ _))))))
  go_upto_region 6 with (first | ((with_reducible (refine Veil.out ?_; apply wl_storeC (v := .int .u8 (n : Int)) onel5)); (case hx => rfl); (case hy => rfl); (case h1 => rfl); (case hB => exact b1.ext (by (repeat (first | with_reducible exact Ext.refl _ | with_reducible assumption | refine Ext.trans ?_ (by with_reducible assumption) | refine Ext.alloc ?_ _ _ | refine Ext.drew ?_ | refine Ext.drewN ?_ _)))); (case hi => decide); rintro W2 b2 m2; have E2 : Ext w W2 := Ext.trans_mod (by (repeat (first | with_reducible exact Ext.refl _ | with_reducible assumption | refine Ext.trans ?_ (by with_reducible assumption) | refine Ext.alloc ?_ _ _ | refine Ext.drew ?_ | refine Ext.drewN ?_ _))) m2 (fun i hi => by have hi2 : i = _ := hi; rw [hi2]; exact g1)))
  go_upto_region 7 with (first | ((with_reducible (refine Veil.out ?_; apply wl_storeC (v := .int .u16 ((n : Int) * 64)) onel68)); (case hx => rfl); (case hy => rfl); (case h1 => rfl); (case hB => exact b2.ext (by (repeat (first | with_reducible exact Ext.refl _ | with_reducible assumption | refine Ext.trans ?_ (by with_reducible assumption) | refine Ext.alloc ?_ _ _ | refine Ext.drew ?_ | refine Ext.drewN ?_ _)))); (case hi => decide); rintro W3 b3 m3; have E3 : Ext w W3 := Ext.trans_mod (by (repeat (first | with_reducible exact Ext.refl _ | with_reducible assumption | refine Ext.trans ?_ (by with_reducible assumption) | refine Ext.alloc ?_ _ _ | refine Ext.drew ?_ | refine Ext.drewN ?_ _))) m3 (fun i hi => by have hi2 : i = _ := hi; rw [hi2]; exact g1)))
  go_upto_region 8 with (first | ((with_reducible (refine Veil.out ?_; apply wl_load1 one32)); (case hx => rfl); (case hB => exact b3.ext (by (repeat (first | with_reducible exact Ext.refl _ | with_reducible assumption | refine Ext.trans ?_ (by with_reducible assumption) | refine Ext.alloc ?_ _ _ | refine Ext.drew ?_ | refine Ext.drewN ?_ _)))); (case ho => decide); rw [updv_ne _ _ (by decide), updv_ne _ _ (by decide), hcd]) | (go_at_call 186; refine (HSc _ (by (repeat (first | with_reducible exact Ext.refl _ | with_reducible assumption | refine Ext.trans ?_ (by with_reducible assumption) | refine Ext.alloc ?_ _ _ | refine Ext.drew ?_ | refine Ext.drewN ?_ _)))).mono ?_; rintro e w1 ⟨rfl, he⟩) | ((with_reducible (refine Veil.out ?_; apply wl_storeRow rt70)); (case hx => rfl); (case hy => rfl); (case hr => exact hds); (case h1 => exact hdo); (case hB => exact b3.ext (by (repeat (first | with_reducible exact Ext.refl _ | with_reducible assumption | refine Ext.trans ?_ (by with_reducible assumption) | refine Ext.alloc ?_ _ _ | refine Ext.drew ?_ | refine Ext.drewN ?_ _)))); (case hi => decide); rintro W4 b4 m4; have E4 : Ext w W4 := Ext.trans_mod (by (repeat (first | with_reducible exact Ext.refl _ | with_reducible assumption | refine Ext.trans ?_ (by with_reducible assumption) | refine Ext.alloc ?_ _ _ | refine Ext.drew ?_ | refine Ext.drewN ?_ _))) m4 (fun i hi => by have hi2 : i = _ := hi; rw [hi2]; exact g1)))
  obtain ⟨own7, o7B, o7k, o7o, hR⟩ := h.reserve E4 g1 b4.lt
  have hbuf := h.bufOld g1
  have hgB : ¬ g = B := fun q => by have := h.v.blk.lt; omega
  have HSn := vSnap hR.v hr.mp
  rw [hml.out] at HSn
  go_upto_region 9 with (first | ((with_reducible (refine Veil.out ?_; apply wl_loadC onet60)); (case hw => go_simp); (case hx => rfl); (case hc => exact KP _ E4)) | (go_at_call 187; refine HSn.mono ?_; rintro e w5 ⟨rfl, c5, h5, k5⟩; replace b4 := b4.mod k5.mod (fun q => q.2 o7B)) | ((with_reducible (refine Veil.out ?_; apply wl_storeC (v := .int .i32 (ml : Nat)) one21)); (case hx => rfl); (case hy => rfl); (case h1 => rfl); (case hB => exact b4); (case hi => decide); rintro W6 b6 m6; refine Hid.out ?_))
  have h6 := (hR.snap h5 k5).apart o7B m6 (fun o n cap q => hbuf o n cap ((k5.far 1 (Or.inl (by decide))).symm.trans q))
  have k10 := h6.m.mem.top
  rw [List.length_map, hn.out] at k10
  have kb := h6.m.mem.base.at_
  rw [List.length_map, hn.out] at kb
  have HME := fun W (hW : Ext W6 W) => aEnter g n _ c5 W (h6.v.blk.ext hW) hn7 k10 kb
  have zm : (0 : Int) ≤ ml := by omega
  clear KB KP HSc HSn
  unfold Hid
  go_upto_region 10 with (first | ((with_reducible (refine Veil.out ?_; apply wl_load1 one21)); (case hx => rfl); (case hB => exact b6.ext (by (repeat (first | with_reducible exact Ext.refl _ | with_reducible assumption | refine Ext.trans ?_ (by with_reducible assumption) | refine Ext.alloc ?_ _ _ | refine Ext.drew ?_ | refine Ext.drewN ?_ _)))); (case ho => decide); rw [updv_same]) | (go_at_call 188; refine (HME _ (by (repeat (first | with_reducible exact Ext.refl _ | with_reducible assumption | refine Ext.trans ?_ (by with_reducible assumption) | refine Ext.alloc ?_ _ _ | refine Ext.drew ?_ | refine Ext.drewN ?_ _)))).mono ?_; rintro e w7 ⟨rfl, b7, m7⟩))
  replace b6 := (b6.ext (show Ext W6 _ by (repeat (first | with_reducible exact Ext.refl _ | with_reducible assumption | refine Ext.trans ?_ (by with_reducible assumption) | refine Ext.alloc ?_ _ _ | refine Ext.drew ?_ | refine Ext.drewN ?_ _)))).mod m7 (fun q => hgB q.symm)
  obtain ⟨d, hd⟩ : ∃ d, Hid (updv (layv (updv (updv (cf r) 1 (.int .u8 (n : Int))) 5 (.int .u16 ((n : Int) * 64))) 55 (dsRow f.code)) 8 (.int .i32 (ml : Nat)) = d) := ⟨_, rfl⟩
  rw [hd.out] at b6
  have hdr : ∀ j, j ≠ 1 → j ≠ 5 → j ≠ 8 → (j < 55 ∨ 63 ≤ j) → d j = cf r j := fun j h1 h2 h3 h4 => by
    rw [← hd.out, updv_ne _ _ h3, layv_out _ _ _ (by rw [hds]; omega), updv_ne _ _ h2, updv_ne _ _ h1]
  have hd5 : d 5 = .int .u16 (64 * n : Nat) := by
    rw [← hd.out, updv_ne _ _ (by decide), layv_out _ _ _ (by rw [hds]; omega), updv_same]
    exact int_eq (by omega)
  have hd8 : d 8 = .int .i32 (ml : Nat) := by rw [← hd.out, updv_same]
  have hdd : ∀ j, j < 8 → d (55 + j) = .int .u64 (destW f.code j : Nat) := fun j hj => by
    rw [← hd.out, updv_ne _ _ (by omega), layv_in _ _ _ (by rw [hds]; exact hj)]
    unfold dsRow
    rw [cf_rowOf _ _ _ hj, Nat.zero_add]
  have hd1 : d 1 = .int .u8 (n : Int) := by rw [← hd.out, updv_ne _ _ (by decide), layv_out _ _ _ (by rw [hds]; omega), updv_ne _ _ (by decide), updv_same]
  have hone : Ones (rowOf d 0 65) := ones_of (fun j hj => by
    rw [rowOf_size] at hj
    rw [cf_rowOf _ _ _ hj, Nat.zero_add]
    by_cases q1 : j = 1
    · rw [q1, hd1]; rfl
    by_cases q5 : j = 5
    · rw [q5, hd5]; rfl
    by_cases q8 : j = 8
    · rw [q8, hd8]; rfl
    by_cases q55 : j < 55 ∨ 63 ≤ j
    · rw [hdr j q1 q5 q8 q55]; exact hfr.ones.get (by rw [hfr.size]; exact hj)
    · have := hdd (j - 55) (by omega)
      rw [show 55 + (j - 55) = j by omega] at this
      rw [this]; rfl)
  have M7 : Mod (· = g) W6 w7 := (Ext.mod (show Ext W6 _ by (repeat (first | with_reducible exact Ext.refl _ | with_reducible assumption | refine Ext.trans ?_ (by with_reducible assumption) | refine Ext.alloc ?_ _ _ | refine Ext.drew ?_ | refine Ext.drewN ?_ _))) _).trans m7
  clear HME m7
  refine w_ext ?_
  rintro W0 hW0
  refine wp_region_held_drew (S := fun w' => Mod (fun x => x = g) W0 w') (by kernel_rfl) (Mod.refl _ _).drew (fun hHeld => ?_)
  have HH : Hid (Mod (fun x => x = g) W0 _) := hHeld
  clear hHeld
  refine wpAnyH_take (i := 0) (v := ?_) rfl (by kernel_rfl) (by kernel_rfl) (by kernel_rfl) (fun _ _ _ h => h) (Or.inl ⟨by rfl, ?_⟩) HH.out ?_
  rotate_left
  · intro w hSw; go_simp; try with_reducible rfl
  change wpAnyH _ _ _ _ _ _ _ (Act.put _ (some 54) _) _
  simp only [Act.put, List.setIfInBounds_toArray, List.set_cons_zero, List.set_cons_succ]
  refine wpAnyH_take (i := 1) (v := ?_) rfl (by kernel_rfl) (by kernel_rfl) (by kernel_rfl) (fun _ _ _ h => h) (Or.inl ⟨by rfl, ?_⟩) HH.out ?_
  rotate_left
  · intro w hSw; go_simp; try with_reducible rfl
  change wpAnyH _ _ _ _ _ _ _ (Act.put _ (some 55) _) _
  simp only [Act.put, List.setIfInBounds_toArray, List.set_cons_zero, List.set_cons_succ]
  refine wpAnyH_take (i := 2) rfl (by kernel_rfl) (by kernel_rfl) (by kernel_rfl) (fun _ _ _ h => h) (yieldsRow rt72 (by rfl) rfl rfl (fun w hSw => (b6.ext (show Ext w7 W0 from by (repeat (first | with_reducible exact Ext.refl _ | with_reducible assumption | refine Ext.trans ?_ (by with_reducible assumption) | refine Ext.alloc ?_ _ _ | refine Ext.drew ?_ | refine Ext.drewN ?_ _)))).mod hSw (fun q => hgB q.symm)) (by decide)) HH.out ?_
  change wpAnyH _ _ _ _ _ _ _ (Act.put _ (some 56) _) _
  simp only [Act.put, List.setIfInBounds_toArray, List.set_cons_zero, List.set_cons_succ]
  refine wpAnyH_take (i := 3) (v := ?_) rfl (by kernel_rfl) (by kernel_rfl) (by kernel_rfl) (fun _ _ _ h => h) (Or.inl ⟨by rfl, ?_⟩) HH.out ?_
  rotate_left
  · intro w hSw; go_simp; try with_reducible rfl
  change wpAnyH _ _ _ _ _ _ _ (Act.put _ (some 57) _) _
  simp only [Act.put, List.setIfInBounds_toArray, List.set_cons_zero, List.set_cons_succ]
  refine wpAnyH_take (i := 4) (v := ?_) rfl (by kernel_rfl) (by kernel_rfl) (by kernel_rfl) (fun _ _ _ h => h) (Or.inl ⟨by rfl, ?_⟩) HH.out ?_
  rotate_left
  · intro w hSw; go_simp; try with_reducible rfl
  change wpAnyH _ _ _ _ _ _ _ (Act.put _ (some 58) _) _
  simp only [Act.put, List.setIfInBounds_toArray, List.set_cons_zero, List.set_cons_succ]
  refine wpAnyH_take (i := 5) (v := ?_) rfl (by kernel_rfl) (by kernel_rfl) (by kernel_rfl) (fun _ _ _ h => h) (Or.inl ⟨by rfl, ?_⟩) HH.out ?_
  rotate_left
  · intro w hSw; go_simp; try with_reducible rfl
  change wpAnyH _ _ _ _ _ _ _ (Act.put _ (some 59) _) _
  simp only [Act.put, List.setIfInBounds_toArray, List.set_cons_zero, List.set_cons_succ]
  refine wpAnyH_ready (rs := [6]) (by kernel_rfl) (by simp) ?_
  refine AllReadyH.cons rfl (fun K hK => ?_) AllReadyH.nil
  refine step_any rfl (op_storeRow rfl rt72 rfl rfl (rowOf_size _ _ _) hone (b7.ext (by (repeat (first | with_reducible exact Ext.refl _ | with_reducible assumption | refine Ext.trans ?_ (by with_reducible assumption) | refine Ext.alloc ?_ _ _ | refine Ext.drew ?_ | refine Ext.drewN ?_ _)))) (by omega) ?_)
  rintro W9 b9 m9
  refine hK.out _ _ ?_ (fun hHeld => ?_)
  · exact HH.out.trans m9
  clear hK K HH
  have HH : Hid (Mod (fun x => x = g) W0 _) := hHeld
  clear hHeld
  change wpAnyH _ _ _ _ _ _ _ (Act.put _ none _) _
  simp only [Act.put, List.setIfInBounds_toArray, List.set_cons_zero, List.set_cons_succ]
  refine wpAnyH_done (by kernel_rfl) ?_ _
  have M9 : Mod (· = g) W6 W9 := (M7.trans_ext (show Ext w7 W0 by (repeat (first | with_reducible exact Ext.refl _ | with_reducible assumption | refine Ext.trans ?_ (by with_reducible assumption) | refine Ext.alloc ?_ _ _ | refine Ext.drew ?_ | refine Ext.drewN ?_ _)))).trans HH.out
  replace b6 := (b6.ext (show Ext w7 W0 by (repeat (first | with_reducible exact Ext.refl _ | with_reducible assumption | refine Ext.trans ?_ (by with_reducible assumption) | refine Ext.alloc ?_ _ _ | refine Ext.drew ?_ | refine Ext.drewN ?_ _)))).mod HH.out (fun q => hgB q.symm)
  clear HH M7 m9
  go_upto_region 12 with (first | ((with_reducible (refine Veil.out ?_; apply wl_storeC (v := .int .i8 (n : Int)) onel74)); (case hx => rfl); (case hy => rfl); (case h1 => rfl); (case hB => exact b9); (case hi => decide); rintro W10 b10 m10))
  go_upto_region 13 with (first | ((with_reducible (refine Veil.out ?_; apply wl_storeC (v := .int .u8 1) onel5)); (case hx => rfl); (case hy => rfl); (case h1 => rfl); (case hB => exact b10); (case hi => decide); rintro W11 b11 m11))
  go_upto_region 14 with (first | ((with_reducible (refine Veil.out ?_; apply wl_storeC (v := .slice none 0 0) one32)); (case hx => rfl); (case hy => rfl); (case h1 => rfl); (case hB => exact b11); (case hi => decide); rintro W12 b12 m12))
  have M12 : Mod (· = g) W6 W12 := ((M9.trans m10).trans m11).trans m12
  replace b6 := ((b6.mod m10 (fun q => hgB q.symm)).mod m11 (fun q => hgB q.symm)).mod m12 (fun q => hgB q.symm)
  clear m10 m11 m12 M9 b9 b10 b11
  have K1 : Keep own own7 g 7 w W4 := ⟨o7k, E4.mod _, h.v.tag, by decide⟩
  have K6 : Keep own7 own7 g 7 w5 W6 := ⟨fun _ _ => rfl, m6.sub (fun x hx => Or.inr (by rw [hx]; exact o7B)), h5.tag, by decide⟩
  have hnlA : ∀ v l, NL (Mu own) w v l → NL (Mu own7) W12 v l := fun v l q => (Keep.here h6.v M12).nl (K6.nl (k5.nl (K1.nl q)))
  obtain ⟨cM, hM, sM⟩ : ∃ cM, MRep own7 W12 g cM V.snap { st with frames := { f with saved := st.now } :: st.frames, ret := [], phase := 1 } (ml :: sn) stale ∧ MStep own7 W6 own7 W12 := ⟨_, h6.entered2 (s := ml) (f := { f with saved := st.now }) M12 b12 hn.out hn7
    (fun i h1 h2 h3 h4 h5 h6 => by rw [updv_ne _ _ h4, updv_ne _ _ h5, updv_ne _ _ h3, layv_out _ _ _ (by rw [rowOf_size]; omega), updv_ne _ _ h1, updv_ne _ _ h2])
    (by rw [updv_ne _ _ (by decide), updv_ne _ _ (by decide), updv_ne _ _ (by decide), layv_out _ _ _ (by rw [rowOf_size]; omega), updv_same])
    (by rw [updv_ne _ _ (by omega), updv_ne _ _ (by omega), updv_ne _ _ (by omega), layv_out _ _ _ (by rw [rowOf_size]; omega), updv_ne _ _ (by omega), updv_same]; exact kb.symm)
    (FrC.ofRow hfr hnlA (fun j hj => by rw [updv_ne _ _ (by omega), updv_ne _ _ (by omega), updv_ne _ _ (by omega), layv_in _ _ _ (by rw [rowOf_size]; exact hj), cf_rowOf _ _ _ hj, Nat.zero_add]) hdr hd5 hd8 hdd) hfr.mem
    (by show st.now = V.snap.savedAt ml; rw [savedAt_snap, if_pos hml.out.symm]; exact h.abs.symm) (by show ml < V.marks.length + 1; rw [hml.out]; omega) (fun x hx => by have := h.snl x hx; rw [hml.out] at this; exact this)
    (by rw [updv_ne _ _ (by decide), updv_ne _ _ (by decide), updv_same]) (by rw [updv_ne _ _ (by decide), updv_same]) (by rw [updv_same])⟩
  have sA : MStep own w own7 W12 := (⟨o7k, E4.mod _⟩ : MStep own w own7 W4).trans ((MStep.ofV k5).trans ((⟨fun _ _ => rfl, m6.sub (fun x hx => by rw [hx, o7B]; decide)⟩ : MStep own7 w5 own7 W6).trans sM))
  have hgo : ({ st with frames := { f with saved := st.now } :: st.frames, ret := [], phase := 1 } : ASt).now = st.now := rfl
  clear h h5 h6 k5 b7 b12 hR K1 K6 hnlA k10 kb hone hd1 hd5 hd8 hdd M12 E2 E3 E4 b1 b2 b3 m2 m3 m4 m6 e1 he sM
  have vK : d 0 = .int .u8 (f.kind : Nat) := (hdr 0 (by decide) (by decide) (by decide) (by decide)).trans hfr.kind
  have vS : AAt d 9 f.self := hfr.self.same hok.self (fun j hj => hdr _ (by omega) (by omega) (by omega) (by omega))
  have vC : AAt d 29 f.caller := hfr.caller.same hok.caller (fun j hj => hdr _ (by omega) (by omega) (by omega) (by omega))
  have vV : WAt d 49 f.value := ⟨(hdr _ (by omega) (by omega) (by omega) (by omega)).trans hfr.value.c0, (hdr _ (by omega) (by omega) (by omega) (by omega)).trans hfr.value.c1, (hdr _ (by omega) (by omega) (by omega) (by omega)).trans hfr.value.c2, (hdr _ (by omega) (by omega) (by omega) (by omega)).trans hfr.value.c3⟩
  have hr1 : Room V.snap 4 := hr.grew (k := 1) (grew_snap V) (by decide) (by decide) (by decide) (by decide) (by decide) (by decide)
  have HCr := fun W => mCreates f.kind W (by have := hok.kind; omega)
  rw [hkd] at HCr vK
  have HCr2 : ∀ W, Calls Hvah.prog 189 #[.int .u8 (7 : Nat)] W fun e w' => e = .returned (.bool false) ∧ w' = W := HCr
  clear HCr
  have HCr := HCr2
  clear HCr2
  go_wp2_with (first | ((with_reducible (refine Veil.out ?_; apply wl_loadC onel5)); (case hw => go_simp); (case hx => rfl); (case hc => rw [(b6.ext (by (repeat (first | with_reducible exact Ext.refl _ | with_reducible assumption | refine Ext.trans ?_ (by with_reducible assumption) | refine Ext.alloc ?_ _ _ | refine Ext.drew ?_ | refine Ext.drewN ?_ _)))).cell (by decide), vK])) | (go_at_call 189; refine (HCr _).mono ?_; rintro e w1 ⟨rfl, hww⟩; replace hww := hww.symm; subst hww))
  go_ret
  rw [hml.out]
  exact ⟨rfl, own7, cM, hM.ext (by (repeat (first | with_reducible exact Ext.refl _ | with_reducible assumption | refine Ext.trans ?_ (by with_reducible assumption) | refine Ext.alloc ?_ _ _ | refine Ext.drew ?_ | refine Ext.drewN ?_ _))), sA.trans (MStep.ext (by (repeat (first | with_reducible exact Ext.refl _ | with_reducible assumption | refine Ext.trans ?_ (by with_reducible assumption) | refine Ext.alloc ?_ _ _ | refine Ext.drew ?_ | refine Ext.drewN ?_ _))))⟩
end
end Go.Proofs.YgvahwGreat
