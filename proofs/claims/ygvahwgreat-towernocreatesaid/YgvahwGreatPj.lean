import Derived.Test.YgvahwGreatVaTf
import Derived.Test.YgvahwGreatPi
namespace Go.Proofs.YgvahwGreat
open Go.RowKit
set_option linter.unusedSimpArgs false
theorem info28 : Hvah.prog.info? 33 = some Hvah.t33 := by kernel_rfl
theorem zero28 : Hvah.t33.zero = some (.agg (Array.replicate 32 (.int .u8 0))) := by kernel_rfl
theorem size28 : Hvah.t33.size = 32 := by kernel_rfl
theorem bytes28 : Hvah.t33.bytes ≤ 4096 := by decide +kernel
theorem zs28 : (Value.agg (Array.replicate 32 (.int .u8 0))).cells.size = 32 := by simp [Value.cells]
theorem b132 {a : Nat} (ha : a < 2 ^ 160) {u : Value} (hu : u.oneCell' = true) : ∀ w, (Instr.build 141 ([(0, .agg (av a)), (2, u)] : List (Nat × Value)).toArray).run Hvah.prog w = .ok (.agg (lgV a (.slice none 0 0) u)) w := fun w => by
  rw [run_build_gen (pl := [(0, 20), (20, 1), (21, 1)]) (z := #[.int .u8 0, .int .u8 0, .int .u8 0, .int .u8 0, .int .u8 0, .int .u8 0, .int .u8 0, .int .u8 0, .int .u8 0, .int .u8 0, .int .u8 0, .int .u8 0, .int .u8 0, .int .u8 0, .int .u8 0, .int .u8 0, .int .u8 0, .int .u8 0, .int .u8 0, .int .u8 0, .slice none 0 0, .slice none 0 0]) (by kernel_rfl) (by kernel_rfl) ([(0, .agg (av a)), (2, u)] : List (Nat × Value)) ⟨0, 20, rfl, av_size ha, by decide, 21, 1, rfl, by rw [one_cells hu]; rfl, by decide, trivial⟩ w]
  congr 2
  refine ext_cf (by rw [bld_size, lgV_size ha]; rfl) (fun i hi => ?_)
  rw [bld_size] at hi
  have hi : i < 22 := hi
  rw [bld_get _ _ _ hi]
  simp only [partsA, List.map_cons, List.map_nil, List.getD_cons_zero, List.getD_cons_succ, bldc, one_cells hu, layv_one, one_agg]
  have hsz := av_size ha
  rw [cf_append, hsz]
  by_cases h20 : i < 20
  · rw [if_pos h20, updv_ne _ _ (by omega)]
    have := layv_in (cf #[.int .u8 0, .int .u8 0, .int .u8 0, .int .u8 0, .int .u8 0, .int .u8 0, .int .u8 0, .int .u8 0, .int .u8 0, .int .u8 0, .int .u8 0, .int .u8 0, .int .u8 0, .int .u8 0, .int .u8 0, .int .u8 0, .int .u8 0, .int .u8 0, .int .u8 0, .int .u8 0, .slice none 0 0, .slice none 0 0]) 0 (av a) (j := i) (by omega)
    rwa [Nat.zero_add] at this
  · rw [if_neg h20]
    have : i = 20 ∨ i = 21 := by omega
    rcases this with rfl | rfl
    · rw [updv_ne _ _ (by decide), layv_out _ _ _ (by rw [hsz]; omega)]; rfl
    · rw [updv_same]; rfl
theorem topics_eq (f : AFrame) (k : Nat) (hl : 2 + k ≤ f.stack.length) : (f.stack.drop 2).take k = (List.range k).map fun j => f.arg (2 + j) := by
  apply List.ext_getElem (by simp; omega)
  intro i h1 h2
  simp at h1
  simp [AFrame.arg, List.getD_eq_getElem?_getD, List.getElem?_eq_getElem, show 2 + i < f.stack.length by omega]
theorem Arn.mod {w w' : World} {e sz n b : Nat} {v : Value} {c : Nat → Value} {S : Nat → Prop} (h : Arn w e sz v n b c) (m : Mod S w w') (hb : ¬ S b) : Arn w' e sz v n b c := by
  rcases h with q | ⟨cp, q1, q2, q3, q4⟩
  · exact Or.inl q
  · exact Or.inr ⟨cp, q1, q2, q3, q4.mod m hb⟩
section
variable {own : Nat → Nat} {w : World} {g : Nat} {c : Nat → Value} {V : EV} {st : ASt} {sn stale : List Nat} {s : Nat} {f : AFrame} {rest : List AFrame}
theorem mPutLog {n : Nat} (h : MRep own w g c V st sn stale) (hr : Room V (n + 1)) (l : ALog) (ha : l.addr < 2 ^ 160) {tv dv : Value} (ht : WL (Mu own) w tv l.topics) (hd : NL (Mu own) w dv l.data) (h4 : l.topics.length ≤ 4) (hD : l.data.length ≤ 717280) : Calls Hvah.prog 393 #[.pointer (some ⟨g, 2435, none⟩), .agg (lgV l.addr tv dv)] w fun e w' => e = .returned (.bool true) ∧ ∃ own' c', MRep own' w' g c' (V.putLog l) { st with now := st.now.putLog l } sn stale ∧ VStep own w c own' w' c' := by
  refine (vPutLog h.v ha ht hd hr.jp hr.lp h4 hD).mono ?_
  rintro e w1 ⟨rfl, own', c', hv, ks⟩
  have := h.op hv ks (putLog_op h.v.wf l)
  rw [h.abs] at this
  exact ⟨rfl, own', c', this, ks⟩
set_option maxRecDepth 100000 in
set_option maxHeartbeats 6400000 in
theorem mOpLog (h : MRep own w g c V st (s :: sn) stale) (hst : st.frames = f :: rest) (hph : st.phase = 1) (k : Nat) (hk : k ≤ 4) (ho : f.opcode = 160 + k) (hl : 2 + k ≤ f.stack.length) (hpc : f.pc ≤ 50000) (hr : Room V 1) (hf : f.arg 1 ≠ 0 → f.arg 0 + f.arg 1 ≤ f.mem.length) : Calls Hvah.prog 328 #[.pointer (some ⟨g, 0, none⟩)] w fun e w' => e = .returned (.tuple #[]) ∧ ∃ own' c', MRep own' w' g c' (V.putLog ⟨f.self, (f.stack.drop 2).take k, readA f.mem (f.arg 0) (f.arg 1)⟩) { st with now := st.now.putLog ⟨f.self, (f.stack.drop 2).take k, readA f.mem (f.arg 0) (f.arg 1)⟩, frames := f.settle (2 + k) [] 1 :: rest } (s :: sn) stale ∧ MStep own w own' w' := by
  rw [topics_eq f k hl]
  obtain ⟨hfr, hr7⟩ := h.frame hst
  have hml := hfr.ok.mLen
  have hsl := hfr.ok.sLen
  have HR := fun W (hW : Ext w W) => mRun (h.ext hW) hst hph
  have HO := fun W (hW : Ext w W) => mOp (h.ext hW) hst hph
  rw [ho] at HO
  have HA0 := fun W (hW : Ext w W) => mArg (h.ext hW) hst 0 (by decide)
  have HA1 := fun W (hW : Ext w W) => mArg (h.ext hW) hst 1 (by decide)
  have HRd := fun W (hW : Ext w W) => mRead (h.ext hW) hst (f.arg 0) (f.arg 1) (hfr.ok.argLt 0) (hfr.ok.argLt 1) hf
  have hlen : (readA f.mem (f.arg 0) (f.arg 1)).length ≤ 717280 := by
    have : (readA f.mem (f.arg 0) (f.arg 1)).length ≤ f.mem.length := by
      unfold readA
      split
      · exact Nat.zero_le _
      · rename_i hz
        have := hf hz
        simp [cutA]; omega
    omega
  obtain ⟨L, hL⟩ : ∃ L, Hid (readA f.mem (f.arg 0) (f.arg 1) = L) := ⟨_, rfl⟩
  rw [hL.out] at HRd hlen ⊢
  have jo1 : IntKind.u8.wrap (((160 + k : Nat) : Int) - 160) = (k : Int) := by rw [IntKind.wrap_u8]; omega
  have jo2 : IntKind.i64.wrap (k : Int) = k := by rw [IntKind.wrap_i64]; omega
  have jo3 : IntKind.i64.wrap ((2 : Int) + k) = ((2 + k : Nat) : Int) := by rw [IntKind.wrap_i64]; omega
  have jo4 : IntKind.u16.wrap ((2 + k : Nat) : Int) = ((2 + k : Nat) : Int) := by rw [IntKind.wrap_u16]; omega
  have harg : ∀ i, f.arg i < P256 := fun i => hfr.ok.argLt i
  have hFin := fun (W : World) (own' : Nat → Nat) (c' : Nat → Value) (V' : EV) (A : AW) (h' : MRep own' W g c' V' { st with now := A } (s :: sn) stale) => mSetN h' (show ({ st with now := A } : ASt).frames = f :: rest from hst) (2 + k) 1 0 (by omega) (by omega)
  generalize ho2 : 160 + k = o at *
  clear ho2 hf
  go_enter Hvah.func328, Hvah.ntmps328
  go_upto_region 4 with (first | (go_at_call 192; refine (HR _ (by (repeat (first | with_reducible exact Ext.refl _ | with_reducible assumption | refine Ext.trans ?_ (by with_reducible assumption) | refine Ext.alloc ?_ _ _ | refine Ext.drew ?_ | refine Ext.drewN ?_ _)))).mono ?_; rintro e w1 ⟨rfl, he⟩) | (go_at_call 117; refine (HO _ (by (repeat (first | with_reducible exact Ext.refl _ | with_reducible assumption | refine Ext.trans ?_ (by with_reducible assumption) | refine Ext.alloc ?_ _ _ | refine Ext.drew ?_ | refine Ext.drewN ?_ _)))).mono ?_; rintro e w1 ⟨rfl, he⟩) | (go_at_call_of 273 (Value.int IntKind.i64 0); refine (HA0 _ (by (repeat (first | with_reducible exact Ext.refl _ | with_reducible assumption | refine Ext.trans ?_ (by with_reducible assumption) | refine Ext.alloc ?_ _ _ | refine Ext.drew ?_ | refine Ext.drewN ?_ _)))).mono ?_; rintro e w1 ⟨rfl, he⟩) | (go_at_call_of 273 (Value.int IntKind.i64 1); refine (HA1 _ (by (repeat (first | with_reducible exact Ext.refl _ | with_reducible assumption | refine Ext.trans ?_ (by with_reducible assumption) | refine Ext.alloc ?_ _ _ | refine Ext.drew ?_ | refine Ext.drewN ?_ _)))).mono ?_; rintro e w1 ⟨rfl, he⟩) | (go_at_call 301; refine (HRd _ (by (repeat (first | with_reducible exact Ext.refl _ | with_reducible assumption | refine Ext.trans ?_ (by with_reducible assumption) | refine Ext.alloc ?_ _ _ | refine Ext.drew ?_ | refine Ext.drewN ?_ _)))).mono ?_; rintro e w3 ⟨rv, rfl, hrv, he3⟩))
  have hro := hrv.one
  go_upto_region 5 with (first | ((with_reducible (refine Veil.out ?_; apply wl_loadA)); (case hx => rfl); (case hB => exact h.v.blk.ext (by (repeat (first | with_reducible exact Ext.refl _ | with_reducible assumption | refine Ext.trans ?_ (by with_reducible assumption) | refine Ext.alloc ?_ _ _ | refine Ext.drew ?_ | refine Ext.drewN ?_ _)))); (case hA => exact hfr.self); (case hs => exact hfr.ok.self); (case ho => omega)) | ((with_reducible (refine Veil.out ?_; apply wl_buildV (hb := b132 hfr.ok.self hro))); (case he => first | rfl | simp [Act.eval])) | ((with_reducible (refine Veil.out ?_; apply wl_allocB (n := 22) zero132')); (case hn => exact lgV_size (by decide) _ _); rintro B6 W5 e5 b5 g5) | ((with_reducible (refine Veil.out ?_; apply wl_storeRow rt132)); (case hx => rfl); (case hy => rfl); (case hr => exact lgV_size hfr.ok.self _ _); (case h1 => exact lgV_ones hfr.ok.self rfl hro); (case hB => exact b5.ext (by (repeat (first | with_reducible exact Ext.refl _ | with_reducible assumption | refine Ext.trans ?_ (by with_reducible assumption) | refine Ext.alloc ?_ _ _ | refine Ext.drew ?_ | refine Ext.drewN ?_ _)))); (case hi => decide); rintro W6 b6 m6))
  have b6' : Blk W6 B6 22 141 (layv (cf (lgV 0 (.slice none 0 0) (.slice none 0 0))) 0 (lgV f.self (.slice none 0 0) rv)) := b6
  have g6 : w3.heap.size ≤ B6 := Nat.le_trans (Ext.size (show Ext w3 _ by (repeat (first | with_reducible exact Ext.refl _ | with_reducible assumption | refine Ext.trans ?_ (by with_reducible assumption) | refine Ext.alloc ?_ _ _ | refine Ext.drew ?_ | refine Ext.drewN ?_ _)))) g5
  have hE6 : Ext w3 W6 := Ext.trans_mod (show Ext w3 _ by (repeat (first | with_reducible exact Ext.refl _ | with_reducible assumption | refine Ext.trans ?_ (by with_reducible assumption) | refine Ext.alloc ?_ _ _ | refine Ext.drew ?_ | refine Ext.drewN ?_ _))) m6 (fun x hx => by have hx2 : x = B6 := hx; rw [hx2]; exact g6)
  have hEw3 : Ext w w3 := by (repeat (first | with_reducible exact Ext.refl _ | with_reducible assumption | refine Ext.trans ?_ (by with_reducible assumption) | refine Ext.alloc ?_ _ _ | refine Ext.drew ?_ | refine Ext.drewN ?_ _))
  have hB0 : Blk W6 B6 22 141 (cf (lgV f.self (.slice none 0 0) rv)) := b6'.same (fun i hi => by
    have := layv_in (cf (lgV 0 (.slice none 0 0) (.slice none 0 0))) 0 (lgV f.self (.slice none 0 0) rv) (j := i) (by rw [lgV_size hfr.ok.self]; exact hi)
    rw [Nat.zero_add] at this
    rw [this])
  have hsz := av_size hfr.ok.self
  have qA : AAt (cf (lgV f.self (.slice none 0 0) rv)) 0 f.self := fun j v hv => by
    have hj := (Array.getElem?_eq_some_iff.1 hv).1
    rw [Nat.zero_add]
    exact cf_get (by rw [Array.getElem?_append_left hj]; exact hv)
  have q20 : cf (lgV f.self (.slice none 0 0) rv) 20 = .slice none 0 0 := by rw [cf_append, if_neg (by omega), hsz]; rfl
  have q21 : cf (lgV f.self (.slice none 0 0) rv) 21 = rv := by rw [cf_append, if_neg (by omega), hsz]; rfl
  generalize cf (lgV f.self (.slice none 0 0) rv) = d6 at *
  clear b6 b6' b5 m6 HO HA0 HA1 HRd HR
  go_upto_region 6 with (fail)
  try simp only [Act.put]
  go_loopw [7] (fun iv wr => ∃ (i bt : Nat) (cB ct : Nat → Value) (tv : Value), iv = .int .i64 (i : Nat) ∧ i ≤ k ∧ Blk wr B6 22 141 cB ∧ AAt cB 0 f.self ∧ cB 20 = tv ∧ cB 21 = rv ∧ Arn wr 33 32 tv i bt ct ∧ (0 < i → w3.heap.size ≤ bt ∧ bt ≠ B6) ∧ (i = 0 → tv = .slice none 0 0) ∧ (∀ j, j < i → ∀ q u, (bw (f.arg (2 + j)))[q]? = some u → ct (j * 32 + q) = u) ∧ Ext w3 wr) (fun iv _ => k - (intOf iv).toNat)
  case atStart => exact ⟨0, 0, d6, fun _ => undef, .slice none 0 0, rfl, by omega, hB0, qA, q20, q21, Or.inl ⟨rfl, rfl⟩, fun q => absurd q (Nat.lt_irrefl _), fun _ => rfl, fun j hj => absurd hj (Nat.not_lt_zero _), hE6⟩
  case round =>
    clear hB0 qA q20 q21 hE6
    obtain ⟨i, bt, cB, ct, tv, rfl, hik, hB, qA, q20, q21, hAr, hbt, hz0, hrows, hE⟩ := hrel
    rcases Nat.lt_or_ge i k with hlt | hge
    · have hii : (i : Int) < k := by omega
      have j1 : IntKind.i64.wrap ((2 : Int) + i) = ((2 + i : Nat) : Int) := by rw [IntKind.wrap_i64]; omega
      have HAr := fun W (hW : Ext wr W) => mArg (h.ext ((hEw3.trans hE).trans hW)) hst (2 + i) (by omega)
      have hxl := harg (2 + i)
      have HBE := fun W => uBE32 (f.arg (2 + i)) W hxl
      obtain ⟨x, hx⟩ : ∃ x, Hid (f.arg (2 + i) = x) := ⟨_, rfl⟩
      obtain ⟨p, hp⟩ : ∃ p, Hid (2 + i = p) := ⟨_, rfl⟩
      rw [hx.out] at HAr HBE hxl
      rw [hp.out] at HAr j1
      have KT : ∀ W, Ext wr W → W.cell? ⟨B6, 20, none⟩ = some tv := fun W hW => by rw [(hB.ext hW).cell (by decide), q20]
      have HAA : ∀ W, Ext wr W → Arn W 33 32 tv i bt ct := fun W hW => by
        rcases hAr with q | ⟨cp, q1, q2, q3, q4⟩
        · exact Or.inl q
        · exact Or.inr ⟨cp, q1, q2, q3, q4.ext hW⟩
      go_upto_region 8 with (fail)
      refine w_ext ?_
      rintro W0 hW0
      refine wp_region_held_drew (S := fun w' => (0 ≤ (w' : World).heap.size)) (by kernel_rfl) (Nat.zero_le _) (fun hHeld => ?_)
      have HH : Hid ((0 ≤ (_ : World).heap.size)) := hHeld
      clear hHeld
      refine wpAnyH_take (i := 0) (v := ?_) rfl (by kernel_rfl) (by kernel_rfl) (by kernel_rfl) (fun _ _ _ h => h) (Or.inl ⟨by rfl, ?_⟩) HH.out ?_
      rotate_left
      · intro w hSw; go_simp; try with_reducible rfl
      change wpAnyH _ _ _ _ _ _ _ (Act.put _ (some 38) _) _
      simp only [Act.put, List.setIfInBounds_toArray, List.set_cons_zero, List.set_cons_succ]
      refine wpAnyH_take (i := 2) (v := ?_) rfl (by kernel_rfl) (by kernel_rfl) (by kernel_rfl) (fun _ _ _ h => h) (Or.inl ⟨by rfl, ?_⟩) HH.out ?_
      rotate_left
      · intro w hSw; go_simp; try with_reducible rfl
      change wpAnyH _ _ _ _ _ _ _ (Act.put _ (some 40) _) _
      simp only [Act.put, List.setIfInBounds_toArray, List.set_cons_zero, List.set_cons_succ]
      refine wpAnyH_take (i := 3) (v := ?_) rfl (by kernel_rfl) (by kernel_rfl) (by kernel_rfl) (fun _ _ _ h => h) (Or.inl ⟨by rfl, ?_⟩) HH.out ?_
      rotate_left
      · intro w hSw; go_simp; try with_reducible rfl
      change wpAnyH _ _ _ _ _ _ _ (Act.put _ (some 41) _) _
      simp only [Act.put, List.setIfInBounds_toArray, List.set_cons_zero, List.set_cons_succ]
      refine wpAnyH_take (i := 4) (v := ?_) rfl (by kernel_rfl) (by kernel_rfl) (by kernel_rfl) (fun _ _ _ h => h) (Or.inl ⟨by rfl, ?_⟩) HH.out ?_
      rotate_left
      · intro w hSw; go_simp; try with_reducible rfl
      change wpAnyH _ _ _ _ _ _ _ (Act.put _ (some 42) _) _
      simp only [Act.put, List.setIfInBounds_toArray, List.set_cons_zero, List.set_cons_succ]
      refine wpAnyH_take (i := 5) (v := ?_) rfl (by kernel_rfl) (by kernel_rfl) (by kernel_rfl) (fun _ _ _ h => h) (Or.inl ⟨by rfl, ?_⟩) HH.out ?_
      rotate_left
      · intro w hSw; go_simp; try with_reducible rfl
      change wpAnyH _ _ _ _ _ _ _ (Act.put _ (some 43) _) _
      simp only [Act.put, List.setIfInBounds_toArray, List.set_cons_zero, List.set_cons_succ]
      refine wpAnyH_ready (rs := [1, 6]) (by kernel_rfl) (by simp) ?_
      refine (AllReadyH.cons rfl (fun K hK => ?_) (AllReadyH.cons rfl (fun K hK => ?_) AllReadyH.nil))
      refine step_any rfl (op_loadC rfl one29 rfl (KT _ (by (repeat (first | with_reducible exact Ext.refl _ | with_reducible assumption | refine Ext.trans ?_ (by with_reducible assumption) | refine Ext.alloc ?_ _ _ | refine Ext.drew ?_ | refine Ext.drewN ?_ _)))) ?_)
      refine hK.out _ _ HH.out (fun hHeld => ?_)
      clear hK K HH
      have HH : Hid ((0 ≤ (_ : World).heap.size)) := hHeld
      clear hHeld
      change wpAnyH _ _ _ _ _ _ _ (Act.put _ (some 39) _) _
      simp only [Act.put, List.setIfInBounds_toArray, List.set_cons_zero, List.set_cons_succ]
      refine wpAnyH_ready (rs := [6]) (by kernel_rfl) (by simp) ?_
      refine AllReadyH.cons rfl (fun K hK => ?_) AllReadyH.nil
      go_simp
      go_at_call 273; refine (HAr _ (by (repeat (first | with_reducible exact Ext.refl _ | with_reducible assumption | refine Ext.trans ?_ (by with_reducible assumption) | refine Ext.alloc ?_ _ _ | refine Ext.drew ?_ | refine Ext.drewN ?_ _)))).mono ?_; rintro e w7 ⟨rfl, he⟩
      refine hK.out _ _ ?_ (fun hHeld => ?_)
      · exact Nat.zero_le _
      clear hK K HH
      have HH : Hid ((0 ≤ (_ : World).heap.size)) := hHeld
      clear hHeld
      refine wpAnyH_ready (rs := [7]) (by kernel_rfl) (by simp) ?_
      refine AllReadyH.cons rfl (fun K hK => ?_) AllReadyH.nil
      go_simp
      go_at_call 85; refine (HBE _).mono ?_; rintro e w8 ⟨rfl, he⟩
      refine hK.out _ _ ?_ (fun hHeld => ?_)
      · exact Nat.zero_le _
      clear hK K HH
      have HH : Hid ((0 ≤ (_ : World).heap.size)) := hHeld
      clear hHeld
      refine wpAnyH_ready (rs := [8]) (by kernel_rfl) (by simp) ?_
      refine AllReadyH.cons rfl (fun K hK => ?_) AllReadyH.nil
      refine step_any rfl (op_build1 33 Hvah.t33 _ 32 rfl under29 info28 zero28 size28 zs28 (by decide) (by decide) (bw x) (bw_size hxl) rfl ?_)
      rintro B9 W9 e9 r9 g9
      refine hK.out _ _ (Nat.zero_le _) (fun hHeld => ?_)
      clear hK K HH
      have HH : Hid ((0 ≤ (_ : World).heap.size)) := hHeld
      clear hHeld
      change wpAnyH _ _ _ _ _ _ _ (Act.put _ (some 46) _) _
      simp only [Act.put, List.setIfInBounds_toArray, List.set_cons_zero, List.set_cons_succ]
      refine wpAnyH_ready (rs := [9]) (by kernel_rfl) (by simp) ?_
      refine AllReadyH.cons rfl (fun K hK => ?_) AllReadyH.nil
      refine step_append1 rfl _ _ 34 rfl 33 Hvah.t33 _ 32 under29 info28 zero28 size28 zs28 bytes28 tv i bt ct (HAA _ (by (repeat (first | with_reducible exact Ext.refl _ | with_reducible assumption | refine Ext.trans ?_ (by with_reducible assumption) | refine Ext.alloc ?_ _ _ | refine Ext.drew ?_ | refine Ext.drewN ?_ _)))) (by omega) ⟨B9, 0, none⟩ 1 (bw x).toList (bw_size hxl) r9 (bw_one x) rfl rfl ?_
      rintro v' W10 b' c' hG
      obtain ⟨capj', rfl⟩ := hG.some
      have hEX9 : Ext wr W9 := by (repeat (first | with_reducible exact Ext.refl _ | with_reducible assumption | refine Ext.trans ?_ (by with_reducible assumption) | refine Ext.alloc ?_ _ _ | refine Ext.drew ?_ | refine Ext.drewN ?_ _))
      have h69 := hB.ext hEX9
      have hBoth : Blk W10 B6 22 141 cB ∧ w3.heap.size ≤ b' ∧ b' ≠ B6 ∧ Ext w3 W10 := by
        rcases hG.how with ⟨q1, ⟨cp, hc⟩, hm⟩ | ⟨q1, hx⟩
        · rcases Nat.eq_zero_or_pos i with hi0 | hi0
          · subst hi0
            rw [hz0 rfl] at hc; cases hc
          · obtain ⟨g1, g2⟩ := hbt hi0
            exact ⟨h69.mod hm (fun e => g2 (Eq.symm e)), by rw [q1]; exact g1, by rw [q1]; exact g2, Ext.trans_mod (hE.trans hEX9) hm (fun y hy => by have hy2 : y = bt := hy; rw [hy2]; exact g1)⟩
        · exact ⟨h69.ext hx, by rw [q1]; exact (hE.trans hEX9).size, by rw [q1]; have := h69.lt; omega, (hE.trans hEX9).trans hx⟩
      obtain ⟨hB10, gb1, gb2, hE10⟩ := hBoth
      refine hK.out _ _ (Nat.zero_le _) (fun hHeld => ?_)
      clear hK K HH
      have HH : Hid ((0 ≤ (_ : World).heap.size)) := hHeld
      clear hHeld
      change wpAnyH _ _ _ _ _ _ _ (Act.put _ (some 47) _) _
      simp only [Act.put, List.setIfInBounds_toArray, List.set_cons_zero, List.set_cons_succ]
      refine wpAnyH_take (i := 10) (v := ?_) rfl (by kernel_rfl) (by kernel_rfl) (by kernel_rfl) (fun _ _ _ h => h) (Or.inl ⟨by rfl, ?_⟩) HH.out ?_
      rotate_left
      · intro w hSw; go_simp; try with_reducible rfl
      change wpAnyH _ _ _ _ _ _ _ (Act.put _ (some 48) _) _
      simp only [Act.put, List.setIfInBounds_toArray, List.set_cons_zero, List.set_cons_succ]
      refine wpAnyH_ready (rs := [11]) (by kernel_rfl) (by simp) ?_
      refine AllReadyH.cons rfl (fun K hK => ?_) AllReadyH.nil
      refine step_any rfl (op_store1 rfl one29 rfl rfl rfl hB10 (by decide) ?_)
      rintro W11 b11 m11
      refine hK.out _ _ (Nat.zero_le _) (fun hHeld => ?_)
      clear hK K HH
      have HH : Hid ((0 ≤ (_ : World).heap.size)) := hHeld
      clear hHeld
      change wpAnyH _ _ _ _ _ _ _ (Act.put _ none _) _
      simp only [Act.put, List.setIfInBounds_toArray, List.set_cons_zero, List.set_cons_succ]
      refine wpAnyH_done (by kernel_rfl) ?_ _
      · go_wp2
        go_roundw
        case rel =>
          have hx2 := hx.out
          have b11' : Blk W11 B6 22 141 (updv cB 20 (.slice (some ⟨b', 0, none⟩) (i + 1) capj')) := b11
          refine ⟨i + 1, b', _, c', _, int_eq (by omega), by omega, b11', qA.upd hfr.ok.self (by omega), updv_same _ _ _, by rw [updv_ne _ _ (by decide)]; exact q21, hG.arn.mod m11 (fun q => gb2 q), fun _ => ⟨gb1, gb2⟩, fun q => absurd q (Nat.succ_ne_zero _), fun j hj q u hu => ?_, Ext.trans_mod hE10 m11 (fun y hy => by have hy2 : y = B6 := hy; rw [hy2]; exact g6)⟩
          by_cases e : j = i
          · subst e
            rw [hx2] at hu
            exact hG.new q u (by rw [Array.getElem?_toList]; exact hu)
          · have hq := (Array.getElem?_eq_some_iff.1 hu).1
            rw [bw_size (harg _)] at hq
            rw [hG.old _ (by omega)]
            exact hrows j (by omega) q u hu
        case measure => simp [intOf]; omega
      go_simp
      go_at_call 273; refine (HAr _ (by (repeat (first | with_reducible exact Ext.refl _ | with_reducible assumption | refine Ext.trans ?_ (by with_reducible assumption) | refine Ext.alloc ?_ _ _ | refine Ext.drew ?_ | refine Ext.drewN ?_ _)))).mono ?_; rintro e w7 ⟨rfl, he⟩
      refine hK.out _ _ ?_ (fun hHeld => ?_)
      · exact Nat.zero_le _
      clear hK K HH
      have HH : Hid ((0 ≤ (_ : World).heap.size)) := hHeld
      clear hHeld
      refine wpAnyH_ready (rs := [1, 7]) (by kernel_rfl) (by simp) ?_
      refine (AllReadyH.cons rfl (fun K hK => ?_) (AllReadyH.cons rfl (fun K hK => ?_) AllReadyH.nil))
      refine step_any rfl (op_loadC rfl one29 rfl (KT _ (by (repeat (first | with_reducible exact Ext.refl _ | with_reducible assumption | refine Ext.trans ?_ (by with_reducible assumption) | refine Ext.alloc ?_ _ _ | refine Ext.drew ?_ | refine Ext.drewN ?_ _)))) ?_)
      refine hK.out _ _ HH.out (fun hHeld => ?_)
      clear hK K HH
      have HH : Hid ((0 ≤ (_ : World).heap.size)) := hHeld
      clear hHeld
      change wpAnyH _ _ _ _ _ _ _ (Act.put _ (some 39) _) _
      simp only [Act.put, List.setIfInBounds_toArray, List.set_cons_zero, List.set_cons_succ]
      refine wpAnyH_ready (rs := [7]) (by kernel_rfl) (by simp) ?_
      refine AllReadyH.cons rfl (fun K hK => ?_) AllReadyH.nil
      go_simp
      go_at_call 85; refine (HBE _).mono ?_; rintro e w8 ⟨rfl, he⟩
      refine hK.out _ _ ?_ (fun hHeld => ?_)
      · exact Nat.zero_le _
      clear hK K HH
      have HH : Hid ((0 ≤ (_ : World).heap.size)) := hHeld
      clear hHeld
      refine wpAnyH_ready (rs := [8]) (by kernel_rfl) (by simp) ?_
      refine AllReadyH.cons rfl (fun K hK => ?_) AllReadyH.nil
      refine step_any rfl (op_build1 33 Hvah.t33 _ 32 rfl under29 info28 zero28 size28 zs28 (by decide) (by decide) (bw x) (bw_size hxl) rfl ?_)
      rintro B9 W9 e9 r9 g9
      refine hK.out _ _ (Nat.zero_le _) (fun hHeld => ?_)
      clear hK K HH
      have HH : Hid ((0 ≤ (_ : World).heap.size)) := hHeld
      clear hHeld
      change wpAnyH _ _ _ _ _ _ _ (Act.put _ (some 46) _) _
      simp only [Act.put, List.setIfInBounds_toArray, List.set_cons_zero, List.set_cons_succ]
      refine wpAnyH_ready (rs := [9]) (by kernel_rfl) (by simp) ?_
      refine AllReadyH.cons rfl (fun K hK => ?_) AllReadyH.nil
      refine step_append1 rfl _ _ 34 rfl 33 Hvah.t33 _ 32 under29 info28 zero28 size28 zs28 bytes28 tv i bt ct (HAA _ (by (repeat (first | with_reducible exact Ext.refl _ | with_reducible assumption | refine Ext.trans ?_ (by with_reducible assumption) | refine Ext.alloc ?_ _ _ | refine Ext.drew ?_ | refine Ext.drewN ?_ _)))) (by omega) ⟨B9, 0, none⟩ 1 (bw x).toList (bw_size hxl) r9 (bw_one x) rfl rfl ?_
      rintro v' W10 b' c' hG
      obtain ⟨capj', rfl⟩ := hG.some
      have hEX9 : Ext wr W9 := by (repeat (first | with_reducible exact Ext.refl _ | with_reducible assumption | refine Ext.trans ?_ (by with_reducible assumption) | refine Ext.alloc ?_ _ _ | refine Ext.drew ?_ | refine Ext.drewN ?_ _))
      have h69 := hB.ext hEX9
      have hBoth : Blk W10 B6 22 141 cB ∧ w3.heap.size ≤ b' ∧ b' ≠ B6 ∧ Ext w3 W10 := by
        rcases hG.how with ⟨q1, ⟨cp, hc⟩, hm⟩ | ⟨q1, hx⟩
        · rcases Nat.eq_zero_or_pos i with hi0 | hi0
          · subst hi0
            rw [hz0 rfl] at hc; cases hc
          · obtain ⟨g1, g2⟩ := hbt hi0
            exact ⟨h69.mod hm (fun e => g2 (Eq.symm e)), by rw [q1]; exact g1, by rw [q1]; exact g2, Ext.trans_mod (hE.trans hEX9) hm (fun y hy => by have hy2 : y = bt := hy; rw [hy2]; exact g1)⟩
        · exact ⟨h69.ext hx, by rw [q1]; exact (hE.trans hEX9).size, by rw [q1]; have := h69.lt; omega, (hE.trans hEX9).trans hx⟩
      obtain ⟨hB10, gb1, gb2, hE10⟩ := hBoth
      refine hK.out _ _ (Nat.zero_le _) (fun hHeld => ?_)
      clear hK K HH
      have HH : Hid ((0 ≤ (_ : World).heap.size)) := hHeld
      clear hHeld
      change wpAnyH _ _ _ _ _ _ _ (Act.put _ (some 47) _) _
      simp only [Act.put, List.setIfInBounds_toArray, List.set_cons_zero, List.set_cons_succ]
      refine wpAnyH_take (i := 10) (v := ?_) rfl (by kernel_rfl) (by kernel_rfl) (by kernel_rfl) (fun _ _ _ h => h) (Or.inl ⟨by rfl, ?_⟩) HH.out ?_
      rotate_left
      · intro w hSw; go_simp; try with_reducible rfl
      change wpAnyH _ _ _ _ _ _ _ (Act.put _ (some 48) _) _
      simp only [Act.put, List.setIfInBounds_toArray, List.set_cons_zero, List.set_cons_succ]
      refine wpAnyH_ready (rs := [11]) (by kernel_rfl) (by simp) ?_
      refine AllReadyH.cons rfl (fun K hK => ?_) AllReadyH.nil
      refine step_any rfl (op_store1 rfl one29 rfl rfl rfl hB10 (by decide) ?_)
      rintro W11 b11 m11
      refine hK.out _ _ (Nat.zero_le _) (fun hHeld => ?_)
      clear hK K HH
      have HH : Hid ((0 ≤ (_ : World).heap.size)) := hHeld
      clear hHeld
      change wpAnyH _ _ _ _ _ _ _ (Act.put _ none _) _
      simp only [Act.put, List.setIfInBounds_toArray, List.set_cons_zero, List.set_cons_succ]
      refine wpAnyH_done (by kernel_rfl) ?_ _
      · go_wp2
        go_roundw
        case rel =>
          have hx2 := hx.out
          have b11' : Blk W11 B6 22 141 (updv cB 20 (.slice (some ⟨b', 0, none⟩) (i + 1) capj')) := b11
          refine ⟨i + 1, b', _, c', _, int_eq (by omega), by omega, b11', qA.upd hfr.ok.self (by omega), updv_same _ _ _, by rw [updv_ne _ _ (by decide)]; exact q21, hG.arn.mod m11 (fun q => gb2 q), fun _ => ⟨gb1, gb2⟩, fun q => absurd q (Nat.succ_ne_zero _), fun j hj q u hu => ?_, Ext.trans_mod hE10 m11 (fun y hy => by have hy2 : y = B6 := hy; rw [hy2]; exact g6)⟩
          by_cases e : j = i
          · subst e
            rw [hx2] at hu
            exact hG.new q u (by rw [Array.getElem?_toList]; exact hu)
          · have hq := (Array.getElem?_eq_some_iff.1 hu).1
            rw [bw_size (harg _)] at hq
            rw [hG.old _ (by omega)]
            exact hrows j (by omega) q u hu
        case measure => simp [intOf]; omega
      go_simp
      go_at_call 85; refine (HBE _).mono ?_; rintro e w8 ⟨rfl, he⟩
      refine hK.out _ _ ?_ (fun hHeld => ?_)
      · exact Nat.zero_le _
      clear hK K HH
      have HH : Hid ((0 ≤ (_ : World).heap.size)) := hHeld
      clear hHeld
      refine wpAnyH_ready (rs := [1, 8]) (by kernel_rfl) (by simp) ?_
      refine (AllReadyH.cons rfl (fun K hK => ?_) (AllReadyH.cons rfl (fun K hK => ?_) AllReadyH.nil))
      refine step_any rfl (op_loadC rfl one29 rfl (KT _ (by (repeat (first | with_reducible exact Ext.refl _ | with_reducible assumption | refine Ext.trans ?_ (by with_reducible assumption) | refine Ext.alloc ?_ _ _ | refine Ext.drew ?_ | refine Ext.drewN ?_ _)))) ?_)
      refine hK.out _ _ HH.out (fun hHeld => ?_)
      clear hK K HH
      have HH : Hid ((0 ≤ (_ : World).heap.size)) := hHeld
      clear hHeld
      change wpAnyH _ _ _ _ _ _ _ (Act.put _ (some 39) _) _
      simp only [Act.put, List.setIfInBounds_toArray, List.set_cons_zero, List.set_cons_succ]
      refine wpAnyH_ready (rs := [8]) (by kernel_rfl) (by simp) ?_
      refine AllReadyH.cons rfl (fun K hK => ?_) AllReadyH.nil
      refine step_any rfl (op_build1 33 Hvah.t33 _ 32 rfl under29 info28 zero28 size28 zs28 (by decide) (by decide) (bw x) (bw_size hxl) rfl ?_)
      rintro B9 W9 e9 r9 g9
      refine hK.out _ _ (Nat.zero_le _) (fun hHeld => ?_)
      clear hK K HH
      have HH : Hid ((0 ≤ (_ : World).heap.size)) := hHeld
      clear hHeld
      change wpAnyH _ _ _ _ _ _ _ (Act.put _ (some 46) _) _
      simp only [Act.put, List.setIfInBounds_toArray, List.set_cons_zero, List.set_cons_succ]
      refine wpAnyH_ready (rs := [9]) (by kernel_rfl) (by simp) ?_
      refine AllReadyH.cons rfl (fun K hK => ?_) AllReadyH.nil
      refine step_append1 rfl _ _ 34 rfl 33 Hvah.t33 _ 32 under29 info28 zero28 size28 zs28 bytes28 tv i bt ct (HAA _ (by (repeat (first | with_reducible exact Ext.refl _ | with_reducible assumption | refine Ext.trans ?_ (by with_reducible assumption) | refine Ext.alloc ?_ _ _ | refine Ext.drew ?_ | refine Ext.drewN ?_ _)))) (by omega) ⟨B9, 0, none⟩ 1 (bw x).toList (bw_size hxl) r9 (bw_one x) rfl rfl ?_
      rintro v' W10 b' c' hG
      obtain ⟨capj', rfl⟩ := hG.some
      have hEX9 : Ext wr W9 := by (repeat (first | with_reducible exact Ext.refl _ | with_reducible assumption | refine Ext.trans ?_ (by with_reducible assumption) | refine Ext.alloc ?_ _ _ | refine Ext.drew ?_ | refine Ext.drewN ?_ _))
      have h69 := hB.ext hEX9
      have hBoth : Blk W10 B6 22 141 cB ∧ w3.heap.size ≤ b' ∧ b' ≠ B6 ∧ Ext w3 W10 := by
        rcases hG.how with ⟨q1, ⟨cp, hc⟩, hm⟩ | ⟨q1, hx⟩
        · rcases Nat.eq_zero_or_pos i with hi0 | hi0
          · subst hi0
            rw [hz0 rfl] at hc; cases hc
          · obtain ⟨g1, g2⟩ := hbt hi0
            exact ⟨h69.mod hm (fun e => g2 (Eq.symm e)), by rw [q1]; exact g1, by rw [q1]; exact g2, Ext.trans_mod (hE.trans hEX9) hm (fun y hy => by have hy2 : y = bt := hy; rw [hy2]; exact g1)⟩
        · exact ⟨h69.ext hx, by rw [q1]; exact (hE.trans hEX9).size, by rw [q1]; have := h69.lt; omega, (hE.trans hEX9).trans hx⟩
      obtain ⟨hB10, gb1, gb2, hE10⟩ := hBoth
      refine hK.out _ _ (Nat.zero_le _) (fun hHeld => ?_)
      clear hK K HH
      have HH : Hid ((0 ≤ (_ : World).heap.size)) := hHeld
      clear hHeld
      change wpAnyH _ _ _ _ _ _ _ (Act.put _ (some 47) _) _
      simp only [Act.put, List.setIfInBounds_toArray, List.set_cons_zero, List.set_cons_succ]
      refine wpAnyH_take (i := 10) (v := ?_) rfl (by kernel_rfl) (by kernel_rfl) (by kernel_rfl) (fun _ _ _ h => h) (Or.inl ⟨by rfl, ?_⟩) HH.out ?_
      rotate_left
      · intro w hSw; go_simp; try with_reducible rfl
      change wpAnyH _ _ _ _ _ _ _ (Act.put _ (some 48) _) _
      simp only [Act.put, List.setIfInBounds_toArray, List.set_cons_zero, List.set_cons_succ]
      refine wpAnyH_ready (rs := [11]) (by kernel_rfl) (by simp) ?_
      refine AllReadyH.cons rfl (fun K hK => ?_) AllReadyH.nil
      refine step_any rfl (op_store1 rfl one29 rfl rfl rfl hB10 (by decide) ?_)
      rintro W11 b11 m11
      refine hK.out _ _ (Nat.zero_le _) (fun hHeld => ?_)
      clear hK K HH
      have HH : Hid ((0 ≤ (_ : World).heap.size)) := hHeld
      clear hHeld
      change wpAnyH _ _ _ _ _ _ _ (Act.put _ none _) _
      simp only [Act.put, List.setIfInBounds_toArray, List.set_cons_zero, List.set_cons_succ]
      refine wpAnyH_done (by kernel_rfl) ?_ _
      · go_wp2
        go_roundw
        case rel =>
          have hx2 := hx.out
          have b11' : Blk W11 B6 22 141 (updv cB 20 (.slice (some ⟨b', 0, none⟩) (i + 1) capj')) := b11
          refine ⟨i + 1, b', _, c', _, int_eq (by omega), by omega, b11', qA.upd hfr.ok.self (by omega), updv_same _ _ _, by rw [updv_ne _ _ (by decide)]; exact q21, hG.arn.mod m11 (fun q => gb2 q), fun _ => ⟨gb1, gb2⟩, fun q => absurd q (Nat.succ_ne_zero _), fun j hj q u hu => ?_, Ext.trans_mod hE10 m11 (fun y hy => by have hy2 : y = B6 := hy; rw [hy2]; exact g6)⟩
          by_cases e : j = i
          · subst e
            rw [hx2] at hu
            exact hG.new q u (by rw [Array.getElem?_toList]; exact hu)
          · have hq := (Array.getElem?_eq_some_iff.1 hu).1
            rw [bw_size (harg _)] at hq
            rw [hG.old _ (by omega)]
            exact hrows j (by omega) q u hu
        case measure => simp [intOf]; omega
      refine step_any rfl (op_build1 33 Hvah.t33 _ 32 rfl under29 info28 zero28 size28 zs28 (by decide) (by decide) (bw x) (bw_size hxl) rfl ?_)
      rintro B9 W9 e9 r9 g9
      refine hK.out _ _ (Nat.zero_le _) (fun hHeld => ?_)
      clear hK K HH
      have HH : Hid ((0 ≤ (_ : World).heap.size)) := hHeld
      clear hHeld
      change wpAnyH _ _ _ _ _ _ _ (Act.put _ (some 46) _) _
      simp only [Act.put, List.setIfInBounds_toArray, List.set_cons_zero, List.set_cons_succ]
      refine wpAnyH_ready (rs := [1]) (by kernel_rfl) (by simp) ?_
      refine AllReadyH.cons rfl (fun K hK => ?_) AllReadyH.nil
      refine step_any rfl (op_loadC rfl one29 rfl (KT _ (by (repeat (first | with_reducible exact Ext.refl _ | with_reducible assumption | refine Ext.trans ?_ (by with_reducible assumption) | refine Ext.alloc ?_ _ _ | refine Ext.drew ?_ | refine Ext.drewN ?_ _)))) ?_)
      refine hK.out _ _ HH.out (fun hHeld => ?_)
      clear hK K HH
      have HH : Hid ((0 ≤ (_ : World).heap.size)) := hHeld
      clear hHeld
      change wpAnyH _ _ _ _ _ _ _ (Act.put _ (some 39) _) _
      simp only [Act.put, List.setIfInBounds_toArray, List.set_cons_zero, List.set_cons_succ]
      refine wpAnyH_ready (rs := [9]) (by kernel_rfl) (by simp) ?_
      refine AllReadyH.cons rfl (fun K hK => ?_) AllReadyH.nil
      refine step_append1 rfl _ _ 34 rfl 33 Hvah.t33 _ 32 under29 info28 zero28 size28 zs28 bytes28 tv i bt ct (HAA _ (by (repeat (first | with_reducible exact Ext.refl _ | with_reducible assumption | refine Ext.trans ?_ (by with_reducible assumption) | refine Ext.alloc ?_ _ _ | refine Ext.drew ?_ | refine Ext.drewN ?_ _)))) (by omega) ⟨B9, 0, none⟩ 1 (bw x).toList (bw_size hxl) r9 (bw_one x) rfl rfl ?_
      rintro v' W10 b' c' hG
      obtain ⟨capj', rfl⟩ := hG.some
      have hEX9 : Ext wr W9 := by (repeat (first | with_reducible exact Ext.refl _ | with_reducible assumption | refine Ext.trans ?_ (by with_reducible assumption) | refine Ext.alloc ?_ _ _ | refine Ext.drew ?_ | refine Ext.drewN ?_ _))
      have h69 := hB.ext hEX9
      have hBoth : Blk W10 B6 22 141 cB ∧ w3.heap.size ≤ b' ∧ b' ≠ B6 ∧ Ext w3 W10 := by
        rcases hG.how with ⟨q1, ⟨cp, hc⟩, hm⟩ | ⟨q1, hx⟩
        · rcases Nat.eq_zero_or_pos i with hi0 | hi0
          · subst hi0
            rw [hz0 rfl] at hc; cases hc
          · obtain ⟨g1, g2⟩ := hbt hi0
            exact ⟨h69.mod hm (fun e => g2 (Eq.symm e)), by rw [q1]; exact g1, by rw [q1]; exact g2, Ext.trans_mod (hE.trans hEX9) hm (fun y hy => by have hy2 : y = bt := hy; rw [hy2]; exact g1)⟩
        · exact ⟨h69.ext hx, by rw [q1]; exact (hE.trans hEX9).size, by rw [q1]; have := h69.lt; omega, (hE.trans hEX9).trans hx⟩
      obtain ⟨hB10, gb1, gb2, hE10⟩ := hBoth
      refine hK.out _ _ (Nat.zero_le _) (fun hHeld => ?_)
      clear hK K HH
      have HH : Hid ((0 ≤ (_ : World).heap.size)) := hHeld
      clear hHeld
      change wpAnyH _ _ _ _ _ _ _ (Act.put _ (some 47) _) _
      simp only [Act.put, List.setIfInBounds_toArray, List.set_cons_zero, List.set_cons_succ]
      refine wpAnyH_take (i := 10) (v := ?_) rfl (by kernel_rfl) (by kernel_rfl) (by kernel_rfl) (fun _ _ _ h => h) (Or.inl ⟨by rfl, ?_⟩) HH.out ?_
      rotate_left
      · intro w hSw; go_simp; try with_reducible rfl
      change wpAnyH _ _ _ _ _ _ _ (Act.put _ (some 48) _) _
      simp only [Act.put, List.setIfInBounds_toArray, List.set_cons_zero, List.set_cons_succ]
      refine wpAnyH_ready (rs := [11]) (by kernel_rfl) (by simp) ?_
      refine AllReadyH.cons rfl (fun K hK => ?_) AllReadyH.nil
      refine step_any rfl (op_store1 rfl one29 rfl rfl rfl hB10 (by decide) ?_)
      rintro W11 b11 m11
      refine hK.out _ _ (Nat.zero_le _) (fun hHeld => ?_)
      clear hK K HH
      have HH : Hid ((0 ≤ (_ : World).heap.size)) := hHeld
      clear hHeld
      change wpAnyH _ _ _ _ _ _ _ (Act.put _ none _) _
      simp only [Act.put, List.setIfInBounds_toArray, List.set_cons_zero, List.set_cons_succ]
      refine wpAnyH_done (by kernel_rfl) ?_ _
      · go_wp2
        go_roundw
        case rel =>
          have hx2 := hx.out
          have b11' : Blk W11 B6 22 141 (updv cB 20 (.slice (some ⟨b', 0, none⟩) (i + 1) capj')) := b11
          refine ⟨i + 1, b', _, c', _, int_eq (by omega), by omega, b11', qA.upd hfr.ok.self (by omega), updv_same _ _ _, by rw [updv_ne _ _ (by decide)]; exact q21, hG.arn.mod m11 (fun q => gb2 q), fun _ => ⟨gb1, gb2⟩, fun q => absurd q (Nat.succ_ne_zero _), fun j hj q u hu => ?_, Ext.trans_mod hE10 m11 (fun y hy => by have hy2 : y = B6 := hy; rw [hy2]; exact g6)⟩
          by_cases e : j = i
          · subst e
            rw [hx2] at hu
            exact hG.new q u (by rw [Array.getElem?_toList]; exact hu)
          · have hq := (Array.getElem?_eq_some_iff.1 hu).1
            rw [bw_size (harg _)] at hq
            rw [hG.old _ (by omega)]
            exact hrows j (by omega) q u hu
        case measure => simp [intOf]; omega
    · have hii : ¬ (i : Int) < k := by omega
      obtain rfl : k = i := by omega
      have hBL : Blk wr B6 22 141 (cf (lgV f.self tv rv)) := hB.same (fun j hj => by rw [← rowLg hfr.ok.self qA q20 q21, cf_rowOf _ _ _ hj, Nat.zero_add])
      have hWL : WL (Mu own) wr tv ((List.range k).map fun j => f.arg (2 + j)) := by
        rcases hAr with ⟨q1, q2⟩ | ⟨cp, q1, q2, q3, q4⟩
        · refine Or.inl ⟨by rw [q1]; rfl, q2⟩
        · rcases Nat.eq_zero_or_pos k with hk0 | hk0
          · subst hk0
            exact Or.inl ⟨rfl, hz0 rfl⟩
          · obtain ⟨g1, g2⟩ := hbt hk0
            refine Or.inr ⟨bt, 0, cp, by rw [q1]; simp, by simpa using q2, q3, fun q => q (h.v.fresh bt (Nat.le_trans hEw3.size g1)), q4.lt, fun j hj => ?_⟩
            have hj : j < k := by simpa using hj
            have ej : ((List.range k).map fun j => f.arg (2 + j))[j]'(by simpa using hj) = f.arg (2 + j) := by simp
            rw [ej]
            refine ⟨harg _, fun q u hu => ?_⟩
            have hq := (Array.getElem?_eq_some_iff.1 hu).1
            rw [bw_size (harg _)] at hq
            rw [Nat.zero_add, q4.cell (by omega), hrows j hj q u hu]
      have hEw : Ext w wr := hEw3.trans hE
      have hrv2 := hrv.ext hE
      have o6 : own B6 = 0 := h.v.fresh B6 (Nat.le_trans hEw3.size g6)
      have hWLl : ((List.range k).map fun j => f.arg (2 + j)).length ≤ 4 := by simpa using hk
      obtain ⟨TL, hTL⟩ : ∃ TL, Hid (((List.range k).map fun j => f.arg (2 + j)) = TL) := ⟨_, rfl⟩
      rw [hTL.out] at hWL hWLl
      clear hAr hbt hrows hB qA q20 q21 harg hE hz0
      go_upto_region 9 with (fail)
      refine w_ext ?_
      rintro W0 hW0
      have h0 := h.ext (show Ext w W0 by (repeat (first | with_reducible exact Ext.refl _ | with_reducible assumption | refine Ext.trans ?_ (by with_reducible assumption) | refine Ext.alloc ?_ _ _ | refine Ext.drew ?_ | refine Ext.drewN ?_ _)))
      have hst0 := hst
      refine wp_region_held_drew (S := fun w' => SV own g c W0 w') (by kernel_rfl) (SV.start h0.v.blk (Ext.refl _).drew) (fun hHeld => ?_)
      have HH : Hid (SV own g c W0 _) := hHeld
      clear hHeld
      refine wpAnyH_take (i := 0) (v := ?_) rfl (by kernel_rfl) (by kernel_rfl) (by kernel_rfl) (fun _ _ _ h => h) (Or.inl ⟨by rfl, ?_⟩) HH.out ?_
      rotate_left
      · intro w hSw; go_simp; try with_reducible rfl
      change wpAnyH _ _ _ _ _ _ _ (Act.put _ (some 49) _) _
      simp only [Act.put, List.setIfInBounds_toArray, List.set_cons_zero, List.set_cons_succ]
      refine wpAnyH_take (i := 1) (v := ?_) rfl (by kernel_rfl) (by kernel_rfl) (by kernel_rfl) (fun _ _ _ h => h) (Or.inl ⟨by rfl, ?_⟩) HH.out ?_
      rotate_left
      · intro w hSw; go_simp; try with_reducible rfl
      change wpAnyH _ _ _ _ _ _ _ (Act.put _ (some 50) _) _
      simp only [Act.put, List.setIfInBounds_toArray, List.set_cons_zero, List.set_cons_succ]
      refine wpAnyH_take (i := 2) (v := ?_) rfl (by kernel_rfl) (by kernel_rfl) (by kernel_rfl) (fun _ _ _ h => h) (Or.inl ⟨by rfl, ?_⟩) HH.out ?_
      rotate_left
      · intro w hSw; go_simp; try with_reducible rfl
      change wpAnyH _ _ _ _ _ _ _ (Act.put _ (some 51) _) _
      simp only [Act.put, List.setIfInBounds_toArray, List.set_cons_zero, List.set_cons_succ]
      refine wpAnyH_take (i := 3) (v := ?_) rfl (by kernel_rfl) (by kernel_rfl) (by kernel_rfl) (fun _ _ _ h => h) (Or.inl ⟨by rfl, ?_⟩) HH.out ?_
      rotate_left
      · intro w hSw; go_simp; try with_reducible rfl
      change wpAnyH _ _ _ _ _ _ _ (Act.put _ (some 52) _) _
      simp only [Act.put, List.setIfInBounds_toArray, List.set_cons_zero, List.set_cons_succ]
      refine wpAnyH_take (i := 4) (v := ?_) rfl (by kernel_rfl) (by kernel_rfl) (by kernel_rfl) (fun _ _ _ h => h) (Or.inl ⟨by rfl, ?_⟩) HH.out ?_
      rotate_left
      · intro w hSw; go_simp; try with_reducible rfl
      change wpAnyH _ _ _ _ _ _ _ (Act.put _ (some 53) _) _
      simp only [Act.put, List.setIfInBounds_toArray, List.set_cons_zero, List.set_cons_succ]
      refine wpAnyH_take (i := 5) (v := ?_) rfl (by kernel_rfl) (by kernel_rfl) (by kernel_rfl) (fun _ _ _ h => h) (Or.inl ⟨by rfl, ?_⟩) HH.out ?_
      rotate_left
      · intro w hSw; go_simp; try with_reducible rfl
      change wpAnyH _ _ _ _ _ _ _ (Act.put _ (some 54) _) _
      simp only [Act.put, List.setIfInBounds_toArray, List.set_cons_zero, List.set_cons_succ]
      refine wpAnyH_take (i := 6) rfl (by kernel_rfl) (by kernel_rfl) (by kernel_rfl) (fun _ _ _ h => h) (yieldsIf_load1 (by rfl) _ _ rfl _ _ rfl onet60 _ (fun w hSw => by rw [hSw.cell (by decide), h0.m.ptr])) HH.out ?_
      change wpAnyH _ _ _ _ _ _ _ (Act.put _ (some 55) _) _
      simp only [Act.put, List.setIfInBounds_toArray, List.set_cons_zero, List.set_cons_succ]
      refine wpAnyH_take (i := 7) rfl (by kernel_rfl) (by kernel_rfl) (by kernel_rfl) (fun _ _ _ h => h) (yields_Lg hfr.ok.self (by rfl) rfl rfl (fun w hSw => hSw.box (hBL.ext (show Ext _ W0 from by (repeat (first | with_reducible exact Ext.refl _ | with_reducible assumption | refine Ext.trans ?_ (by with_reducible assumption) | refine Ext.alloc ?_ _ _ | refine Ext.drew ?_ | refine Ext.drewN ?_ _)))) o6)) HH.out ?_
      change wpAnyH _ _ _ _ _ _ _ (Act.put _ (some 56) _) _
      simp only [Act.put, List.setIfInBounds_toArray, List.set_cons_zero, List.set_cons_succ]
      refine wpAnyH_ready (rs := [8]) (by kernel_rfl) (by simp) ?_
      refine AllReadyH.cons rfl (fun K hK => ?_) AllReadyH.nil
      go_simp
      go_at_call 393; refine (mPutLog (h0.ext (by (repeat (first | with_reducible exact Ext.refl _ | with_reducible assumption | refine Ext.trans ?_ (by with_reducible assumption) | refine Ext.alloc ?_ _ _ | refine Ext.drew ?_ | refine Ext.drewN ?_ _)))) hr ⟨f.self, TL, L⟩ hfr.ok.self (hWL.ext (show Ext wr _ by (repeat (first | with_reducible exact Ext.refl _ | with_reducible assumption | refine Ext.trans ?_ (by with_reducible assumption) | refine Ext.alloc ?_ _ _ | refine Ext.drew ?_ | refine Ext.drewN ?_ _)))) (hrv2.ext (show Ext wr _ by (repeat (first | with_reducible exact Ext.refl _ | with_reducible assumption | refine Ext.trans ?_ (by with_reducible assumption) | refine Ext.alloc ?_ _ _ | refine Ext.drew ?_ | refine Ext.drewN ?_ _)))) hWLl hlen).mono ?_; rintro e w6 ⟨rfl, own6, c6', h6, k6⟩; have kT : VStep own W0 c own6 w6 c6' := (VStep.ext (show Ext W0 _ by (repeat (first | with_reducible exact Ext.refl _ | with_reducible assumption | refine Ext.trans ?_ (by with_reducible assumption) | refine Ext.alloc ?_ _ _ | refine Ext.drew ?_ | refine Ext.drewN ?_ _)))).trans k6; have hT := h6.v.blk
      refine hK.out _ _ ?_ (fun hHeld => ?_)
      · first | exact ⟨_, _, kT, hT⟩ | exact HH.out.ext he
      clear hK K HH
      have HH : Hid (SV own g c W0 _) := hHeld
      clear hHeld
      refine wpAnyH_take (i := 9) (v := ?_) rfl (by kernel_rfl) (by kernel_rfl) (by kernel_rfl) (fun _ _ _ h => h) (Or.inl ⟨by rfl, ?_⟩) HH.out ?_
      rotate_left
      · intro w hSw; go_simp; try with_reducible rfl
      change wpAnyH _ _ _ _ _ _ _ (Act.put _ (some 58) _) _
      simp only [Act.put, List.setIfInBounds_toArray, List.set_cons_zero, List.set_cons_succ]
      refine wpAnyH_take (i := 10) (v := ?_) rfl (by kernel_rfl) (by kernel_rfl) (by kernel_rfl) (fun _ _ _ h => h) (Or.inl ⟨by rfl, ?_⟩) HH.out ?_
      rotate_left
      · intro w hSw; go_simp; try with_reducible rfl
      change wpAnyH _ _ _ _ _ _ _ (Act.put _ (some 59) _) _
      simp only [Act.put, List.setIfInBounds_toArray, List.set_cons_zero, List.set_cons_succ]
      refine wpAnyH_done (by kernel_rfl) ?_ _
      have HS := hFin w6 own6 c6' _ _ h6
      have mS : MStep own w own6 w6 := ((VStep.ext (show Ext w W0 by (repeat (first | with_reducible exact Ext.refl _ | with_reducible assumption | refine Ext.trans ?_ (by with_reducible assumption) | refine Ext.alloc ?_ _ _ | refine Ext.drew ?_ | refine Ext.drewN ?_ _)))).trans kT).mstep
      rw [wv0] at HS
      go_wp2_with (first | (go_at_call 268; refine (HS _ (by (repeat (first | with_reducible exact Ext.refl _ | with_reducible assumption | refine Ext.trans ?_ (by with_reducible assumption) | refine Ext.alloc ?_ _ _ | refine Ext.drew ?_ | refine Ext.drewN ?_ _)))).mono ?_; rintro e w9 ⟨rfl, hfin⟩))
      go_end0
      obtain ⟨c9, h9, m9⟩ := hfin
      rw [← hTL.out] at h9
      exact ⟨rfl, _, c9, h9, mS.trans m9⟩
end
end Go.Proofs.YgvahwGreat
