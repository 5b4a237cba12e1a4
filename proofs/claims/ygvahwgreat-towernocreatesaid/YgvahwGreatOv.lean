import Derived.Test.YgvahwGreatRowsW
import Derived.Test.YgvahwGreatOb
import Derived.Test.YgvahwGreatMs
import Derived.Test.YgvahwGreatOhA
import Derived.Test.YgvahwGreatOk
namespace Go.Proofs.YgvahwGreat
open Go.RowKit
set_option linter.unusedSimpArgs false
theorem mMWriteB {own : Nat → Nat} {w : World} {g : Nat} {c : Nat → Value} {V : EV} {st : ASt} {sn stale : List Nat} {s : Nat} {f : AFrame} {rest : List AFrame} (h : MRep own w g c V st (s :: sn) stale) (hst : st.frames = f :: rest) (O : Nat → Prop) (v : Value) (L : List Nat) (hv : NL O w v L) (from_ : Nat) (hfr : from_ < 18446744073709551616) (off k : Nat) (hk : 0 < k) (hfit : off + k ≤ f.mem.length) :
    Calls Hvah.prog 267 #[.pointer (some ⟨g, 1, none⟩), .int .u32 off, v, .int .u64 from_, .int .u32 k] w fun e w' => e = .returned (.bool true) ∧ MRep own w' g c V { st with frames := { f with mem := layN f.mem off (cutA L from_ k) } :: rest } (s :: sn) stale ∧ MStep own w own w' ∧ ∃ b n cap, c 1 = .slice (some ⟨b, 0, none⟩) n cap ∧ Mod (· = b) w w' := by
  obtain ⟨cap, b, o, cc, ht⟩ := h.top2 hst
  have hcl : (cutA L from_ k).length = k := by simp [cutA]
  refine (tWrite O ht h.v.blk v L hv from_ hfr hk (by omega : off + k ≤ _ - _)).mono ?_
  rintro e w1 ⟨rfl, cc', ht2, hm⟩
  have hl := h.lay hst (by rw [hcl]; exact hfit) (by rw [hcl]; exact hk) hm ht2
  refine ⟨rfl, hl.1, hl.2, b, (lowB (rest.map (fun x : AFrame => x.mem)) ++ f.mem ++ stale).length, cap, ?_, hm⟩
  rcases ht.ho with ⟨_, q, _⟩ | q
  · have := ht.h2; have := ht.h1; omega
  · rw [ht.k1, q]
section
variable {own : Nat → Nat} {w : World} {g : Nat} {c : Nat → Value} {V : EV} {st : ASt} {sn stale : List Nat} {s : Nat} {f : AFrame} {rest : List AFrame}
set_option maxRecDepth 100000 in
set_option maxHeartbeats 6400000 in
theorem mOpCopy60z (h : MRep own w g c V st (s :: sn) stale) (hst : st.frames = f :: rest) (hph : st.phase = 1) (ho : f.opcode = 60) (hl : 4 ≤ f.stack.length) (hpc : f.pc ≤ 50000) (hr : Room V 3) (hz : f.arg 3 = 0) : Calls Hvah.prog 204 #[.pointer (some ⟨g, 0, none⟩)] w fun e w' => e = .returned (.tuple #[]) ∧ ∃ own' c' V', MRep own' w' g c' V' { st with now := st.now.warm (addrA (f.arg 0)), frames := ({ f with mem := copyA f.mem (f.arg 1) (st.now.code (addrA (f.arg 0))) (f.arg 2) (f.arg 3) } : AFrame).settle 4 [] 1 :: rest } (s :: sn) stale ∧ MStep own w own' w' ∧ (V' = V ∨ V' = V.warmA (addrA (f.arg 0))) := by
  obtain ⟨hfr, hr7⟩ := h.frame hst
  have hml := hfr.ok.mLen
  have HR := fun W (hW : Ext w W) => mRun (h.ext hW) hst hph
  have HO := fun W (hW : Ext w W) => mOp (h.ext hW) hst hph
  rw [ho] at HO
  have hx0 := hfr.ok.argLt 0
  have hx1 := hfr.ok.argLt 1
  have hx2 := hfr.ok.argLt 2
  have hx3 := hfr.ok.argLt 3
  have hal : addrA (f.arg 0) < 2 ^ 160 := Nat.mod_lt _ (by decide)
  have HA0 := fun W (hW : Ext w W) => mArg (h.ext hW) hst 0 (by decide)
  have HA1 := fun W (hW : Ext w W) => mArg (h.ext hW) hst 1 (by decide)
  have HA2 := fun W (hW : Ext w W) => mArg (h.ext hW) hst 2 (by decide)
  have HZ : ∀ W, Calls Hvah.prog 87 #[wv (f.arg 3)] W fun e w' => e = .returned (.bool (decide (f.arg 3 = 0))) ∧ Ext W w' := fun W => uIsZero _ W hx3
  rw [decide_eq_true hz] at HZ
  rw [show copyA f.mem (f.arg 1) (st.now.code (addrA (f.arg 0))) (f.arg 2) (f.arg 3) = f.mem from if_pos hz]
  clear hz
  go_enter Hvah.func204, Hvah.ntmps204
  go_upto_region 3 with (first | (go_at_call 192; refine (HR _ (by (repeat (first | with_reducible exact Ext.refl _ | with_reducible assumption | refine Ext.trans ?_ (by with_reducible assumption) | refine Ext.alloc ?_ _ _ | refine Ext.drew ?_ | refine Ext.drewN ?_ _)))).mono ?_; rintro e w1 ⟨rfl, he⟩) | (go_at_call_of 273 (Value.int IntKind.i64 0); refine (HA0 _ (by (repeat (first | with_reducible exact Ext.refl _ | with_reducible assumption | refine Ext.trans ?_ (by with_reducible assumption) | refine Ext.alloc ?_ _ _ | refine Ext.drew ?_ | refine Ext.drewN ?_ _)))).mono ?_; rintro e w1 ⟨rfl, he⟩) | ((with_reducible (refine Veil.out ?_; apply wl_allocW)); rintro B3 Wa3 ca3 ea3 ba3 aa3 ga3; have hC3 : w.heap.size ≤ B3 := Nat.le_trans (Ext.size (show Ext w _ from by (repeat (first | with_reducible exact Ext.refl _ | with_reducible assumption | refine Ext.trans ?_ (by with_reducible assumption) | refine Ext.alloc ?_ _ _ | refine Ext.drew ?_ | refine Ext.drewN ?_ _)))) ga3) | ((with_reducible (refine Veil.out ?_; apply wl_storeWB)); (case hx => rfl); (case hy => first | rfl | exact wv0.symm); (case hB => exact ba3.ext (by (repeat (first | with_reducible exact Ext.refl _ | with_reducible assumption | refine Ext.trans ?_ (by with_reducible assumption) | refine Ext.alloc ?_ _ _ | refine Ext.drew ?_ | refine Ext.drewN ?_ _)))); (case hi => decide); rintro W3 c3 b3 a3 _ m3; have hE3 : Ext w W3 := Ext.trans_mod (by (repeat (first | with_reducible exact Ext.refl _ | with_reducible assumption | refine Ext.trans ?_ (by with_reducible assumption) | refine Ext.alloc ?_ _ _ | refine Ext.drew ?_ | refine Ext.drewN ?_ _))) m3 (fun i hi => by have hi2 : i = _ := hi; rw [hi2]; exact hC3); clear ba3 aa3 m3))
  go_upto_region 4 with (first | (go_at_call_of 273 (Value.int IntKind.i64 1); refine (HA1 _ (by (repeat (first | with_reducible exact Ext.refl _ | with_reducible assumption | refine Ext.trans ?_ (by with_reducible assumption) | refine Ext.alloc ?_ _ _ | refine Ext.drew ?_ | refine Ext.drewN ?_ _)))).mono ?_; rintro e w1 ⟨rfl, he⟩) | ((with_reducible (refine Veil.out ?_; apply wl_allocW)); rintro B4 Wa4 ca4 ea4 ba4 aa4 ga4; have hC4 : W3.heap.size ≤ B4 := Nat.le_trans (Ext.size (show Ext W3 _ from by (repeat (first | with_reducible exact Ext.refl _ | with_reducible assumption | refine Ext.trans ?_ (by with_reducible assumption) | refine Ext.alloc ?_ _ _ | refine Ext.drew ?_ | refine Ext.drewN ?_ _)))) ga4) | ((with_reducible (refine Veil.out ?_; apply wl_storeWB)); (case hx => rfl); (case hy => first | rfl | exact wv0.symm); (case hB => exact ba4.ext (by (repeat (first | with_reducible exact Ext.refl _ | with_reducible assumption | refine Ext.trans ?_ (by with_reducible assumption) | refine Ext.alloc ?_ _ _ | refine Ext.drew ?_ | refine Ext.drewN ?_ _)))); (case hi => decide); rintro W4 c4 b4 a4 _ m4; have hE4 : Ext W3 W4 := Ext.trans_mod (by (repeat (first | with_reducible exact Ext.refl _ | with_reducible assumption | refine Ext.trans ?_ (by with_reducible assumption) | refine Ext.alloc ?_ _ _ | refine Ext.drew ?_ | refine Ext.drewN ?_ _))) m4 (fun i hi => by have hi2 : i = _ := hi; rw [hi2]; exact hC4); clear ba4 aa4 m4))
  go_upto_region 5 with (first | (go_at_call_of 273 (Value.int IntKind.i64 2); refine (HA2 _ (by (repeat (first | with_reducible exact Ext.refl _ | with_reducible assumption | refine Ext.trans ?_ (by with_reducible assumption) | refine Ext.alloc ?_ _ _ | refine Ext.drew ?_ | refine Ext.drewN ?_ _)))).mono ?_; rintro e w1 ⟨rfl, he⟩) | ((with_reducible (refine Veil.out ?_; apply wl_allocW)); rintro B5 Wa5 ca5 ea5 ba5 aa5 ga5; have hC5 : W4.heap.size ≤ B5 := Nat.le_trans (Ext.size (show Ext W4 _ from by (repeat (first | with_reducible exact Ext.refl _ | with_reducible assumption | refine Ext.trans ?_ (by with_reducible assumption) | refine Ext.alloc ?_ _ _ | refine Ext.drew ?_ | refine Ext.drewN ?_ _)))) ga5) | ((with_reducible (refine Veil.out ?_; apply wl_storeWB)); (case hx => rfl); (case hy => first | rfl | exact wv0.symm); (case hB => exact ba5.ext (by (repeat (first | with_reducible exact Ext.refl _ | with_reducible assumption | refine Ext.trans ?_ (by with_reducible assumption) | refine Ext.alloc ?_ _ _ | refine Ext.drew ?_ | refine Ext.drewN ?_ _)))); (case hi => decide); rintro W5 c5 b5 a5 _ m5; have hE5 : Ext W4 W5 := Ext.trans_mod (by (repeat (first | with_reducible exact Ext.refl _ | with_reducible assumption | refine Ext.trans ?_ (by with_reducible assumption) | refine Ext.alloc ?_ _ _ | refine Ext.drew ?_ | refine Ext.drewN ?_ _))) m5 (fun i hi => by have hi2 : i = _ := hi; rw [hi2]; exact hC5); clear ba5 aa5 m5))
  go_upto_region 17 with (first | (go_at_call 117; refine (HO _ (by (repeat (first | with_reducible exact Ext.refl _ | with_reducible assumption | refine Ext.trans ?_ (by with_reducible assumption) | refine Ext.alloc ?_ _ _ | refine Ext.drew ?_ | refine Ext.drewN ?_ _)))).mono ?_; rintro e w1 ⟨rfl, he⟩) | ((with_reducible (refine Veil.out ?_; apply wl_loadWB)); (case hx => rfl); (case hB => exact b3.ext (by (repeat (first | with_reducible exact Ext.refl _ | with_reducible assumption | refine Ext.trans ?_ (by with_reducible assumption) | refine Ext.alloc ?_ _ _ | refine Ext.drew ?_ | refine Ext.drewN ?_ _)))); (case hW => exact a3); (case hi => decide)) | (go_at_call 302; refine (mAddrOf _ hx0 _).mono ?_; rintro e w2 ⟨rfl, he2⟩) | ((with_reducible (refine Veil.out ?_; apply wl_allocA)); rintro B9 Wa9 ca9 ea9 ba9 aa9 ga9; have hC9 : W5.heap.size ≤ B9 := Nat.le_trans (Ext.size (show Ext W5 _ from by (repeat (first | with_reducible exact Ext.refl _ | with_reducible assumption | refine Ext.trans ?_ (by with_reducible assumption) | refine Ext.alloc ?_ _ _ | refine Ext.drew ?_ | refine Ext.drewN ?_ _)))) ga9) | ((with_reducible (refine Veil.out ?_; apply wl_storeA)); (case hx => rfl); (case hy => rfl); (case hv => exact hal); (case hB => exact ba9.ext (by (repeat (first | with_reducible exact Ext.refl _ | with_reducible assumption | refine Ext.trans ?_ (by with_reducible assumption) | refine Ext.alloc ?_ _ _ | refine Ext.drew ?_ | refine Ext.drewN ?_ _)))); (case hi => decide); rintro W9 c9' b9 a9 _ m9; have hE9 : Ext W5 W9 := Ext.trans_mod (by (repeat (first | with_reducible exact Ext.refl _ | with_reducible assumption | refine Ext.trans ?_ (by with_reducible assumption) | refine Ext.alloc ?_ _ _ | refine Ext.drew ?_ | refine Ext.drewN ?_ _))) m9 (fun i hi => by have hi2 : i = _ := hi; rw [hi2]; exact hC9); clear ba9 aa9 m9))
  have l3 := b3.lt
  have l4 := b4.lt
  have l5 := b5.lt
  have n34 : ¬ B3 = B4 := by omega
  have n35 : ¬ B3 = B5 := by have := Ext.size (show Ext W3 W4 from by (repeat (first | with_reducible exact Ext.refl _ | with_reducible assumption | refine Ext.trans ?_ (by with_reducible assumption) | refine Ext.alloc ?_ _ _ | refine Ext.drew ?_ | refine Ext.drewN ?_ _))); omega
  have n45 : ¬ B4 = B5 := by omega
  have hq4 : w.heap.size ≤ B4 := Nat.le_trans (Ext.size hE3) hC4
  have hq5 : w.heap.size ≤ B5 := Nat.le_trans (Ext.size (show Ext w W4 from by (repeat (first | with_reducible exact Ext.refl _ | with_reducible assumption | refine Ext.trans ?_ (by with_reducible assumption) | refine Ext.alloc ?_ _ _ | refine Ext.drew ?_ | refine Ext.drewN ?_ _)))) hC5
  have hq9 : w.heap.size ≤ B9 := Nat.le_trans (Ext.size (show Ext w W5 from by (repeat (first | with_reducible exact Ext.refl _ | with_reducible assumption | refine Ext.trans ?_ (by with_reducible assumption) | refine Ext.alloc ?_ _ _ | refine Ext.drew ?_ | refine Ext.drewN ?_ _)))) hC9
  have n39 : ¬ B3 = B9 := by have := Ext.size (show Ext W3 W5 from by (repeat (first | with_reducible exact Ext.refl _ | with_reducible assumption | refine Ext.trans ?_ (by with_reducible assumption) | refine Ext.alloc ?_ _ _ | refine Ext.drew ?_ | refine Ext.drewN ?_ _))); omega
  have n49 : ¬ B4 = B9 := by have := Ext.size (show Ext W4 W5 from by (repeat (first | with_reducible exact Ext.refl _ | with_reducible assumption | refine Ext.trans ?_ (by with_reducible assumption) | refine Ext.alloc ?_ _ _ | refine Ext.drew ?_ | refine Ext.drewN ?_ _))); omega
  have n59 : ¬ B5 = B9 := by omega
  replace b3 := b3.ext (show Ext W3 W9 by (repeat (first | with_reducible exact Ext.refl _ | with_reducible assumption | refine Ext.trans ?_ (by with_reducible assumption) | refine Ext.alloc ?_ _ _ | refine Ext.drew ?_ | refine Ext.drewN ?_ _)))
  replace b4 := b4.ext (show Ext W4 W9 by (repeat (first | with_reducible exact Ext.refl _ | with_reducible assumption | refine Ext.trans ?_ (by with_reducible assumption) | refine Ext.alloc ?_ _ _ | refine Ext.drew ?_ | refine Ext.drewN ?_ _)))
  replace b5 := b5.ext (show Ext W5 W9 by (repeat (first | with_reducible exact Ext.refl _ | with_reducible assumption | refine Ext.trans ?_ (by with_reducible assumption) | refine Ext.alloc ?_ _ _ | refine Ext.drew ?_ | refine Ext.drewN ?_ _)))
  have eW : Ext w W9 := by (repeat (first | with_reducible exact Ext.refl _ | with_reducible assumption | refine Ext.trans ?_ (by with_reducible assumption) | refine Ext.alloc ?_ _ _ | refine Ext.drew ?_ | refine Ext.drewN ?_ _))
  have lb3 := b3.lt
  have lb4 := b4.lt
  have lb5 := b5.lt
  obtain ⟨own7, o7P, o7k, o7o, hR⟩ := h.reserveP (fun b => b = B3 ∨ b = B4 ∨ b = B5) eW (fun b q => by rcases q with rfl | rfl | rfl; exact ⟨hC3, lb3⟩; exact ⟨hq4, lb4⟩; exact ⟨hq5, lb5⟩)
  have t3 : own7 B3 = 7 := o7P _ (Or.inl rfl)
  have t4 : own7 B4 = 7 := o7P _ (Or.inr (Or.inl rfl))
  have t5 : own7 B5 = 7 := o7P _ (Or.inr (Or.inr rfl))
  have t9 : own7 B9 = 0 := (o7o B9 (fun q => by rcases q with q | q | q; exact n39 q.symm; exact n49 q.symm; exact n59 q.symm)).trans (h.v.fresh _ hq9)
  have f3 := h.bufOld hC3
  have f4 := h.bufOld hq4
  have f5 := h.bufOld hq5
  have HWm := fun W (hW : Ext W9 W) => mWarm (hR.ext hW) (addrA (f.arg 0)) hal hr.jp (fun _ => hr.ap)
  have sR : MStep own w own7 W9 := ⟨o7k, eW.mod _⟩
  clear HA0 HA1 HA2 HR HO hE3 hE4 hE5 hE9 l3 l4 l5
  go_upto_region 19 with (first | ((with_reducible (refine Veil.out ?_; apply wl_loadA)); (case hx => rfl); (case hB => exact b9.ext (by (repeat (first | with_reducible exact Ext.refl _ | with_reducible assumption | refine Ext.trans ?_ (by with_reducible assumption) | refine Ext.alloc ?_ _ _ | refine Ext.drew ?_ | refine Ext.drewN ?_ _)))); (case hA => exact a9); (case hs => exact hal); (case ho => decide)) | (go_at_call 303; refine (HWm _ (by (repeat (first | with_reducible exact Ext.refl _ | with_reducible assumption | refine Ext.trans ?_ (by with_reducible assumption) | refine Ext.alloc ?_ _ _ | refine Ext.drew ?_ | refine Ext.drewN ?_ _)))).mono ?_; rintro e w6 ⟨rfl, own6, c6, V6, h6, k6, hV6⟩; have E96 : Ext W9 _ := (show Ext W9 _ by (repeat (first | with_reducible exact Ext.refl _ | with_reducible assumption | refine Ext.trans ?_ (by with_reducible assumption) | refine Ext.alloc ?_ _ _ | refine Ext.drew ?_ | refine Ext.drewN ?_ _)))))
  have u3 : own6 B3 = 7 := (k6.keep _ (Nat.lt_of_lt_of_le lb3 E96.size)).trans t3
  have u4 : own6 B4 = 7 := (k6.keep _ (Nat.lt_of_lt_of_le lb4 E96.size)).trans t4
  have u5 : own6 B5 = 7 := (k6.keep _ (Nat.lt_of_lt_of_le lb5 E96.size)).trans t5
  replace b3 := (b3.ext E96).mod k6.mod (fun q => q.2 t3)
  replace b4 := (b4.ext E96).mod k6.mod (fun q => q.2 t4)
  replace b5 := (b5.ext E96).mod k6.mod (fun q => q.2 t5)
  replace b9 := (b9.ext E96).mod k6.mod (fun q => q.1.1 t9)
  have hc1 : c6 1 = c 1 := k6.far 1 (Or.inl (by decide))
  have s6 : MStep own w own6 w6 := (sR.trans (MStep.ext E96)).trans (MStep.ofV k6)
  clear HWm hR k6 E96 sR
  have hst6 : ({ st with now := st.now.warm (addrA (f.arg 0)) } : ASt).frames = f :: rest := hst
  have HCd := fun W (hW : Ext w6 W) => vCode (h6.v.ext hW) hal
  have ec : (V6.acct (addrA (f.arg 0))).code = st.now.code (addrA (f.arg 0)) := congrFun (congrArg AW.code h6.abs) _
  rw [ec] at HCd
  refine w_ext ?_
  rintro W0 hW0
  have h0 := h6.ext (show Ext w6 W0 by (repeat (first | with_reducible exact Ext.refl _ | with_reducible assumption | refine Ext.trans ?_ (by with_reducible assumption) | refine Ext.alloc ?_ _ _ | refine Ext.drew ?_ | refine Ext.drewN ?_ _)))
  refine wp_region_held_drew (S := fun w' => Ext W0 w') (by kernel_rfl) (Ext.refl _).drew (fun hHeld => ?_)
  have HH : Hid (Ext W0 _) := hHeld
  clear hHeld
  refine wpAnyH_take (i := 0) (v := ?_) rfl (by kernel_rfl) (by kernel_rfl) (by kernel_rfl) (fun _ _ _ h => h) (Or.inl ⟨by rfl, ?_⟩) HH.out ?_
  rotate_left
  · intro w hSw; go_simp; try with_reducible rfl
  change wpAnyH _ _ _ _ _ _ _ (Act.put _ (some 55) _) _
  simp only [Act.put, List.setIfInBounds_toArray, List.set_cons_zero, List.set_cons_succ]
  refine wpAnyH_take (i := 1) (v := ?_) rfl (by kernel_rfl) (by kernel_rfl) (by kernel_rfl) (fun _ _ _ h => h) (Or.inl ⟨by rfl, ?_⟩) HH.out ?_
  rotate_left
  · intro w hSw; go_simp; try with_reducible rfl
  change wpAnyH _ _ _ _ _ _ _ (Act.put _ (some 56) _) _
  simp only [Act.put, List.setIfInBounds_toArray, List.set_cons_zero, List.set_cons_succ]
  refine wpAnyH_take (i := 2) (v := ?_) rfl (by kernel_rfl) (by kernel_rfl) (by kernel_rfl) (fun _ _ _ h => h) (Or.inl ⟨by rfl, ?_⟩) HH.out ?_
  rotate_left
  · intro w hSw; go_simp; try with_reducible rfl
  change wpAnyH _ _ _ _ _ _ _ (Act.put _ (some 57) _) _
  simp only [Act.put, List.setIfInBounds_toArray, List.set_cons_zero, List.set_cons_succ]
  refine wpAnyH_take (i := 3) rfl (by kernel_rfl) (by kernel_rfl) (by kernel_rfl) (fun _ _ _ h => h) (yieldsIf_load1 (by rfl) _ _ rfl _ _ rfl onet60 _ (fun w hSw => by rw [(h0.v.blk.ext hSw).cell (by decide), h0.m.ptr])) HH.out ?_
  change wpAnyH _ _ _ _ _ _ _ (Act.put _ (some 58) _) _
  simp only [Act.put, List.setIfInBounds_toArray, List.set_cons_zero, List.set_cons_succ]
  refine wpAnyH_take (i := 4) rfl (by kernel_rfl) (by kernel_rfl) (by kernel_rfl) (fun _ _ _ h => h) (yields_A (by rfl) rfl rfl (fun w hSw => b9.ext (Ext.trans (by (repeat (first | with_reducible exact Ext.refl _ | with_reducible assumption | refine Ext.trans ?_ (by with_reducible assumption) | refine Ext.alloc ?_ _ _ | refine Ext.drew ?_ | refine Ext.drewN ?_ _))) hSw)) a9 hal (by decide)) HH.out ?_
  change wpAnyH _ _ _ _ _ _ _ (Act.put _ (some 59) _) _
  simp only [Act.put, List.setIfInBounds_toArray, List.set_cons_zero, List.set_cons_succ]
  refine wpAnyH_ready (rs := [5]) (by kernel_rfl) (by simp) ?_
  refine AllReadyH.cons rfl (fun K hK => ?_) AllReadyH.nil
  go_simp
  go_at_call 112; refine (HCd _ (by (repeat (first | with_reducible exact Ext.refl _ | with_reducible assumption | refine Ext.trans ?_ (by with_reducible assumption) | refine Ext.alloc ?_ _ _ | refine Ext.drew ?_ | refine Ext.drewN ?_ _)))).mono ?_; rintro e w7 ⟨rv, rfl, hrv, he⟩; obtain ⟨ro, rc, rfl, r1, r2, r3⟩ := hrv
  refine hK.out _ _ ?_ (fun hHeld => ?_)
  · first | exact HH.out.trans hmY | exact HH.out.trans he | exact HH.out
  clear hK K HH
  have HH : Hid (Ext W0 _) := hHeld
  clear hHeld
  refine wpAnyH_take (i := 6) (v := ?_) rfl (by kernel_rfl) (by kernel_rfl) (by kernel_rfl) (fun _ _ _ h => h) (Or.inl ⟨by rfl, ?_⟩) HH.out ?_
  rotate_left
  · intro w hSw; go_simp; try with_reducible rfl
  change wpAnyH _ _ _ _ _ _ _ (Act.put _ (some 7) _) _
  simp only [Act.put, List.setIfInBounds_toArray, List.set_cons_zero, List.set_cons_succ]
  refine wpAnyH_done (by kernel_rfl) ?_ _
  have hrv : NL (Mu own6) w7 (.slice ro (st.now.code (addrA (f.arg 0))).length rc) (st.now.code (addrA (f.arg 0))) := ⟨ro, rc, rfl, r1, r2, r3⟩
  obtain ⟨lo, hlo⟩ : ∃ l, Hid ((st.now.code (addrA (f.arg 0))).length = l) := ⟨_, rfl⟩
  rw [hlo.out] at hrv
  have E67 : Ext w6 w7 := by (repeat (first | with_reducible exact Ext.refl _ | with_reducible assumption | refine Ext.trans ?_ (by with_reducible assumption) | refine Ext.alloc ?_ _ _ | refine Ext.drew ?_ | refine Ext.drewN ?_ _))
  have h7 := h6.ext E67
  replace b3 := b3.ext E67
  replace b4 := b4.ext E67
  replace b5 := b5.ext E67
  have s7 : MStep own w own6 w7 := s6.trans (MStep.ext E67)
  clear HCd HH h0 b9 s6
  rw [hlo.out]
  go_upto_region 21 with (first | ((with_reducible (refine Veil.out ?_; apply wl_loadWB)); (case hx => rfl); (case hB => exact b4.ext (by (repeat (first | with_reducible exact Ext.refl _ | with_reducible assumption | refine Ext.trans ?_ (by with_reducible assumption) | refine Ext.alloc ?_ _ _ | refine Ext.drew ?_ | refine Ext.drewN ?_ _)))); (case hW => exact a4); (case hi => decide)) | ((with_reducible (refine Veil.out ?_; apply wl_storeWB)); (case hx => rfl); (case hy => rfl); (case hB => exact b3.ext (by (repeat (first | with_reducible exact Ext.refl _ | with_reducible assumption | refine Ext.trans ?_ (by with_reducible assumption) | refine Ext.alloc ?_ _ _ | refine Ext.drew ?_ | refine Ext.drewN ?_ _)))); (case hi => decide); rintro W20 c20' d20 a20' _ m20))
  have h20 := (h7.ext (show Ext w7 _ by (repeat (first | with_reducible exact Ext.refl _ | with_reducible assumption | refine Ext.trans ?_ (by with_reducible assumption) | refine Ext.alloc ?_ _ _ | refine Ext.drew ?_ | refine Ext.drewN ?_ _)))).apart u3 m20 (fun o n cap q => f3 o n cap (hc1.symm.trans q))
  have s20 := s7.trans ((MStep.ext (show Ext w7 _ by (repeat (first | with_reducible exact Ext.refl _ | with_reducible assumption | refine Ext.trans ?_ (by with_reducible assumption) | refine Ext.alloc ?_ _ _ | refine Ext.drew ?_ | refine Ext.drewN ?_ _)))).trans (⟨fun _ _ => rfl, m20.sub (fun x hx => by rw [hx, u3]; decide)⟩ : MStep own6 _ own6 W20))
  replace hrv := Keep.nl (g := g) (⟨fun _ _ => rfl, m20.sub (fun x hx => Or.inr (by rw [hx]; exact u3)), h6.v.tag, by decide⟩ : Keep own6 own6 g 7 _ W20) (hrv.ext (show Ext w7 _ by (repeat (first | with_reducible exact Ext.refl _ | with_reducible assumption | refine Ext.trans ?_ (by with_reducible assumption) | refine Ext.alloc ?_ _ _ | refine Ext.drew ?_ | refine Ext.drewN ?_ _))))
  replace b4 := (b4.ext (show Ext w7 _ by (repeat (first | with_reducible exact Ext.refl _ | with_reducible assumption | refine Ext.trans ?_ (by with_reducible assumption) | refine Ext.alloc ?_ _ _ | refine Ext.drew ?_ | refine Ext.drewN ?_ _)))).mod m20 (fun q => n34 q.symm)
  replace b5 := (b5.ext (show Ext w7 _ by (repeat (first | with_reducible exact Ext.refl _ | with_reducible assumption | refine Ext.trans ?_ (by with_reducible assumption) | refine Ext.alloc ?_ _ _ | refine Ext.drew ?_ | refine Ext.drewN ?_ _)))).mod m20 (fun q => n35 q.symm)
  clear b3 a3
  go_upto_region 22 with (first | ((with_reducible (refine Veil.out ?_; apply wl_loadWB)); (case hx => rfl); (case hB => exact b5.ext (by (repeat (first | with_reducible exact Ext.refl _ | with_reducible assumption | refine Ext.trans ?_ (by with_reducible assumption) | refine Ext.alloc ?_ _ _ | refine Ext.drew ?_ | refine Ext.drewN ?_ _)))); (case hW => exact a5); (case hi => decide)) | ((with_reducible (refine Veil.out ?_; apply wl_storeWB)); (case hx => rfl); (case hy => rfl); (case hB => exact b4.ext (by (repeat (first | with_reducible exact Ext.refl _ | with_reducible assumption | refine Ext.trans ?_ (by with_reducible assumption) | refine Ext.alloc ?_ _ _ | refine Ext.drew ?_ | refine Ext.drewN ?_ _)))); (case hi => decide); rintro W21 c21' d21 a21' _ m21))
  have h21 := (h20.ext (show Ext W20 _ by (repeat (first | with_reducible exact Ext.refl _ | with_reducible assumption | refine Ext.trans ?_ (by with_reducible assumption) | refine Ext.alloc ?_ _ _ | refine Ext.drew ?_ | refine Ext.drewN ?_ _)))).apart u4 m21 (fun o n cap q => f4 o n cap (hc1.symm.trans q))
  have s21 := s20.trans ((MStep.ext (show Ext W20 _ by (repeat (first | with_reducible exact Ext.refl _ | with_reducible assumption | refine Ext.trans ?_ (by with_reducible assumption) | refine Ext.alloc ?_ _ _ | refine Ext.drew ?_ | refine Ext.drewN ?_ _)))).trans (⟨fun _ _ => rfl, m21.sub (fun x hx => by rw [hx, u4]; decide)⟩ : MStep own6 _ own6 W21))
  replace hrv := Keep.nl (g := g) (⟨fun _ _ => rfl, m21.sub (fun x hx => Or.inr (by rw [hx]; exact u4)), h6.v.tag, by decide⟩ : Keep own6 own6 g 7 _ W21) (hrv.ext (show Ext W20 _ by (repeat (first | with_reducible exact Ext.refl _ | with_reducible assumption | refine Ext.trans ?_ (by with_reducible assumption) | refine Ext.alloc ?_ _ _ | refine Ext.drew ?_ | refine Ext.drewN ?_ _))))
  replace d20 := (d20.ext (show Ext W20 _ by (repeat (first | with_reducible exact Ext.refl _ | with_reducible assumption | refine Ext.trans ?_ (by with_reducible assumption) | refine Ext.alloc ?_ _ _ | refine Ext.drew ?_ | refine Ext.drewN ?_ _)))).mod m21 n34
  replace b5 := (b5.ext (show Ext W20 _ by (repeat (first | with_reducible exact Ext.refl _ | with_reducible assumption | refine Ext.trans ?_ (by with_reducible assumption) | refine Ext.alloc ?_ _ _ | refine Ext.drew ?_ | refine Ext.drewN ?_ _)))).mod m21 (fun q => n45 q.symm)
  clear b4 a4 h20 s20
  have HA3 := fun W (hW : Ext W21 W) => mArg (h21.ext hW) hst6 3 (by decide)
  go_upto_region 23 with (first | (go_at_call_of 273 (Value.int IntKind.i64 3); refine (HA3 _ (by (repeat (first | with_reducible exact Ext.refl _ | with_reducible assumption | refine Ext.trans ?_ (by with_reducible assumption) | refine Ext.alloc ?_ _ _ | refine Ext.drew ?_ | refine Ext.drewN ?_ _)))).mono ?_; rintro e w1 ⟨rfl, he⟩) | ((with_reducible (refine Veil.out ?_; apply wl_storeWB)); (case hx => rfl); (case hy => rfl); (case hB => exact b5.ext (by (repeat (first | with_reducible exact Ext.refl _ | with_reducible assumption | refine Ext.trans ?_ (by with_reducible assumption) | refine Ext.alloc ?_ _ _ | refine Ext.drew ?_ | refine Ext.drewN ?_ _)))); (case hi => decide); rintro W22 c22' d22 a22' _ m22))
  have h22 := (h21.ext (show Ext W21 _ by (repeat (first | with_reducible exact Ext.refl _ | with_reducible assumption | refine Ext.trans ?_ (by with_reducible assumption) | refine Ext.alloc ?_ _ _ | refine Ext.drew ?_ | refine Ext.drewN ?_ _)))).apart u5 m22 (fun o n cap q => f5 o n cap (hc1.symm.trans q))
  have s22 := s21.trans ((MStep.ext (show Ext W21 _ by (repeat (first | with_reducible exact Ext.refl _ | with_reducible assumption | refine Ext.trans ?_ (by with_reducible assumption) | refine Ext.alloc ?_ _ _ | refine Ext.drew ?_ | refine Ext.drewN ?_ _)))).trans (⟨fun _ _ => rfl, m22.sub (fun x hx => by rw [hx, u5]; decide)⟩ : MStep own6 _ own6 W22))
  replace hrv := Keep.nl (g := g) (⟨fun _ _ => rfl, m22.sub (fun x hx => Or.inr (by rw [hx]; exact u5)), h6.v.tag, by decide⟩ : Keep own6 own6 g 7 _ W22) (hrv.ext (show Ext W21 _ by (repeat (first | with_reducible exact Ext.refl _ | with_reducible assumption | refine Ext.trans ?_ (by with_reducible assumption) | refine Ext.alloc ?_ _ _ | refine Ext.drew ?_ | refine Ext.drewN ?_ _))))
  replace d20 := (d20.ext (show Ext W21 _ by (repeat (first | with_reducible exact Ext.refl _ | with_reducible assumption | refine Ext.trans ?_ (by with_reducible assumption) | refine Ext.alloc ?_ _ _ | refine Ext.drew ?_ | refine Ext.drewN ?_ _)))).mod m22 n35
  replace d21 := (d21.ext (show Ext W21 _ by (repeat (first | with_reducible exact Ext.refl _ | with_reducible assumption | refine Ext.trans ?_ (by with_reducible assumption) | refine Ext.alloc ?_ _ _ | refine Ext.drew ?_ | refine Ext.drewN ?_ _)))).mod m22 n45
  clear b5 a5 h21 s21 HA3 h7 s7
  have HS := mSetN h22 hst6 4 1 0 hl (by omega)
  rw [wv0] at HS
  go_wp2_with (first | ((with_reducible (refine Veil.out ?_; apply wl_loadWB)); (case hx => rfl); (case hB => exact d22.ext (by (repeat (first | with_reducible exact Ext.refl _ | with_reducible assumption | refine Ext.trans ?_ (by with_reducible assumption) | refine Ext.alloc ?_ _ _ | refine Ext.drew ?_ | refine Ext.drewN ?_ _)))); (case hW => exact a22'); (case hi => decide)) | (go_at_call 87; refine (HZ _).mono ?_; rintro e w4 ⟨rfl, he4⟩) | (go_at_call 268; refine (HS _ (by (repeat (first | with_reducible exact Ext.refl _ | with_reducible assumption | refine Ext.trans ?_ (by with_reducible assumption) | refine Ext.alloc ?_ _ _ | refine Ext.drew ?_ | refine Ext.drewN ?_ _)))).mono ?_; rintro e w9 ⟨rfl, hfin⟩))
  go_end0
  obtain ⟨c9, h9, m9⟩ := hfin
  exact ⟨rfl, own6, c9, V6, h9, s22.trans m9, hV6⟩
set_option maxRecDepth 100000 in
set_option maxHeartbeats 6400000 in
theorem mOpCopy60 (h : MRep own w g c V st (s :: sn) stale) (hst : st.frames = f :: rest) (hph : st.phase = 1) (ho : f.opcode = 60) (hl : 4 ≤ f.stack.length) (hpc : f.pc ≤ 50000) (hr : Room V 3) (hz : f.arg 3 ≠ 0) (hf : f.arg 1 + f.arg 3 ≤ f.mem.length) : Calls Hvah.prog 204 #[.pointer (some ⟨g, 0, none⟩)] w fun e w' => e = .returned (.tuple #[]) ∧ ∃ own' c' V', MRep own' w' g c' V' { st with now := st.now.warm (addrA (f.arg 0)), frames := ({ f with mem := copyA f.mem (f.arg 1) (st.now.code (addrA (f.arg 0))) (f.arg 2) (f.arg 3) } : AFrame).settle 4 [] 1 :: rest } (s :: sn) stale ∧ MStep own w own' w' ∧ (V' = V ∨ V' = V.warmA (addrA (f.arg 0))) := by
  obtain ⟨hfr, hr7⟩ := h.frame hst
  have hml := hfr.ok.mLen
  have HR := fun W (hW : Ext w W) => mRun (h.ext hW) hst hph
  have HO := fun W (hW : Ext w W) => mOp (h.ext hW) hst hph
  rw [ho] at HO
  have hx0 := hfr.ok.argLt 0
  have hx1 := hfr.ok.argLt 1
  have hx2 := hfr.ok.argLt 2
  have hx3 := hfr.ok.argLt 3
  have hal : addrA (f.arg 0) < 2 ^ 160 := Nat.mod_lt _ (by decide)
  have HA0 := fun W (hW : Ext w W) => mArg (h.ext hW) hst 0 (by decide)
  have HA1 := fun W (hW : Ext w W) => mArg (h.ext hW) hst 1 (by decide)
  have HA2 := fun W (hW : Ext w W) => mArg (h.ext hW) hst 2 (by decide)
  have HZ : ∀ W, Calls Hvah.prog 87 #[wv (f.arg 3)] W fun e w' => e = .returned (.bool (decide (f.arg 3 = 0))) ∧ Ext W w' := fun W => uIsZero _ W hx3
  rw [decide_eq_false hz] at HZ
  go_enter Hvah.func204, Hvah.ntmps204
  go_upto_region 3 with (first | (go_at_call 192; refine (HR _ (by (repeat (first | with_reducible exact Ext.refl _ | with_reducible assumption | refine Ext.trans ?_ (by with_reducible assumption) | refine Ext.alloc ?_ _ _ | refine Ext.drew ?_ | refine Ext.drewN ?_ _)))).mono ?_; rintro e w1 ⟨rfl, he⟩) | (go_at_call_of 273 (Value.int IntKind.i64 0); refine (HA0 _ (by (repeat (first | with_reducible exact Ext.refl _ | with_reducible assumption | refine Ext.trans ?_ (by with_reducible assumption) | refine Ext.alloc ?_ _ _ | refine Ext.drew ?_ | refine Ext.drewN ?_ _)))).mono ?_; rintro e w1 ⟨rfl, he⟩) | ((with_reducible (refine Veil.out ?_; apply wl_allocW)); rintro B3 Wa3 ca3 ea3 ba3 aa3 ga3; have hC3 : w.heap.size ≤ B3 := Nat.le_trans (Ext.size (show Ext w _ from by (repeat (first | with_reducible exact Ext.refl _ | with_reducible assumption | refine Ext.trans ?_ (by with_reducible assumption) | refine Ext.alloc ?_ _ _ | refine Ext.drew ?_ | refine Ext.drewN ?_ _)))) ga3) | ((with_reducible (refine Veil.out ?_; apply wl_storeWB)); (case hx => rfl); (case hy => first | rfl | exact wv0.symm); (case hB => exact ba3.ext (by (repeat (first | with_reducible exact Ext.refl _ | with_reducible assumption | refine Ext.trans ?_ (by with_reducible assumption) | refine Ext.alloc ?_ _ _ | refine Ext.drew ?_ | refine Ext.drewN ?_ _)))); (case hi => decide); rintro W3 c3 b3 a3 _ m3; have hE3 : Ext w W3 := Ext.trans_mod (by (repeat (first | with_reducible exact Ext.refl _ | with_reducible assumption | refine Ext.trans ?_ (by with_reducible assumption) | refine Ext.alloc ?_ _ _ | refine Ext.drew ?_ | refine Ext.drewN ?_ _))) m3 (fun i hi => by have hi2 : i = _ := hi; rw [hi2]; exact hC3); clear ba3 aa3 m3))
  go_upto_region 4 with (first | (go_at_call_of 273 (Value.int IntKind.i64 1); refine (HA1 _ (by (repeat (first | with_reducible exact Ext.refl _ | with_reducible assumption | refine Ext.trans ?_ (by with_reducible assumption) | refine Ext.alloc ?_ _ _ | refine Ext.drew ?_ | refine Ext.drewN ?_ _)))).mono ?_; rintro e w1 ⟨rfl, he⟩) | ((with_reducible (refine Veil.out ?_; apply wl_allocW)); rintro B4 Wa4 ca4 ea4 ba4 aa4 ga4; have hC4 : W3.heap.size ≤ B4 := Nat.le_trans (Ext.size (show Ext W3 _ from by (repeat (first | with_reducible exact Ext.refl _ | with_reducible assumption | refine Ext.trans ?_ (by with_reducible assumption) | refine Ext.alloc ?_ _ _ | refine Ext.drew ?_ | refine Ext.drewN ?_ _)))) ga4) | ((with_reducible (refine Veil.out ?_; apply wl_storeWB)); (case hx => rfl); (case hy => first | rfl | exact wv0.symm); (case hB => exact ba4.ext (by (repeat (first | with_reducible exact Ext.refl _ | with_reducible assumption | refine Ext.trans ?_ (by with_reducible assumption) | refine Ext.alloc ?_ _ _ | refine Ext.drew ?_ | refine Ext.drewN ?_ _)))); (case hi => decide); rintro W4 c4 b4 a4 _ m4; have hE4 : Ext W3 W4 := Ext.trans_mod (by (repeat (first | with_reducible exact Ext.refl _ | with_reducible assumption | refine Ext.trans ?_ (by with_reducible assumption) | refine Ext.alloc ?_ _ _ | refine Ext.drew ?_ | refine Ext.drewN ?_ _))) m4 (fun i hi => by have hi2 : i = _ := hi; rw [hi2]; exact hC4); clear ba4 aa4 m4))
  go_upto_region 5 with (first | (go_at_call_of 273 (Value.int IntKind.i64 2); refine (HA2 _ (by (repeat (first | with_reducible exact Ext.refl _ | with_reducible assumption | refine Ext.trans ?_ (by with_reducible assumption) | refine Ext.alloc ?_ _ _ | refine Ext.drew ?_ | refine Ext.drewN ?_ _)))).mono ?_; rintro e w1 ⟨rfl, he⟩) | ((with_reducible (refine Veil.out ?_; apply wl_allocW)); rintro B5 Wa5 ca5 ea5 ba5 aa5 ga5; have hC5 : W4.heap.size ≤ B5 := Nat.le_trans (Ext.size (show Ext W4 _ from by (repeat (first | with_reducible exact Ext.refl _ | with_reducible assumption | refine Ext.trans ?_ (by with_reducible assumption) | refine Ext.alloc ?_ _ _ | refine Ext.drew ?_ | refine Ext.drewN ?_ _)))) ga5) | ((with_reducible (refine Veil.out ?_; apply wl_storeWB)); (case hx => rfl); (case hy => first | rfl | exact wv0.symm); (case hB => exact ba5.ext (by (repeat (first | with_reducible exact Ext.refl _ | with_reducible assumption | refine Ext.trans ?_ (by with_reducible assumption) | refine Ext.alloc ?_ _ _ | refine Ext.drew ?_ | refine Ext.drewN ?_ _)))); (case hi => decide); rintro W5 c5 b5 a5 _ m5; have hE5 : Ext W4 W5 := Ext.trans_mod (by (repeat (first | with_reducible exact Ext.refl _ | with_reducible assumption | refine Ext.trans ?_ (by with_reducible assumption) | refine Ext.alloc ?_ _ _ | refine Ext.drew ?_ | refine Ext.drewN ?_ _))) m5 (fun i hi => by have hi2 : i = _ := hi; rw [hi2]; exact hC5); clear ba5 aa5 m5))
  go_upto_region 17 with (first | (go_at_call 117; refine (HO _ (by (repeat (first | with_reducible exact Ext.refl _ | with_reducible assumption | refine Ext.trans ?_ (by with_reducible assumption) | refine Ext.alloc ?_ _ _ | refine Ext.drew ?_ | refine Ext.drewN ?_ _)))).mono ?_; rintro e w1 ⟨rfl, he⟩) | ((with_reducible (refine Veil.out ?_; apply wl_loadWB)); (case hx => rfl); (case hB => exact b3.ext (by (repeat (first | with_reducible exact Ext.refl _ | with_reducible assumption | refine Ext.trans ?_ (by with_reducible assumption) | refine Ext.alloc ?_ _ _ | refine Ext.drew ?_ | refine Ext.drewN ?_ _)))); (case hW => exact a3); (case hi => decide)) | (go_at_call 302; refine (mAddrOf _ hx0 _).mono ?_; rintro e w2 ⟨rfl, he2⟩) | ((with_reducible (refine Veil.out ?_; apply wl_allocA)); rintro B9 Wa9 ca9 ea9 ba9 aa9 ga9; have hC9 : W5.heap.size ≤ B9 := Nat.le_trans (Ext.size (show Ext W5 _ from by (repeat (first | with_reducible exact Ext.refl _ | with_reducible assumption | refine Ext.trans ?_ (by with_reducible assumption) | refine Ext.alloc ?_ _ _ | refine Ext.drew ?_ | refine Ext.drewN ?_ _)))) ga9) | ((with_reducible (refine Veil.out ?_; apply wl_storeA)); (case hx => rfl); (case hy => rfl); (case hv => exact hal); (case hB => exact ba9.ext (by (repeat (first | with_reducible exact Ext.refl _ | with_reducible assumption | refine Ext.trans ?_ (by with_reducible assumption) | refine Ext.alloc ?_ _ _ | refine Ext.drew ?_ | refine Ext.drewN ?_ _)))); (case hi => decide); rintro W9 c9' b9 a9 _ m9; have hE9 : Ext W5 W9 := Ext.trans_mod (by (repeat (first | with_reducible exact Ext.refl _ | with_reducible assumption | refine Ext.trans ?_ (by with_reducible assumption) | refine Ext.alloc ?_ _ _ | refine Ext.drew ?_ | refine Ext.drewN ?_ _))) m9 (fun i hi => by have hi2 : i = _ := hi; rw [hi2]; exact hC9); clear ba9 aa9 m9))
  have l3 := b3.lt
  have l4 := b4.lt
  have l5 := b5.lt
  have n34 : ¬ B3 = B4 := by omega
  have n35 : ¬ B3 = B5 := by have := Ext.size (show Ext W3 W4 from by (repeat (first | with_reducible exact Ext.refl _ | with_reducible assumption | refine Ext.trans ?_ (by with_reducible assumption) | refine Ext.alloc ?_ _ _ | refine Ext.drew ?_ | refine Ext.drewN ?_ _))); omega
  have n45 : ¬ B4 = B5 := by omega
  have hq4 : w.heap.size ≤ B4 := Nat.le_trans (Ext.size hE3) hC4
  have hq5 : w.heap.size ≤ B5 := Nat.le_trans (Ext.size (show Ext w W4 from by (repeat (first | with_reducible exact Ext.refl _ | with_reducible assumption | refine Ext.trans ?_ (by with_reducible assumption) | refine Ext.alloc ?_ _ _ | refine Ext.drew ?_ | refine Ext.drewN ?_ _)))) hC5
  have hq9 : w.heap.size ≤ B9 := Nat.le_trans (Ext.size (show Ext w W5 from by (repeat (first | with_reducible exact Ext.refl _ | with_reducible assumption | refine Ext.trans ?_ (by with_reducible assumption) | refine Ext.alloc ?_ _ _ | refine Ext.drew ?_ | refine Ext.drewN ?_ _)))) hC9
  have n39 : ¬ B3 = B9 := by have := Ext.size (show Ext W3 W5 from by (repeat (first | with_reducible exact Ext.refl _ | with_reducible assumption | refine Ext.trans ?_ (by with_reducible assumption) | refine Ext.alloc ?_ _ _ | refine Ext.drew ?_ | refine Ext.drewN ?_ _))); omega
  have n49 : ¬ B4 = B9 := by have := Ext.size (show Ext W4 W5 from by (repeat (first | with_reducible exact Ext.refl _ | with_reducible assumption | refine Ext.trans ?_ (by with_reducible assumption) | refine Ext.alloc ?_ _ _ | refine Ext.drew ?_ | refine Ext.drewN ?_ _))); omega
  have n59 : ¬ B5 = B9 := by omega
  replace b3 := b3.ext (show Ext W3 W9 by (repeat (first | with_reducible exact Ext.refl _ | with_reducible assumption | refine Ext.trans ?_ (by with_reducible assumption) | refine Ext.alloc ?_ _ _ | refine Ext.drew ?_ | refine Ext.drewN ?_ _)))
  replace b4 := b4.ext (show Ext W4 W9 by (repeat (first | with_reducible exact Ext.refl _ | with_reducible assumption | refine Ext.trans ?_ (by with_reducible assumption) | refine Ext.alloc ?_ _ _ | refine Ext.drew ?_ | refine Ext.drewN ?_ _)))
  replace b5 := b5.ext (show Ext W5 W9 by (repeat (first | with_reducible exact Ext.refl _ | with_reducible assumption | refine Ext.trans ?_ (by with_reducible assumption) | refine Ext.alloc ?_ _ _ | refine Ext.drew ?_ | refine Ext.drewN ?_ _)))
  have eW : Ext w W9 := by (repeat (first | with_reducible exact Ext.refl _ | with_reducible assumption | refine Ext.trans ?_ (by with_reducible assumption) | refine Ext.alloc ?_ _ _ | refine Ext.drew ?_ | refine Ext.drewN ?_ _))
  have lb3 := b3.lt
  have lb4 := b4.lt
  have lb5 := b5.lt
  obtain ⟨own7, o7P, o7k, o7o, hR⟩ := h.reserveP (fun b => b = B3 ∨ b = B4 ∨ b = B5) eW (fun b q => by rcases q with rfl | rfl | rfl; exact ⟨hC3, lb3⟩; exact ⟨hq4, lb4⟩; exact ⟨hq5, lb5⟩)
  have t3 : own7 B3 = 7 := o7P _ (Or.inl rfl)
  have t4 : own7 B4 = 7 := o7P _ (Or.inr (Or.inl rfl))
  have t5 : own7 B5 = 7 := o7P _ (Or.inr (Or.inr rfl))
  have t9 : own7 B9 = 0 := (o7o B9 (fun q => by rcases q with q | q | q; exact n39 q.symm; exact n49 q.symm; exact n59 q.symm)).trans (h.v.fresh _ hq9)
  have f3 := h.bufOld hC3
  have f4 := h.bufOld hq4
  have f5 := h.bufOld hq5
  have HWm := fun W (hW : Ext W9 W) => mWarm (hR.ext hW) (addrA (f.arg 0)) hal hr.jp (fun _ => hr.ap)
  have sR : MStep own w own7 W9 := ⟨o7k, eW.mod _⟩
  clear HA0 HA1 HA2 HR HO hE3 hE4 hE5 hE9 l3 l4 l5
  go_upto_region 19 with (first | ((with_reducible (refine Veil.out ?_; apply wl_loadA)); (case hx => rfl); (case hB => exact b9.ext (by (repeat (first | with_reducible exact Ext.refl _ | with_reducible assumption | refine Ext.trans ?_ (by with_reducible assumption) | refine Ext.alloc ?_ _ _ | refine Ext.drew ?_ | refine Ext.drewN ?_ _)))); (case hA => exact a9); (case hs => exact hal); (case ho => decide)) | (go_at_call 303; refine (HWm _ (by (repeat (first | with_reducible exact Ext.refl _ | with_reducible assumption | refine Ext.trans ?_ (by with_reducible assumption) | refine Ext.alloc ?_ _ _ | refine Ext.drew ?_ | refine Ext.drewN ?_ _)))).mono ?_; rintro e w6 ⟨rfl, own6, c6, V6, h6, k6, hV6⟩; have E96 : Ext W9 _ := (show Ext W9 _ by (repeat (first | with_reducible exact Ext.refl _ | with_reducible assumption | refine Ext.trans ?_ (by with_reducible assumption) | refine Ext.alloc ?_ _ _ | refine Ext.drew ?_ | refine Ext.drewN ?_ _)))))
  have u3 : own6 B3 = 7 := (k6.keep _ (Nat.lt_of_lt_of_le lb3 E96.size)).trans t3
  have u4 : own6 B4 = 7 := (k6.keep _ (Nat.lt_of_lt_of_le lb4 E96.size)).trans t4
  have u5 : own6 B5 = 7 := (k6.keep _ (Nat.lt_of_lt_of_le lb5 E96.size)).trans t5
  replace b3 := (b3.ext E96).mod k6.mod (fun q => q.2 t3)
  replace b4 := (b4.ext E96).mod k6.mod (fun q => q.2 t4)
  replace b5 := (b5.ext E96).mod k6.mod (fun q => q.2 t5)
  replace b9 := (b9.ext E96).mod k6.mod (fun q => q.1.1 t9)
  have hc1 : c6 1 = c 1 := k6.far 1 (Or.inl (by decide))
  have s6 : MStep own w own6 w6 := (sR.trans (MStep.ext E96)).trans (MStep.ofV k6)
  clear HWm hR k6 E96 sR
  have hst6 : ({ st with now := st.now.warm (addrA (f.arg 0)) } : ASt).frames = f :: rest := hst
  have HCd := fun W (hW : Ext w6 W) => vCode (h6.v.ext hW) hal
  have ec : (V6.acct (addrA (f.arg 0))).code = st.now.code (addrA (f.arg 0)) := congrFun (congrArg AW.code h6.abs) _
  rw [ec] at HCd
  refine w_ext ?_
  rintro W0 hW0
  have h0 := h6.ext (show Ext w6 W0 by (repeat (first | with_reducible exact Ext.refl _ | with_reducible assumption | refine Ext.trans ?_ (by with_reducible assumption) | refine Ext.alloc ?_ _ _ | refine Ext.drew ?_ | refine Ext.drewN ?_ _)))
  refine wp_region_held_drew (S := fun w' => Ext W0 w') (by kernel_rfl) (Ext.refl _).drew (fun hHeld => ?_)
  have HH : Hid (Ext W0 _) := hHeld
  clear hHeld
  refine wpAnyH_take (i := 0) (v := ?_) rfl (by kernel_rfl) (by kernel_rfl) (by kernel_rfl) (fun _ _ _ h => h) (Or.inl ⟨by rfl, ?_⟩) HH.out ?_
  rotate_left
  · intro w hSw; go_simp; try with_reducible rfl
  change wpAnyH _ _ _ _ _ _ _ (Act.put _ (some 55) _) _
  simp only [Act.put, List.setIfInBounds_toArray, List.set_cons_zero, List.set_cons_succ]
  refine wpAnyH_take (i := 1) (v := ?_) rfl (by kernel_rfl) (by kernel_rfl) (by kernel_rfl) (fun _ _ _ h => h) (Or.inl ⟨by rfl, ?_⟩) HH.out ?_
  rotate_left
  · intro w hSw; go_simp; try with_reducible rfl
  change wpAnyH _ _ _ _ _ _ _ (Act.put _ (some 56) _) _
  simp only [Act.put, List.setIfInBounds_toArray, List.set_cons_zero, List.set_cons_succ]
  refine wpAnyH_take (i := 2) (v := ?_) rfl (by kernel_rfl) (by kernel_rfl) (by kernel_rfl) (fun _ _ _ h => h) (Or.inl ⟨by rfl, ?_⟩) HH.out ?_
  rotate_left
  · intro w hSw; go_simp; try with_reducible rfl
  change wpAnyH _ _ _ _ _ _ _ (Act.put _ (some 57) _) _
  simp only [Act.put, List.setIfInBounds_toArray, List.set_cons_zero, List.set_cons_succ]
  refine wpAnyH_take (i := 3) rfl (by kernel_rfl) (by kernel_rfl) (by kernel_rfl) (fun _ _ _ h => h) (yieldsIf_load1 (by rfl) _ _ rfl _ _ rfl onet60 _ (fun w hSw => by rw [(h0.v.blk.ext hSw).cell (by decide), h0.m.ptr])) HH.out ?_
  change wpAnyH _ _ _ _ _ _ _ (Act.put _ (some 58) _) _
  simp only [Act.put, List.setIfInBounds_toArray, List.set_cons_zero, List.set_cons_succ]
  refine wpAnyH_take (i := 4) rfl (by kernel_rfl) (by kernel_rfl) (by kernel_rfl) (fun _ _ _ h => h) (yields_A (by rfl) rfl rfl (fun w hSw => b9.ext (Ext.trans (by (repeat (first | with_reducible exact Ext.refl _ | with_reducible assumption | refine Ext.trans ?_ (by with_reducible assumption) | refine Ext.alloc ?_ _ _ | refine Ext.drew ?_ | refine Ext.drewN ?_ _))) hSw)) a9 hal (by decide)) HH.out ?_
  change wpAnyH _ _ _ _ _ _ _ (Act.put _ (some 59) _) _
  simp only [Act.put, List.setIfInBounds_toArray, List.set_cons_zero, List.set_cons_succ]
  refine wpAnyH_ready (rs := [5]) (by kernel_rfl) (by simp) ?_
  refine AllReadyH.cons rfl (fun K hK => ?_) AllReadyH.nil
  go_simp
  go_at_call 112; refine (HCd _ (by (repeat (first | with_reducible exact Ext.refl _ | with_reducible assumption | refine Ext.trans ?_ (by with_reducible assumption) | refine Ext.alloc ?_ _ _ | refine Ext.drew ?_ | refine Ext.drewN ?_ _)))).mono ?_; rintro e w7 ⟨rv, rfl, hrv, he⟩; obtain ⟨ro, rc, rfl, r1, r2, r3⟩ := hrv
  refine hK.out _ _ ?_ (fun hHeld => ?_)
  · first | exact HH.out.trans hmY | exact HH.out.trans he | exact HH.out
  clear hK K HH
  have HH : Hid (Ext W0 _) := hHeld
  clear hHeld
  refine wpAnyH_take (i := 6) (v := ?_) rfl (by kernel_rfl) (by kernel_rfl) (by kernel_rfl) (fun _ _ _ h => h) (Or.inl ⟨by rfl, ?_⟩) HH.out ?_
  rotate_left
  · intro w hSw; go_simp; try with_reducible rfl
  change wpAnyH _ _ _ _ _ _ _ (Act.put _ (some 7) _) _
  simp only [Act.put, List.setIfInBounds_toArray, List.set_cons_zero, List.set_cons_succ]
  refine wpAnyH_done (by kernel_rfl) ?_ _
  have hrv : NL (Mu own6) w7 (.slice ro (st.now.code (addrA (f.arg 0))).length rc) (st.now.code (addrA (f.arg 0))) := ⟨ro, rc, rfl, r1, r2, r3⟩
  obtain ⟨lo, hlo⟩ : ∃ l, Hid ((st.now.code (addrA (f.arg 0))).length = l) := ⟨_, rfl⟩
  rw [hlo.out] at hrv
  have E67 : Ext w6 w7 := by (repeat (first | with_reducible exact Ext.refl _ | with_reducible assumption | refine Ext.trans ?_ (by with_reducible assumption) | refine Ext.alloc ?_ _ _ | refine Ext.drew ?_ | refine Ext.drewN ?_ _))
  have h7 := h6.ext E67
  replace b3 := b3.ext E67
  replace b4 := b4.ext E67
  replace b5 := b5.ext E67
  have s7 : MStep own w own6 w7 := s6.trans (MStep.ext E67)
  clear HCd HH h0 b9 s6
  rw [hlo.out]
  go_upto_region 21 with (first | ((with_reducible (refine Veil.out ?_; apply wl_loadWB)); (case hx => rfl); (case hB => exact b4.ext (by (repeat (first | with_reducible exact Ext.refl _ | with_reducible assumption | refine Ext.trans ?_ (by with_reducible assumption) | refine Ext.alloc ?_ _ _ | refine Ext.drew ?_ | refine Ext.drewN ?_ _)))); (case hW => exact a4); (case hi => decide)) | ((with_reducible (refine Veil.out ?_; apply wl_storeWB)); (case hx => rfl); (case hy => rfl); (case hB => exact b3.ext (by (repeat (first | with_reducible exact Ext.refl _ | with_reducible assumption | refine Ext.trans ?_ (by with_reducible assumption) | refine Ext.alloc ?_ _ _ | refine Ext.drew ?_ | refine Ext.drewN ?_ _)))); (case hi => decide); rintro W20 c20' d20 a20' _ m20))
  have h20 := (h7.ext (show Ext w7 _ by (repeat (first | with_reducible exact Ext.refl _ | with_reducible assumption | refine Ext.trans ?_ (by with_reducible assumption) | refine Ext.alloc ?_ _ _ | refine Ext.drew ?_ | refine Ext.drewN ?_ _)))).apart u3 m20 (fun o n cap q => f3 o n cap (hc1.symm.trans q))
  have s20 := s7.trans ((MStep.ext (show Ext w7 _ by (repeat (first | with_reducible exact Ext.refl _ | with_reducible assumption | refine Ext.trans ?_ (by with_reducible assumption) | refine Ext.alloc ?_ _ _ | refine Ext.drew ?_ | refine Ext.drewN ?_ _)))).trans (⟨fun _ _ => rfl, m20.sub (fun x hx => by rw [hx, u3]; decide)⟩ : MStep own6 _ own6 W20))
  replace hrv := Keep.nl (g := g) (⟨fun _ _ => rfl, m20.sub (fun x hx => Or.inr (by rw [hx]; exact u3)), h6.v.tag, by decide⟩ : Keep own6 own6 g 7 _ W20) (hrv.ext (show Ext w7 _ by (repeat (first | with_reducible exact Ext.refl _ | with_reducible assumption | refine Ext.trans ?_ (by with_reducible assumption) | refine Ext.alloc ?_ _ _ | refine Ext.drew ?_ | refine Ext.drewN ?_ _))))
  replace b4 := (b4.ext (show Ext w7 _ by (repeat (first | with_reducible exact Ext.refl _ | with_reducible assumption | refine Ext.trans ?_ (by with_reducible assumption) | refine Ext.alloc ?_ _ _ | refine Ext.drew ?_ | refine Ext.drewN ?_ _)))).mod m20 (fun q => n34 q.symm)
  replace b5 := (b5.ext (show Ext w7 _ by (repeat (first | with_reducible exact Ext.refl _ | with_reducible assumption | refine Ext.trans ?_ (by with_reducible assumption) | refine Ext.alloc ?_ _ _ | refine Ext.drew ?_ | refine Ext.drewN ?_ _)))).mod m20 (fun q => n35 q.symm)
  clear b3 a3
  go_upto_region 22 with (first | ((with_reducible (refine Veil.out ?_; apply wl_loadWB)); (case hx => rfl); (case hB => exact b5.ext (by (repeat (first | with_reducible exact Ext.refl _ | with_reducible assumption | refine Ext.trans ?_ (by with_reducible assumption) | refine Ext.alloc ?_ _ _ | refine Ext.drew ?_ | refine Ext.drewN ?_ _)))); (case hW => exact a5); (case hi => decide)) | ((with_reducible (refine Veil.out ?_; apply wl_storeWB)); (case hx => rfl); (case hy => rfl); (case hB => exact b4.ext (by (repeat (first | with_reducible exact Ext.refl _ | with_reducible assumption | refine Ext.trans ?_ (by with_reducible assumption) | refine Ext.alloc ?_ _ _ | refine Ext.drew ?_ | refine Ext.drewN ?_ _)))); (case hi => decide); rintro W21 c21' d21 a21' _ m21))
  have h21 := (h20.ext (show Ext W20 _ by (repeat (first | with_reducible exact Ext.refl _ | with_reducible assumption | refine Ext.trans ?_ (by with_reducible assumption) | refine Ext.alloc ?_ _ _ | refine Ext.drew ?_ | refine Ext.drewN ?_ _)))).apart u4 m21 (fun o n cap q => f4 o n cap (hc1.symm.trans q))
  have s21 := s20.trans ((MStep.ext (show Ext W20 _ by (repeat (first | with_reducible exact Ext.refl _ | with_reducible assumption | refine Ext.trans ?_ (by with_reducible assumption) | refine Ext.alloc ?_ _ _ | refine Ext.drew ?_ | refine Ext.drewN ?_ _)))).trans (⟨fun _ _ => rfl, m21.sub (fun x hx => by rw [hx, u4]; decide)⟩ : MStep own6 _ own6 W21))
  replace hrv := Keep.nl (g := g) (⟨fun _ _ => rfl, m21.sub (fun x hx => Or.inr (by rw [hx]; exact u4)), h6.v.tag, by decide⟩ : Keep own6 own6 g 7 _ W21) (hrv.ext (show Ext W20 _ by (repeat (first | with_reducible exact Ext.refl _ | with_reducible assumption | refine Ext.trans ?_ (by with_reducible assumption) | refine Ext.alloc ?_ _ _ | refine Ext.drew ?_ | refine Ext.drewN ?_ _))))
  replace d20 := (d20.ext (show Ext W20 _ by (repeat (first | with_reducible exact Ext.refl _ | with_reducible assumption | refine Ext.trans ?_ (by with_reducible assumption) | refine Ext.alloc ?_ _ _ | refine Ext.drew ?_ | refine Ext.drewN ?_ _)))).mod m21 n34
  replace b5 := (b5.ext (show Ext W20 _ by (repeat (first | with_reducible exact Ext.refl _ | with_reducible assumption | refine Ext.trans ?_ (by with_reducible assumption) | refine Ext.alloc ?_ _ _ | refine Ext.drew ?_ | refine Ext.drewN ?_ _)))).mod m21 (fun q => n45 q.symm)
  clear b4 a4 h20 s20
  have HA3 := fun W (hW : Ext W21 W) => mArg (h21.ext hW) hst6 3 (by decide)
  go_upto_region 23 with (first | (go_at_call_of 273 (Value.int IntKind.i64 3); refine (HA3 _ (by (repeat (first | with_reducible exact Ext.refl _ | with_reducible assumption | refine Ext.trans ?_ (by with_reducible assumption) | refine Ext.alloc ?_ _ _ | refine Ext.drew ?_ | refine Ext.drewN ?_ _)))).mono ?_; rintro e w1 ⟨rfl, he⟩) | ((with_reducible (refine Veil.out ?_; apply wl_storeWB)); (case hx => rfl); (case hy => rfl); (case hB => exact b5.ext (by (repeat (first | with_reducible exact Ext.refl _ | with_reducible assumption | refine Ext.trans ?_ (by with_reducible assumption) | refine Ext.alloc ?_ _ _ | refine Ext.drew ?_ | refine Ext.drewN ?_ _)))); (case hi => decide); rintro W22 c22' d22 a22' _ m22))
  have h22 := (h21.ext (show Ext W21 _ by (repeat (first | with_reducible exact Ext.refl _ | with_reducible assumption | refine Ext.trans ?_ (by with_reducible assumption) | refine Ext.alloc ?_ _ _ | refine Ext.drew ?_ | refine Ext.drewN ?_ _)))).apart u5 m22 (fun o n cap q => f5 o n cap (hc1.symm.trans q))
  have s22 := s21.trans ((MStep.ext (show Ext W21 _ by (repeat (first | with_reducible exact Ext.refl _ | with_reducible assumption | refine Ext.trans ?_ (by with_reducible assumption) | refine Ext.alloc ?_ _ _ | refine Ext.drew ?_ | refine Ext.drewN ?_ _)))).trans (⟨fun _ _ => rfl, m22.sub (fun x hx => by rw [hx, u5]; decide)⟩ : MStep own6 _ own6 W22))
  replace hrv := Keep.nl (g := g) (⟨fun _ _ => rfl, m22.sub (fun x hx => Or.inr (by rw [hx]; exact u5)), h6.v.tag, by decide⟩ : Keep own6 own6 g 7 _ W22) (hrv.ext (show Ext W21 _ by (repeat (first | with_reducible exact Ext.refl _ | with_reducible assumption | refine Ext.trans ?_ (by with_reducible assumption) | refine Ext.alloc ?_ _ _ | refine Ext.drew ?_ | refine Ext.drewN ?_ _))))
  replace d20 := (d20.ext (show Ext W21 _ by (repeat (first | with_reducible exact Ext.refl _ | with_reducible assumption | refine Ext.trans ?_ (by with_reducible assumption) | refine Ext.alloc ?_ _ _ | refine Ext.drew ?_ | refine Ext.drewN ?_ _)))).mod m22 n35
  replace d21 := (d21.ext (show Ext W21 _ by (repeat (first | with_reducible exact Ext.refl _ | with_reducible assumption | refine Ext.trans ?_ (by with_reducible assumption) | refine Ext.alloc ?_ _ _ | refine Ext.drew ?_ | refine Ext.drewN ?_ _)))).mod m22 n45
  clear b5 a5 h21 s21 HA3 h7 s7
  have hk : 0 < f.arg 3 := by omega
  have hms : min (f.arg 2) 18446744073709551615 < 18446744073709551616 := by omega
  have HST := fun W (hW : Ext W22 W) => mMWriteB (h22.ext hW) hst6 (Mu own6) _ _ (hrv.ext hW) (min (f.arg 2) 18446744073709551615) hms (f.arg 1) (f.arg 3) hk hf
  rw [cut_min (by have := hlo.out; omega), copyA_pos hz hf] at HST
  have HM0 := fun W => mSmall (f.arg 1) W hx1
  have HM2 := fun W => mSmall (f.arg 3) W hx3
  rw [show min (f.arg 1) 4294967295 = f.arg 1 by omega] at HM0
  rw [show min (f.arg 3) 4294967295 = f.arg 3 by omega] at HM2
  have HM1 := fun W => mSource (f.arg 2) W hx2
  go_upto_region 28 with (first | ((with_reducible (refine Veil.out ?_; apply wl_loadWB)); (case hx => rfl); (case hB => exact d22.ext (by (repeat (first | with_reducible exact Ext.refl _ | with_reducible assumption | refine Ext.trans ?_ (by with_reducible assumption) | refine Ext.alloc ?_ _ _ | refine Ext.drew ?_ | refine Ext.drewN ?_ _)))); (case hW => exact a22'); (case hi => decide)) | (go_at_call 87; refine (HZ _).mono ?_; rintro e w4 ⟨rfl, he4⟩))
  refine w_ext ?_
  rintro W0 hW0
  refine wp_region_held_drew (S := fun w' => Mod (fun b => ¬ (b = B3 ∨ b = B4 ∨ b = B5)) W0 w') (by kernel_rfl) (Mod.refl _ _).drew (fun hHeld => ?_)
  have HH : Hid (Mod (fun b => ¬ (b = B3 ∨ b = B4 ∨ b = B5)) W0 _) := hHeld
  clear hHeld
  refine wpAnyH_take (i := 0) (v := ?_) rfl (by kernel_rfl) (by kernel_rfl) (by kernel_rfl) (fun _ _ _ h => h) (Or.inl ⟨by rfl, ?_⟩) HH.out ?_
  rotate_left
  · intro w hSw; go_simp; try with_reducible rfl
  change wpAnyH _ _ _ _ _ _ _ (Act.put _ (some 85) _) _
  simp only [Act.put, List.setIfInBounds_toArray, List.set_cons_zero, List.set_cons_succ]
  refine wpAnyH_take (i := 1) (v := ?_) rfl (by kernel_rfl) (by kernel_rfl) (by kernel_rfl) (fun _ _ _ h => h) (Or.inl ⟨by rfl, ?_⟩) HH.out ?_
  rotate_left
  · intro w hSw; go_simp; try with_reducible rfl
  change wpAnyH _ _ _ _ _ _ _ (Act.put _ (some 86) _) _
  simp only [Act.put, List.setIfInBounds_toArray, List.set_cons_zero, List.set_cons_succ]
  refine wpAnyH_take (i := 2) (v := ?_) rfl (by kernel_rfl) (by kernel_rfl) (by kernel_rfl) (fun _ _ _ h => h) (Or.inl ⟨by rfl, ?_⟩) HH.out ?_
  rotate_left
  · intro w hSw; go_simp; try with_reducible rfl
  change wpAnyH _ _ _ _ _ _ _ (Act.put _ (some 87) _) _
  simp only [Act.put, List.setIfInBounds_toArray, List.set_cons_zero, List.set_cons_succ]
  refine wpAnyH_take (i := 3) rfl (by kernel_rfl) (by kernel_rfl) (by kernel_rfl) (fun _ _ _ h => h) (yields_W (by rfl) rfl rfl (fun w hSw => (d20.ext (show Ext W22 W0 from by (repeat (first | with_reducible exact Ext.refl _ | with_reducible assumption | refine Ext.trans ?_ (by with_reducible assumption) | refine Ext.alloc ?_ _ _ | refine Ext.drew ?_ | refine Ext.drewN ?_ _)))).mod hSw (fun q => q (Or.inl rfl))) a20' (by decide)) HH.out ?_
  change wpAnyH _ _ _ _ _ _ _ (Act.put _ (some 88) _) _
  simp only [Act.put, List.setIfInBounds_toArray, List.set_cons_zero, List.set_cons_succ]
  refine wpAnyH_take (i := 5) (v := ?_) rfl (by kernel_rfl) (by kernel_rfl) (by kernel_rfl) (fun _ _ _ h => h) (Or.inl ⟨by rfl, ?_⟩) HH.out ?_
  rotate_left
  · intro w hSw; go_simp; try with_reducible rfl
  change wpAnyH _ _ _ _ _ _ _ (Act.put _ (some 90) _) _
  simp only [Act.put, List.setIfInBounds_toArray, List.set_cons_zero, List.set_cons_succ]
  refine wpAnyH_take (i := 6) rfl (by kernel_rfl) (by kernel_rfl) (by kernel_rfl) (fun _ _ _ h => h) (yields_W (by rfl) rfl rfl (fun w hSw => (d21.ext (show Ext W22 W0 from by (repeat (first | with_reducible exact Ext.refl _ | with_reducible assumption | refine Ext.trans ?_ (by with_reducible assumption) | refine Ext.alloc ?_ _ _ | refine Ext.drew ?_ | refine Ext.drewN ?_ _)))).mod hSw (fun q => q (Or.inr (Or.inl rfl)))) a21' (by decide)) HH.out ?_
  change wpAnyH _ _ _ _ _ _ _ (Act.put _ (some 91) _) _
  simp only [Act.put, List.setIfInBounds_toArray, List.set_cons_zero, List.set_cons_succ]
  refine wpAnyH_take (i := 8) rfl (by kernel_rfl) (by kernel_rfl) (by kernel_rfl) (fun _ _ _ h => h) (yields_W (by rfl) rfl rfl (fun w hSw => (d22.ext (show Ext W22 W0 from by (repeat (first | with_reducible exact Ext.refl _ | with_reducible assumption | refine Ext.trans ?_ (by with_reducible assumption) | refine Ext.alloc ?_ _ _ | refine Ext.drew ?_ | refine Ext.drewN ?_ _)))).mod hSw (fun q => q (Or.inr (Or.inr rfl)))) a22' (by decide)) HH.out ?_
  change wpAnyH _ _ _ _ _ _ _ (Act.put _ (some 93) _) _
  simp only [Act.put, List.setIfInBounds_toArray, List.set_cons_zero, List.set_cons_succ]
  refine wpAnyH_ready (rs := [4]) (by kernel_rfl) (by simp) ?_
  refine AllReadyH.cons rfl (fun K hK => ?_) AllReadyH.nil
  go_simp
  go_at_call 308; refine (HM0 _).mono ?_; rintro e w4 ⟨rfl, he⟩
  refine hK.out _ _ ?_ (fun hHeld => ?_)
  · first | exact HH.out.trans_ext he | exact HH.out.trans (mq.sub (fun x hx => by have hx2 : x = bq := hx; rw [hx2]; rintro (z | z | z); exact f3 _ _ _ (hc1.symm.trans kq) _ rfl z; exact f4 _ _ _ (hc1.symm.trans kq) _ rfl z; exact f5 _ _ _ (hc1.symm.trans kq) _ rfl z))
  clear hK K HH
  have HH : Hid (Mod (fun b => ¬ (b = B3 ∨ b = B4 ∨ b = B5)) W0 _) := hHeld
  clear hHeld
  refine wpAnyH_ready (rs := [7]) (by kernel_rfl) (by simp) ?_
  refine AllReadyH.cons rfl (fun K hK => ?_) AllReadyH.nil
  go_simp
  go_at_call 306; refine (HM1 _).mono ?_; rintro e w4 ⟨rfl, he⟩
  refine hK.out _ _ ?_ (fun hHeld => ?_)
  · first | exact HH.out.trans_ext he | exact HH.out.trans (mq.sub (fun x hx => by have hx2 : x = bq := hx; rw [hx2]; rintro (z | z | z); exact f3 _ _ _ (hc1.symm.trans kq) _ rfl z; exact f4 _ _ _ (hc1.symm.trans kq) _ rfl z; exact f5 _ _ _ (hc1.symm.trans kq) _ rfl z))
  clear hK K HH
  have HH : Hid (Mod (fun b => ¬ (b = B3 ∨ b = B4 ∨ b = B5)) W0 _) := hHeld
  clear hHeld
  refine wpAnyH_ready (rs := [9]) (by kernel_rfl) (by simp) ?_
  refine AllReadyH.cons rfl (fun K hK => ?_) AllReadyH.nil
  go_simp
  go_at_call 308; refine (HM2 _).mono ?_; rintro e w4 ⟨rfl, he⟩
  refine hK.out _ _ ?_ (fun hHeld => ?_)
  · first | exact HH.out.trans_ext he | exact HH.out.trans (mq.sub (fun x hx => by have hx2 : x = bq := hx; rw [hx2]; rintro (z | z | z); exact f3 _ _ _ (hc1.symm.trans kq) _ rfl z; exact f4 _ _ _ (hc1.symm.trans kq) _ rfl z; exact f5 _ _ _ (hc1.symm.trans kq) _ rfl z))
  clear hK K HH
  have HH : Hid (Mod (fun b => ¬ (b = B3 ∨ b = B4 ∨ b = B5)) W0 _) := hHeld
  clear hHeld
  refine wpAnyH_ready (rs := [10]) (by kernel_rfl) (by simp) ?_
  refine AllReadyH.cons rfl (fun K hK => ?_) AllReadyH.nil
  go_simp
  go_at_call 267; refine (HST _ (by (repeat (first | with_reducible exact Ext.refl _ | with_reducible assumption | refine Ext.trans ?_ (by with_reducible assumption) | refine Ext.alloc ?_ _ _ | refine Ext.drew ?_ | refine Ext.drewN ?_ _)))).mono ?_; rintro e w5 ⟨rfl, h5, m5, bq, nq, cq, kq, mq⟩
  refine hK.out _ _ ?_ (fun hHeld => ?_)
  · first | exact HH.out.trans_ext he | exact HH.out.trans (mq.sub (fun x hx => by have hx2 : x = bq := hx; rw [hx2]; rintro (z | z | z); exact f3 _ _ _ (hc1.symm.trans kq) _ rfl z; exact f4 _ _ _ (hc1.symm.trans kq) _ rfl z; exact f5 _ _ _ (hc1.symm.trans kq) _ rfl z))
  clear hK K HH
  have HH : Hid (Mod (fun b => ¬ (b = B3 ∨ b = B4 ∨ b = B5)) W0 _) := hHeld
  clear hHeld
  refine wpAnyH_take (i := 11) (v := ?_) rfl (by kernel_rfl) (by kernel_rfl) (by kernel_rfl) (fun _ _ _ h => h) (Or.inl ⟨by rfl, ?_⟩) HH.out ?_
  rotate_left
  · intro w hSw; go_simp; try with_reducible rfl
  change wpAnyH _ _ _ _ _ _ _ (Act.put _ (some 10) _) _
  simp only [Act.put, List.setIfInBounds_toArray, List.set_cons_zero, List.set_cons_succ]
  refine wpAnyH_done (by kernel_rfl) ?_ _
  have mS : MStep own w own6 w5 := (s22.trans (MStep.ext (by (repeat (first | with_reducible exact Ext.refl _ | with_reducible assumption | refine Ext.trans ?_ (by with_reducible assumption) | refine Ext.alloc ?_ _ _ | refine Ext.drew ?_ | refine Ext.drewN ?_ _))))).trans m5
  have HS := mSetN h5 rfl 4 1 0 hl (show f.pc + 1 ≤ 60000 by omega)
  rw [wv0] at HS
  clear HST m5
  go_wp2_with (first | (go_at_call 268; refine (HS _ (by (repeat (first | with_reducible exact Ext.refl _ | with_reducible assumption | refine Ext.trans ?_ (by with_reducible assumption) | refine Ext.alloc ?_ _ _ | refine Ext.drew ?_ | refine Ext.drewN ?_ _)))).mono ?_; rintro e w9 ⟨rfl, hfin⟩))
  go_end0
  obtain ⟨c9, h9, m9⟩ := hfin
  exact ⟨rfl, own6, c9, V6, h9, mS.trans m9, hV6⟩
end
end Go.Proofs.YgvahwGreat
