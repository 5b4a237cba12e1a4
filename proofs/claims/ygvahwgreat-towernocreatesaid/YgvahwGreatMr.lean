import Derived.Test.YgvahwGreatMq
namespace Go.Proofs.YgvahwGreat
open Go.RowKit
set_option linter.unusedSimpArgs false
theorem rowOf_lay (c : Nat → Value) (o : Nat) (r : Array Value) : rowOf (layv c o r) o r.size = r := by
  refine ext_cf (rowOf_size _ _ _) (fun i hi => ?_)
  rw [rowOf_size] at hi
  rw [cf_rowOf _ _ _ hi, layv_in _ _ _ hi]
section
variable {own : Nat → Nat} {w : World} {g : Nat} {c : Nat → Value} {V : EV} {st : ASt} {sn stale : List Nat} {s : Nat} {f : AFrame} {rest : List AFrame}
set_option maxRecDepth 100000 in
set_option maxHeartbeats 6400000 in
theorem mOpMload (h : MRep own w g c V st (s :: sn) stale) (hst : st.frames = f :: rest) (hph : st.phase = 1) (ho : f.opcode = 81) (hl : 1 ≤ f.stack.length) (hpc : f.pc ≤ 50000) (hf : f.arg 0 + 32 ≤ f.mem.length) : Calls Hvah.prog 206 #[.pointer (some ⟨g, 0, none⟩)] w fun e w' => e = .returned (.tuple #[]) ∧ ∃ c', MRep own w' g c' V { st with frames := f.settle 1 [bev (cutA f.mem (f.arg 0) 32)] 1 :: rest } (s :: sn) stale ∧ MStep own w own w' := by
  obtain ⟨hfr, hr7⟩ := h.frame hst
  have hml := hfr.ok.mLen
  have hsl := hfr.ok.sLen
  have HR := fun W (hW : Ext w W) => mRun (h.ext hW) hst hph
  have HO := fun W (hW : Ext w W) => mOp (h.ext hW) hst hph
  rw [ho] at HO
  have HA0 := fun W (hW : Ext w W) => mArg (h.ext hW) hst 0 (by decide)
  have HA1 := fun W (hW : Ext w W) => mArg (h.ext hW) hst 1 (by decide)
  have HSm := fun W => mSmall (f.arg 0) W (hfr.ok.argLt 0)
  rw [show min (f.arg 0) 4294967295 = f.arg 0 by omega] at HSm
  have HL := fun W (hW : Ext w W) => mMLoad (h.ext hW) hst (f.arg 0) hf
  have ec : cutA f.mem (f.arg 0) 32 = (f.mem.drop (f.arg 0)).take 32 := by
    unfold cutA
    rw [List.take_append_of_le_length (by rw [List.length_drop]; omega)]
  have hdg : Digits ((f.mem.drop (f.arg 0)).take 32) := fun d hd => by
    obtain ⟨lo, n, cap, b, o, cc, l, ht, hq⟩ := h.top1 hst
    rw [← hq (f.arg 0) 32 hf] at hd
    exact ht.lt d (List.mem_of_mem_drop (List.mem_of_mem_take hd))
  have hlen : ((f.mem.drop (f.arg 0)).take 32).length = 32 := by rw [List.length_take, List.length_drop]; omega
  rw [ec]
  clear ec
  generalize (f.mem.drop (f.arg 0)).take 32 = L at *
  have HF := fun W => uFromBytes L W hlen hdg
  have hbv : bev L < P256 := by have := bev_lt L hdg; rw [hlen] at this; exact this
  have hrs : (bcells L).toArray.size = 32 := by simp [bcells_length, hlen]
  have hro : Ones (bcells L).toArray := fun v hv => by
    simp [bcells] at hv
    obtain ⟨x, _, rfl⟩ := hv
    rfl
  have hrow : ∀ z : Nat → Value, rowOf (layv z 0 (bcells L).toArray) 0 32 = (bcells L).toArray := fun z => by
    have := rowOf_lay z 0 (bcells L).toArray
    rwa [hrs] at this
  have HS := mSetP h hst 1 1 (bev L) (by omega) (by omega) hbv (by omega)
  generalize bev L = x at *
  generalize f.arg 0 = k at *
  go_enter Hvah.func206, Hvah.ntmps206
  go_wp2_with (first | (go_at_call 192; refine (HR _ (by (repeat (first | with_reducible exact Ext.refl _ | with_reducible assumption | refine Ext.trans ?_ (by with_reducible assumption) | refine Ext.alloc ?_ _ _ | refine Ext.drew ?_ | refine Ext.drewN ?_ _)))).mono ?_; rintro e w1 ⟨rfl, he⟩) | (go_at_call 117; refine (HO _ (by (repeat (first | with_reducible exact Ext.refl _ | with_reducible assumption | refine Ext.trans ?_ (by with_reducible assumption) | refine Ext.alloc ?_ _ _ | refine Ext.drew ?_ | refine Ext.drewN ?_ _)))).mono ?_; rintro e w1 ⟨rfl, he⟩) | (go_at_call_of 273 (Value.int IntKind.i64 0); refine (HA0 _ (by (repeat (first | with_reducible exact Ext.refl _ | with_reducible assumption | refine Ext.trans ?_ (by with_reducible assumption) | refine Ext.alloc ?_ _ _ | refine Ext.drew ?_ | refine Ext.drewN ?_ _)))).mono ?_; rintro e w1 ⟨rfl, he⟩) | (go_at_call_of 273 (Value.int IntKind.i64 1); refine (HA1 _ (by (repeat (first | with_reducible exact Ext.refl _ | with_reducible assumption | refine Ext.trans ?_ (by with_reducible assumption) | refine Ext.alloc ?_ _ _ | refine Ext.drew ?_ | refine Ext.drewN ?_ _)))).mono ?_; rintro e w1 ⟨rfl, he⟩) | (go_at_call 308; refine (HSm _).mono ?_; rintro e w1 ⟨rfl, he⟩) | ((with_reducible (refine Veil.out ?_; apply wl_allocW)); rintro B2 W2 c2 e2 b2 a2 g2) | ((with_reducible (refine Veil.out ?_; apply wl_storeWB)); (case hx => rfl); (case hy => first | rfl | exact wv0.symm); (case hB => first | exact b3.ext (by (repeat (first | with_reducible exact Ext.refl _ | with_reducible assumption | refine Ext.trans ?_ (by with_reducible assumption) | refine Ext.alloc ?_ _ _ | refine Ext.drew ?_ | refine Ext.drewN ?_ _))) | exact b2.ext (by (repeat (first | with_reducible exact Ext.refl _ | with_reducible assumption | refine Ext.trans ?_ (by with_reducible assumption) | refine Ext.alloc ?_ _ _ | refine Ext.drew ?_ | refine Ext.drewN ?_ _)))); (case hi => decide); rintro W3 c3 b3 a3 _ m3; have hE3 : Ext w W3 := Ext.trans_mod (by (repeat (first | with_reducible exact Ext.refl _ | with_reducible assumption | refine Ext.trans ?_ (by with_reducible assumption) | refine Ext.alloc ?_ _ _ | refine Ext.drew ?_ | refine Ext.drewN ?_ _))) m3 (fun i hi => by have hi2 : i = B2 := hi; rw [hi2]; exact Nat.le_trans (Ext.size (by (repeat (first | with_reducible exact Ext.refl _ | with_reducible assumption | refine Ext.trans ?_ (by with_reducible assumption) | refine Ext.alloc ?_ _ _ | refine Ext.drew ?_ | refine Ext.drewN ?_ _)))) g2)) | (go_at_call 310; refine (HL _ (by (repeat (first | with_reducible exact Ext.refl _ | with_reducible assumption | refine Ext.trans ?_ (by with_reducible assumption) | refine Ext.alloc ?_ _ _ | refine Ext.drew ?_ | refine Ext.drewN ?_ _)))).mono ?_; rintro e w1 ⟨rfl, he⟩) | ((with_reducible (refine Veil.out ?_; apply wl_allocB z27)); (case hn => rfl); rintro B5 W5 e5 b5 g5) | ((with_reducible (refine Veil.out ?_; apply wl_storeRow rt27)); (case hx => rfl); (case hy => rfl); (case hr => exact hrs); (case h1 => exact hro); (case hB => exact b5.ext (by (repeat (first | with_reducible exact Ext.refl _ | with_reducible assumption | refine Ext.trans ?_ (by with_reducible assumption) | refine Ext.alloc ?_ _ _ | refine Ext.drew ?_ | refine Ext.drewN ?_ _)))); (case hi => decide); rintro W6 b6 m6; have hE6 : Ext w W6 := Ext.trans_mod (by (repeat (first | with_reducible exact Ext.refl _ | with_reducible assumption | refine Ext.trans ?_ (by with_reducible assumption) | refine Ext.alloc ?_ _ _ | refine Ext.drew ?_ | refine Ext.drewN ?_ _))) m6 (fun i hi => by have hi2 : i = B5 := hi; rw [hi2]; exact Nat.le_trans (Ext.size (by (repeat (first | with_reducible exact Ext.refl _ | with_reducible assumption | refine Ext.trans ?_ (by with_reducible assumption) | refine Ext.alloc ?_ _ _ | refine Ext.drew ?_ | refine Ext.drewN ?_ _)))) g5)) | ((with_reducible (refine Veil.out ?_; apply wl_loadRow rt27)); (case hx => rfl); (case hB => exact b6.ext (by (repeat (first | with_reducible exact Ext.refl _ | with_reducible assumption | refine Ext.trans ?_ (by with_reducible assumption) | refine Ext.alloc ?_ _ _ | refine Ext.drew ?_ | refine Ext.drewN ?_ _)))); (case hi => decide); rw [hrow]) | (go_at_call 92; refine (HF _).mono ?_; rintro e w1 ⟨rfl, he⟩) | (go_at_call 268; refine (HS _ (by (repeat (first | with_reducible exact Ext.refl _ | with_reducible assumption | refine Ext.trans ?_ (by with_reducible assumption) | refine Ext.alloc ?_ _ _ | refine Ext.drew ?_ | refine Ext.drewN ?_ _)))).mono ?_; rintro e w9 ⟨rfl, hfin⟩))
  refine bodyPost_ret (results_none rfl _ _ _) rfl ?_
  exact ⟨rfl, hfin⟩
set_option maxRecDepth 100000 in
set_option maxHeartbeats 6400000 in
theorem mOpSur89 (h : MRep own w g c V st (s :: sn) stale) (hst : st.frames = f :: rest) (hph : st.phase = 1) (ho : f.opcode = 89) (hl2 : f.stack.length < 64) (hpc : f.pc ≤ 50000) : Calls Hvah.prog 203 #[.pointer (some ⟨g, 0, none⟩)] w fun e w' => e = .returned (.tuple #[]) ∧ ∃ c', MRep own w' g c' V { st with frames := f.settle 0 [f.mem.length] 1 :: rest } (s :: sn) stale ∧ MStep own w own w' := by
  obtain ⟨hfr, hr7⟩ := h.frame hst
  have hml := hfr.ok.mLen
  have HR := fun W (hW : Ext w W) => mRun (h.ext hW) hst hph
  have HO := fun W (hW : Ext w W) => mOp (h.ext hW) hst hph
  rw [ho] at HO
  have HL := fun W (hW : Ext w W) => mMLen (h.ext hW) hst
  have hxl : f.mem.length < 18446744073709551616 := by omega
  have hxP : f.mem.length < P256 := Nat.lt_trans hxl (by decide)
  have hlw : IntKind.u64.wrap (f.mem.length : Int) = (f.mem.length : Nat) := by rw [IntKind.wrap_u64]; omega
  have HS := mSetP h hst 0 1 f.mem.length (by omega) (by omega) hxP (by omega)
  generalize f.mem.length = x at *
  go_enter Hvah.func203, Hvah.ntmps203
  go_wp2_with (first | (go_at_call 192; refine (HR _ (by (repeat (first | with_reducible exact Ext.refl _ | with_reducible assumption | refine Ext.trans ?_ (by with_reducible assumption) | refine Ext.alloc ?_ _ _ | refine Ext.drew ?_ | refine Ext.drewN ?_ _)))).mono ?_; rintro e w1 ⟨rfl, he⟩) | (go_at_call 117; refine (HO _ (by (repeat (first | with_reducible exact Ext.refl _ | with_reducible assumption | refine Ext.trans ?_ (by with_reducible assumption) | refine Ext.alloc ?_ _ _ | refine Ext.drew ?_ | refine Ext.drewN ?_ _)))).mono ?_; rintro e w1 ⟨rfl, he⟩) | ((with_reducible (refine Veil.out ?_; apply wl_allocW)); rintro B2 W2 c2 e2 b2 a2 g2) | (go_at_call 277; refine (HL _ (by (repeat (first | with_reducible exact Ext.refl _ | with_reducible assumption | refine Ext.trans ?_ (by with_reducible assumption) | refine Ext.alloc ?_ _ _ | refine Ext.drew ?_ | refine Ext.drewN ?_ _)))).mono ?_; rintro e w1 ⟨rfl, he⟩) | ((with_reducible (refine Veil.out ?_; apply wl_storeC onel26)); (case hx => rfl); (case hy => rfl); (case h1 => rfl); (case hB => exact b3.ext (by (repeat (first | with_reducible exact Ext.refl _ | with_reducible assumption | refine Ext.trans ?_ (by with_reducible assumption) | refine Ext.alloc ?_ _ _ | refine Ext.drew ?_ | refine Ext.drewN ?_ _)))); (case hi => decide); rintro W4 b4 m4; have a4 := wat_limb a3 hxl; have hE4 : Ext w W4 := Ext.trans_mod (by (repeat (first | with_reducible exact Ext.refl _ | with_reducible assumption | refine Ext.trans ?_ (by with_reducible assumption) | refine Ext.alloc ?_ _ _ | refine Ext.drew ?_ | refine Ext.drewN ?_ _))) m4 (fun i hi => by have hi2 : i = B2 := hi; rw [hi2]; exact Nat.le_trans (Ext.size (by (repeat (first | with_reducible exact Ext.refl _ | with_reducible assumption | refine Ext.trans ?_ (by with_reducible assumption) | refine Ext.alloc ?_ _ _ | refine Ext.drew ?_ | refine Ext.drewN ?_ _)))) g2)) | ((with_reducible (refine Veil.out ?_; apply wl_storeWB)); (case hx => rfl); (case hy => first | rfl | exact wv0.symm); (case hB => first | exact b3.ext (by (repeat (first | with_reducible exact Ext.refl _ | with_reducible assumption | refine Ext.trans ?_ (by with_reducible assumption) | refine Ext.alloc ?_ _ _ | refine Ext.drew ?_ | refine Ext.drewN ?_ _))) | exact b2.ext (by (repeat (first | with_reducible exact Ext.refl _ | with_reducible assumption | refine Ext.trans ?_ (by with_reducible assumption) | refine Ext.alloc ?_ _ _ | refine Ext.drew ?_ | refine Ext.drewN ?_ _)))); (case hi => decide); rintro W3 c3 b3 a3 _ m3; have hE3 : Ext w W3 := Ext.trans_mod (by (repeat (first | with_reducible exact Ext.refl _ | with_reducible assumption | refine Ext.trans ?_ (by with_reducible assumption) | refine Ext.alloc ?_ _ _ | refine Ext.drew ?_ | refine Ext.drewN ?_ _))) m3 (fun i hi => by have hi2 : i = B2 := hi; rw [hi2]; exact Nat.le_trans (Ext.size (by (repeat (first | with_reducible exact Ext.refl _ | with_reducible assumption | refine Ext.trans ?_ (by with_reducible assumption) | refine Ext.alloc ?_ _ _ | refine Ext.drew ?_ | refine Ext.drewN ?_ _)))) g2)) | ((with_reducible (refine Veil.out ?_; apply wl_loadWB)); (case hx => rfl); (case hB => first | exact b4.ext (by (repeat (first | with_reducible exact Ext.refl _ | with_reducible assumption | refine Ext.trans ?_ (by with_reducible assumption) | refine Ext.alloc ?_ _ _ | refine Ext.drew ?_ | refine Ext.drewN ?_ _))) | exact b3.ext (by (repeat (first | with_reducible exact Ext.refl _ | with_reducible assumption | refine Ext.trans ?_ (by with_reducible assumption) | refine Ext.alloc ?_ _ _ | refine Ext.drew ?_ | refine Ext.drewN ?_ _)))); (case hW => first | exact a4 | exact a3); (case hi => decide)) | (go_at_call 268; refine (HS _ (by (repeat (first | with_reducible exact Ext.refl _ | with_reducible assumption | refine Ext.trans ?_ (by with_reducible assumption) | refine Ext.alloc ?_ _ _ | refine Ext.drew ?_ | refine Ext.drewN ?_ _)))).mono ?_; rintro e w9 ⟨rfl, hfin⟩))
  go_end0
  exact ⟨rfl, hfin⟩
end
end Go.Proofs.YgvahwGreat
