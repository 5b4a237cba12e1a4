import Derived.Test.YgvahwGreatRowsT
import Derived.Test.YgvahwGreatMLa
namespace Go.Proofs.YgvahwGreat
open Go.RowKit
set_option linter.unusedSimpArgs false
theorem SV.box7 {own : Nat → Nat} {g : Nat} {c : Nat → Value} {W0 w' : World} (h : SV own g c W0 w') {B n : Nat} {t : TypeId} {d : Nat → Value} (hb : Blk W0 B n t d) (hB : own B = 7) : Blk w' B n t d := by
  obtain ⟨o, e, k, b⟩ := h
  exact hb.mod k.mod (fun q => q.2 hB)
theorem rt72 : RowT 85 65 := rowT_of (by kernel_rfl) (by kernel_rfl)
theorem onel74 : OneT 87 := oneT_of (by kernel_rfl) (by kernel_rfl)
theorem onel5 : OneT 5 := oneT_of (by kernel_rfl) (by kernel_rfl)
theorem FrC.ofRow {O O' : Nat → Prop} {w w' : World} {r : Array Value} {f : AFrame} {n s : Nat} {d c' : Nat → Value} {sv : AW} (hr : FrR O w r f) (hnl : ∀ v l, NL O w v l → NL O' w' v l) (hc : ∀ j, j < 65 → c' (1803 + n * 65 + j) = d j) (hd : ∀ j, j ≠ 1 → j ≠ 5 → j ≠ 8 → (j < 55 ∨ 63 ≤ j) → d j = cf r j) (h5 : d 5 = .int .u16 (64 * n : Nat)) (h8 : d 8 = .int .i32 (s : Nat)) (hdt : ∀ j, j < 8 → d (55 + j) = .int .u64 (destW f.code j : Nat)) : FrC O' w' c' n s { f with saved := sv } := by
  have hq : ∀ j, j < 65 → j ≠ 1 → j ≠ 5 → j ≠ 8 → (j < 55 ∨ 63 ≤ j) → c' (1803 + n * 65 + j) = cf r j := fun j h1 h2 h3 h4 h6 => (hc j h1).trans (hd j h2 h3 h4 h6)
  have hok := hr.ok
  exact {
    kind := (hq 0 (by omega) (by omega) (by omega) (by omega) (by omega)).trans hr.kind
    pre := (hq 2 (by omega) (by omega) (by omega) (by omega) (by omega)).trans hr.pre
    static := (hq 3 (by omega) (by omega) (by omega) (by omega) (by omega)).trans hr.static
    pc := (hq 4 (by omega) (by omega) (by omega) (by omega) (by omega)).trans hr.pc
    sb := (hc 5 (by omega)).trans h5
    sp := by
      show c' (1803 + n * 65 + 6) = .int .u16 (f.stack.length : Nat)
      rw [hr.stk]; exact (hq 6 (by omega) (by omega) (by omega) (by omega) (by omega)).trans hr.sp
    gas := (hq 7 (by omega) (by omega) (by omega) (by omega) (by omega)).trans hr.gas
    snap := (hc 8 (by omega)).trans h8
    self := fun j v hv => by
      have hj := (Array.getElem?_eq_some_iff.1 hv).1
      have hj2 : j < 20 := by rw [← av_size hok.self]; exact hj
      rw [Nat.add_assoc, hq _ (by omega) (by omega) (by omega) (by omega) (by omega)]; exact hr.self j v hv
    caller := fun j v hv => by
      have hj := (Array.getElem?_eq_some_iff.1 hv).1
      have hj2 : j < 20 := by rw [← av_size hok.caller]; exact hj
      rw [Nat.add_assoc, hq _ (by omega) (by omega) (by omega) (by omega) (by omega)]; exact hr.caller j v hv
    value := ⟨(hq 49 (by omega) (by omega) (by omega) (by omega) (by omega)).trans hr.value.c0, (hq 50 (by omega) (by omega) (by omega) (by omega) (by omega)).trans hr.value.c1, (hq 51 (by omega) (by omega) (by omega) (by omega) (by omega)).trans hr.value.c2, (hq 52 (by omega) (by omega) (by omega) (by omega) (by omega)).trans hr.value.c3⟩
    code := by rw [hq 53 (by omega) (by omega) (by omega) (by omega) (by omega)]; exact hnl _ _ hr.code
    input := by rw [hq 54 (by omega) (by omega) (by omega) (by omega) (by omega)]; exact hnl _ _ hr.input
    dests := fun j hj => by rw [Nat.add_assoc, hc _ (by omega)]; exact hdt j hj
    outOff := (hq 63 (by omega) (by omega) (by omega) (by omega) (by omega)).trans hr.outOff
    outLen := (hq 64 (by omega) (by omega) (by omega) (by omega) (by omega)).trans hr.outLen
    stack := fun j hj => by
      have hj2 : j < f.stack.length := hj
      rw [hr.stk] at hj2; cases hj2
    ok := ⟨hok.kind, hok.pre, hok.pc, hok.sLen, hok.sLt, hok.gas, hok.self, hok.caller, hok.value, hok.code, hok.mLen, hok.m32, hok.oLt, hok.lLt, hok.out⟩ }
/-- move, as the vault does it. -/
def EV.moveTo (V : EV) (A : AW) (a b v : Nat) : EV := if v = 0 then V else (V.putBal a (A.bal a - v)).putBal b ((A.setBal a (A.bal a - v)).bal b + v)
section
variable {own : Nat → Nat} {w : World} {g : Nat} {c : Nat → Value} {V : EV} {st : ASt} {sn stale : List Nat}
theorem mMove (h : MRep own w g c V st sn stale) (hr : Room V 2) (a b v : Nat) (ha : a < 2 ^ 160) (hb : b < 2 ^ 160) (hv : v < P256) (hle : v ≤ st.now.bal a) (hov : v ≠ 0 → (st.now.setBal a (st.now.bal a - v)).bal b + v < P256) : Calls Hvah.prog 191 #[.pointer (some ⟨g, 0, none⟩), .agg (av a), .agg (av b), wv v] w fun e w' => e = .returned (.bool true) ∧ ∃ own' c', MRep own' w' g c' (V.moveTo st.now a b v) { st with now := st.now.move a b v } sn stale ∧ VStep own w c own' w' c' := by
  by_cases hz : v = 0
  · refine (mMove0 a b v ha hb hv hz).mono ?_
    rintro e w1 ⟨rfl, he⟩
    refine ⟨rfl, own, c, ?_, VStep.ext he⟩
    unfold EV.moveTo AW.move
    rw [if_pos hz, if_pos (Or.inl hz)]
    exact h.ext he
  · refine (mMoveP h hr a b v ha hb hv hz hle (hov hz)).mono ?_
    rintro e w1 ⟨rfl, own', c', h1, k1⟩
    refine ⟨rfl, own', c', ?_, k1⟩
    unfold EV.moveTo
    rw [if_neg hz]; exact h1
end
section
variable {own : Nat → Nat} {w : World} {g : Nat} {c : Nat → Value} {V : EV} {st : ASt} {sn stale : List Nat} {s : Nat} {f : AFrame} {rest : List AFrame}
set_option maxRecDepth 100000 in
set_option maxHeartbeats 6400000 in
theorem mEnterA {r : Array Value} (h : MRep own w g c V st sn stale) (hfr : FrR (Mu own) w r f) (hr : Room V 5) (hn7 : st.frames.length < 7) (hkd : createsA f.kind = true) (hle : f.value ≤ ((st.now.setNonce f.self 1).markMade f.self).bal f.caller) (hov : f.value ≠ 0 → (((st.now.setNonce f.self 1).markMade f.self).setBal f.caller (((st.now.setNonce f.self 1).markMade f.self).bal f.caller - f.value)).bal f.self + f.value < P256) : Calls Hvah.prog 114 #[.pointer (some ⟨g, 0, none⟩), .agg r] w fun e w' => e = .returned (.bool true) ∧ ∃ own' c', MRep own' w' g c' (((V.snap.putNonce f.self 1).markMade f.self).moveTo ((st.now.setNonce f.self 1).markMade f.self) f.caller f.self f.value) { st with now := (((st.now.setNonce f.self 1).markMade f.self).move f.caller f.self f.value), frames := { f with saved := st.now } :: st.frames, ret := [], phase := 1 } (V.marks.length :: sn) stale ∧ MStep own w own' w' := by
  obtain ⟨n, hn⟩ : ∃ n, Hid (st.frames.length = n) := ⟨_, rfl⟩
  rw [hn.out] at hn7
  have ht := h.m.top
  rw [hn.out] at ht
  have hok := hfr.ok
  have KB := fun W (hW : Ext w W) => h.v.blk.ext hW
  have KP : ∀ W, Ext w W → W.cell? ⟨g, 0, none⟩ = some (.pointer (some ⟨g, 2435, none⟩)) := fun W hW => by rw [(KB W hW).cell (by decide), h.m.ptr]
  have w1 : IntKind.i64.wrap ((n : Int) - 1) = (n : Int) - 1 := by rw [IntKind.wrap_i64]; omega
  have w2 : IntKind.i64.wrap (n : Int) = n := by rw [IntKind.wrap_i64]; omega
  have w3 : IntKind.u8.wrap (n : Int) = n := by rw [IntKind.wrap_u8]; omega
  have w4 : IntKind.i64.wrap ((n : Int) * 64) = n * 64 := by rw [IntKind.wrap_i64]; omega
  have w5 : IntKind.u16.wrap ((n : Int) * 64) = n * 64 := by rw [IntKind.wrap_u16]; omega
  have w6 : IntKind.i8.wrap (n : Int) = n := by
    have : n = 0 ∨ n = 1 ∨ n = 2 ∨ n = 3 ∨ n = 4 ∨ n = 5 ∨ n = 6 := by omega
    rcases this with rfl | rfl | rfl | rfl | rfl | rfl | rfl <;> rfl
  have z1 : ¬ (n : Int) < 0 := by omega
  have n7i : (n : Int) < 7 := by omega
  have z2 : ¬ (6 : Int) < n := by omega
  obtain ⟨co, cc, hcd, hc1, hc2, hc3⟩ := hfr.code
  have hcode : NL (Mu own) w (.slice co f.code.length cc) f.code := ⟨co, cc, rfl, hc1, hc2, hc3⟩
  have HSc := fun W (hW : Ext w W) => cScan (hcode.ext hW) hok.code
  clear hcode hc1 hc2 hc3
  have hds : (dsRow f.code).size = 8 := rowOf_size _ _ _
  have hdo : Ones (dsRow f.code) := ones_of (fun j hj => by rw [hds] at hj; unfold dsRow; rw [cf_rowOf _ _ _ hj]; rfl)
  obtain ⟨ml, hml⟩ : ∃ m, Hid (V.marks.length = m) := ⟨_, rfl⟩
  have hmlt : ml < 16384 := by have := hr.m; rw [hml.out] at this; omega
  obtain ⟨lc, hlc⟩ : ∃ m, Hid (f.code.length = m) := ⟨_, rfl⟩
  rw [hlc.out] at hcd HSc
  go_enter Hvah.func114, Hvah.ntmps114
  go_upto_region 5 with (first | ((with_reducible (refine Veil.out ?_; apply wl_boxB)); (case hx => rfl); (case hn => exact hfr.size); rintro B W1 e1 b1 g1) | ((with_reducible (refine Veil.out ?_; apply wl_load1 onel74)); (case hx => rfl); (case hB => exact KB _ (by (repeat (first | with_reducible exact Ext.refl _ | with_reducible assumption | refine Ext.trans ?_ (by with_reducible assumption) | refine Ext.alloc ?_ _ _ | refine Ext.drew ?_ | refine Ext.drewN ?_ _)))); (case ho => decide); rw [ht]) | ((with_reducible (refine Veil.out ?_; apply wl_loadC onet60)); (case hw => go_simp); (case hx => rfl); (case hc => exact KP _ (by (repeat (first | with_reducible exact Ext.refl _ | with_reducible assumption | refine Ext.trans ?_ (by with_reducible assumption) | refine Ext.alloc ?_ _ _ | refine Ext.drew ?_ | refine Ext.drewN ?_ _))))))
  go_upto_region 6 with (first | ((with_reducible (refine Veil.out ?_; apply wl_storeC (v := .int .u8 (n : Int)) onel5)); (case hx => rfl); (case hy => rfl); (case h1 => rfl); (case hB => exact b1.ext (by (repeat (first | with_reducible exact Ext.refl _ | with_reducible assumption | refine Ext.trans ?_ (by with_reducible assumption) | refine Ext.alloc ?_ _ _ | refine Ext.drew ?_ | refine Ext.drewN ?_ _)))); (case hi => decide); rintro W2 b2 m2; have E2 : Ext w W2 := Ext.trans_mod (by (repeat (first | with_reducible exact Ext.refl _ | with_reducible assumption | refine Ext.trans ?_ (by with_reducible assumption) | refine Ext.alloc ?_ _ _ | refine Ext.drew ?_ | refine Ext.drewN ?_ _))) m2 (fun i hi => by have hi2 : i = _ := hi; rw [hi2]; exact g1)))
  go_upto_region 7 with (first | ((with_reducible (refine Veil.out ?_; apply wl_storeC (v := .int .u16 ((n : Int) * 64)) onel68)); (case hx => rfl); (case hy => rfl); (case h1 => rfl); (case hB => exact b2.ext (by (repeat (first | with_reducible exact Ext.refl _ | with_reducible assumption | refine Ext.trans ?_ (by with_reducible assumption) | refine Ext.alloc ?_ _ _ | refine Ext.drew ?_ | refine Ext.drewN ?_ _)))); (case hi => decide); rintro W3 b3 m3; have E3 : Ext w W3 := Ext.trans_mod (by (repeat (first | with_reducible exact Ext.refl _ | with_reducible assumption | refine Ext.trans ?_ (by with_reducible assumption) | refine Ext.alloc ?_ _ _ | refine Ext.drew ?_ | refine Ext.drewN ?_ _))) m3 (fun i hi => by have hi2 : i = _ := hi; rw [hi2]; exact g1)))
  go_upto_region 8 with (first | ((with_reducible (refine Veil.out ?_; apply wl_load1 one32)); (case hx => rfl); (case hB => exact b3.ext (by (repeat (first | with_reducible exact Ext.refl _ | with_reducible assumption | refine Ext.trans ?_ (by with_reducible assumption) | refine Ext.alloc ?_ _ _ | refine Ext.drew ?_ | refine Ext.drewN ?_ _)))); (case ho => decide); rw [updv_ne _ _ (by decide), updv_ne _ _ (by decide), hcd]) | (go_at_call 186; refine (HSc _ (by (repeat (first | with_reducible exact Ext.refl _ | with_reducible assumption | refine Ext.trans ?_ (by with_reducible assumption) | refine Ext.alloc ?_ _ _ | refine Ext.drew ?_ | refine Ext.drewN ?_ _)))).mono ?_; rintro e w1 ⟨rfl, he⟩) | ((with_reducible (refine Veil.out ?_; apply wl_storeRow rt70)); (case hx => rfl); (case hy => rfl); (case hr => exact hds); (case h1 => exact hdo); (case hB => exact b3.ext (by (repeat (first | with_reducible exact Ext.refl _ | with_reducible assumption | refine Ext.trans ?_ (by with_reducible assumption) | refine Ext.alloc ?_ _ _ | refine Ext.drew ?_ | refine Ext.drewN ?_ _)))); (case hi => decide); rintro W4 b4 m4; have E4 : Ext w W4 := Ext.trans_mod (by (repeat (first | with_reducible exact Ext.refl _ | with_reducible assumption | refine Ext.trans ?_ (by with_reducible assumption) | refine Ext.alloc ?_ _ _ | refine Ext.drew ?_ | refine Ext.drewN ?_ _))) m4 (fun i hi => by have hi2 : i = _ := hi; rw [hi2]; exact g1)))
  obtain ⟨own7, o7B, o7k, o7o, hR⟩ := h.reserve E4 g1 b4.lt
  have hbuf := h.bufOld g1
  have hgB : ¬ g = B := fun q => by have := h.v.blk.lt; omega
  have HSn := vSnap hR.v hr.mp
  rw [hml.out] at HSn
  go_upto_region 9 with (first | ((with_reducible (refine Veil.out ?_; apply wl_loadC onet60)); (case hw => go_simp); (case hx => rfl); (case hc => exact KP _ E4)) | (go_at_call 187; refine HSn.mono ?_; rintro e w5 ⟨rfl, c5, h5, k5⟩; replace b4 := b4.mod k5.mod (fun q => q.2 o7B)) | ((with_reducible (refine Veil.out ?_; apply wl_storeC (v := .int .i32 (ml : Nat)) one21)); (case hx => rfl); (case hy => rfl); (case h1 => rfl); (case hB => exact b4); (case hi => decide); rintro W6 b6 m6; refine Hid.out ?_))
  have h6 := (hR.snap h5 k5).apart o7B m6 (fun o n cap q => hbuf o n cap ((k5.far 1 (Or.inl (by decide))).symm.trans q))
  have k10 := h6.m.mem.top
  rw [List.length_map, hn.out] at k10
  have kb := h6.m.mem.base.at_
  rw [List.length_map, hn.out] at kb
  have HME := fun W (hW : Ext W6 W) => aEnter g n _ c5 W (h6.v.blk.ext hW) hn7 k10 kb
  have zm : (0 : Int) ≤ ml := by omega
  clear KB KP HSc HSn
  unfold Hid
  go_upto_region 10 with (first | ((with_reducible (refine Veil.out ?_; apply wl_load1 one21)); (case hx => rfl); (case hB => exact b6.ext (by (repeat (first | with_reducible exact Ext.refl _ | with_reducible assumption | refine Ext.trans ?_ (by with_reducible assumption) | refine Ext.alloc ?_ _ _ | refine Ext.drew ?_ | refine Ext.drewN ?_ _)))); (case ho => decide); rw [updv_same]) | (go_at_call 188; refine (HME _ (by (repeat (first | with_reducible exact Ext.refl _ | with_reducible assumption | refine Ext.trans ?_ (by with_reducible assumption) | refine Ext.alloc ?_ _ _ | refine Ext.drew ?_ | refine Ext.drewN ?_ _)))).mono ?_; rintro e w7 ⟨rfl, b7, m7⟩))
  replace b6 := (b6.ext (show Ext W6 _ by (repeat (first | with_reducible exact Ext.refl _ | with_reducible assumption | refine Ext.trans ?_ (by with_reducible assumption) | refine Ext.alloc ?_ _ _ | refine Ext.drew ?_ | refine Ext.drewN ?_ _)))).mod m7 (fun q => hgB q.symm)
  obtain ⟨d, hd⟩ : ∃ d, Hid (updv (layv (updv (updv (cf r) 1 (.int .u8 (n : Int))) 5 (.int .u16 ((n : Int) * 64))) 55 (dsRow f.code)) 8 (.int .i32 (ml : Nat)) = d) := ⟨_, rfl⟩
  rw [hd.out] at b6
  have hdr : ∀ j, j ≠ 1 → j ≠ 5 → j ≠ 8 → (j < 55 ∨ 63 ≤ j) → d j = cf r j := fun j h1 h2 h3 h4 => by
    rw [← hd.out, updv_ne _ _ h3, layv_out _ _ _ (by rw [hds]; omega), updv_ne _ _ h2, updv_ne _ _ h1]
  have hd5 : d 5 = .int .u16 (64 * n : Nat) := by
    rw [← hd.out, updv_ne _ _ (by decide), layv_out _ _ _ (by rw [hds]; omega), updv_same]
    exact int_eq (by omega)
  have hd8 : d 8 = .int .i32 (ml : Nat) := by rw [← hd.out, updv_same]
  have hdd : ∀ j, j < 8 → d (55 + j) = .int .u64 (destW f.code j : Nat) := fun j hj => by
    rw [← hd.out, updv_ne _ _ (by omega), layv_in _ _ _ (by rw [hds]; exact hj)]
    unfold dsRow
    rw [cf_rowOf _ _ _ hj, Nat.zero_add]
  have hd1 : d 1 = .int .u8 (n : Int) := by rw [← hd.out, updv_ne _ _ (by decide), layv_out _ _ _ (by rw [hds]; omega), updv_ne _ _ (by decide), updv_same]
  have hone : Ones (rowOf d 0 65) := ones_of (fun j hj => by
    rw [rowOf_size] at hj
    rw [cf_rowOf _ _ _ hj, Nat.zero_add]
    by_cases q1 : j = 1
    · rw [q1, hd1]; rfl
    by_cases q5 : j = 5
    · rw [q5, hd5]; rfl
    by_cases q8 : j = 8
    · rw [q8, hd8]; rfl
    by_cases q55 : j < 55 ∨ 63 ≤ j
    · rw [hdr j q1 q5 q8 q55]; exact hfr.ones.get (by rw [hfr.size]; exact hj)
    · have := hdd (j - 55) (by omega)
      rw [show 55 + (j - 55) = j by omega] at this
      rw [this]; rfl)
  have M7 : Mod (· = g) W6 w7 := (Ext.mod (show Ext W6 _ by (repeat (first | with_reducible exact Ext.refl _ | with_reducible assumption | refine Ext.trans ?_ (by with_reducible assumption) | refine Ext.alloc ?_ _ _ | refine Ext.drew ?_ | refine Ext.drewN ?_ _))) _).trans m7
  clear HME m7
  refine w_ext ?_
  rintro W0 hW0
  refine wp_region_held_drew (S := fun w' => Mod (fun x => x = g) W0 w') (by kernel_rfl) (Mod.refl _ _).drew (fun hHeld => ?_)
  have HH : Hid (Mod (fun x => x = g) W0 _) := hHeld
  clear hHeld
  refine wpAnyH_take (i := 0) (v := ?_) rfl (by kernel_rfl) (by kernel_rfl) (by kernel_rfl) (fun _ _ _ h => h) (Or.inl ⟨by rfl, ?_⟩) HH.out ?_
  rotate_left
  · intro w hSw; go_simp; try with_reducible rfl
  change wpAnyH _ _ _ _ _ _ _ (Act.put _ (some 54) _) _
  simp only [Act.put, List.setIfInBounds_toArray, List.set_cons_zero, List.set_cons_succ]
  refine wpAnyH_take (i := 1) (v := ?_) rfl (by kernel_rfl) (by kernel_rfl) (by kernel_rfl) (fun _ _ _ h => h) (Or.inl ⟨by rfl, ?_⟩) HH.out ?_
  rotate_left
  · intro w hSw; go_simp; try with_reducible rfl
  change wpAnyH _ _ _ _ _ _ _ (Act.put _ (some 55) _) _
  simp only [Act.put, List.setIfInBounds_toArray, List.set_cons_zero, List.set_cons_succ]
  refine wpAnyH_take (i := 2) rfl (by kernel_rfl) (by kernel_rfl) (by kernel_rfl) (fun _ _ _ h => h) (yieldsRow rt72 (by rfl) rfl rfl (fun w hSw => (b6.ext (show Ext w7 W0 from by (repeat (first | with_reducible exact Ext.refl _ | with_reducible assumption | refine Ext.trans ?_ (by with_reducible assumption) | refine Ext.alloc ?_ _ _ | refine Ext.drew ?_ | refine Ext.drewN ?_ _)))).mod hSw (fun q => hgB q.symm)) (by decide)) HH.out ?_
  change wpAnyH _ _ _ _ _ _ _ (Act.put _ (some 56) _) _
  simp only [Act.put, List.setIfInBounds_toArray, List.set_cons_zero, List.set_cons_succ]
  refine wpAnyH_take (i := 3) (v := ?_) rfl (by kernel_rfl) (by kernel_rfl) (by kernel_rfl) (fun _ _ _ h => h) (Or.inl ⟨by rfl, ?_⟩) HH.out ?_
  rotate_left
  · intro w hSw; go_simp; try with_reducible rfl
  change wpAnyH _ _ _ _ _ _ _ (Act.put _ (some 57) _) _
  simp only [Act.put, List.setIfInBounds_toArray, List.set_cons_zero, List.set_cons_succ]
  refine wpAnyH_take (i := 4) (v := ?_) rfl (by kernel_rfl) (by kernel_rfl) (by kernel_rfl) (fun _ _ _ h => h) (Or.inl ⟨by rfl, ?_⟩) HH.out ?_
  rotate_left
  · intro w hSw; go_simp; try with_reducible rfl
  change wpAnyH _ _ _ _ _ _ _ (Act.put _ (some 58) _) _
  simp only [Act.put, List.setIfInBounds_toArray, List.set_cons_zero, List.set_cons_succ]
  refine wpAnyH_take (i := 5) (v := ?_) rfl (by kernel_rfl) (by kernel_rfl) (by kernel_rfl) (fun _ _ _ h => h) (Or.inl ⟨by rfl, ?_⟩) HH.out ?_
  rotate_left
  · intro w hSw; go_simp; try with_reducible rfl
  change wpAnyH _ _ _ _ _ _ _ (Act.put _ (some 59) _) _
  simp only [Act.put, List.setIfInBounds_toArray, List.set_cons_zero, List.set_cons_succ]
  refine wpAnyH_ready (rs := [6]) (by kernel_rfl) (by simp) ?_
  refine AllReadyH.cons rfl (fun K hK => ?_) AllReadyH.nil
  refine step_any rfl (op_storeRow rfl rt72 rfl rfl (rowOf_size _ _ _) hone (b7.ext (by (repeat (first | with_reducible exact Ext.refl _ | with_reducible assumption | refine Ext.trans ?_ (by with_reducible assumption) | refine Ext.alloc ?_ _ _ | refine Ext.drew ?_ | refine Ext.drewN ?_ _)))) (by omega) ?_)
  rintro W9 b9 m9
  refine hK.out _ _ ?_ (fun hHeld => ?_)
  · exact HH.out.trans m9
  clear hK K HH
  have HH : Hid (Mod (fun x => x = g) W0 _) := hHeld
  clear hHeld
  change wpAnyH _ _ _ _ _ _ _ (Act.put _ none _) _
  simp only [Act.put, List.setIfInBounds_toArray, List.set_cons_zero, List.set_cons_succ]
  refine wpAnyH_done (by kernel_rfl) ?_ _
  have M9 : Mod (· = g) W6 W9 := (M7.trans_ext (show Ext w7 W0 by (repeat (first | with_reducible exact Ext.refl _ | with_reducible assumption | refine Ext.trans ?_ (by with_reducible assumption) | refine Ext.alloc ?_ _ _ | refine Ext.drew ?_ | refine Ext.drewN ?_ _)))).trans HH.out
  replace b6 := (b6.ext (show Ext w7 W0 by (repeat (first | with_reducible exact Ext.refl _ | with_reducible assumption | refine Ext.trans ?_ (by with_reducible assumption) | refine Ext.alloc ?_ _ _ | refine Ext.drew ?_ | refine Ext.drewN ?_ _)))).mod HH.out (fun q => hgB q.symm)
  clear HH M7 m9
  go_upto_region 12 with (first | ((with_reducible (refine Veil.out ?_; apply wl_storeC (v := .int .i8 (n : Int)) onel74)); (case hx => rfl); (case hy => rfl); (case h1 => rfl); (case hB => exact b9); (case hi => decide); rintro W10 b10 m10))
  go_upto_region 13 with (first | ((with_reducible (refine Veil.out ?_; apply wl_storeC (v := .int .u8 1) onel5)); (case hx => rfl); (case hy => rfl); (case h1 => rfl); (case hB => exact b10); (case hi => decide); rintro W11 b11 m11))
  go_upto_region 14 with (first | ((with_reducible (refine Veil.out ?_; apply wl_storeC (v := .slice none 0 0) one32)); (case hx => rfl); (case hy => rfl); (case h1 => rfl); (case hB => exact b11); (case hi => decide); rintro W12 b12 m12))
  have M12 : Mod (· = g) W6 W12 := ((M9.trans m10).trans m11).trans m12
  replace b6 := ((b6.mod m10 (fun q => hgB q.symm)).mod m11 (fun q => hgB q.symm)).mod m12 (fun q => hgB q.symm)
  clear m10 m11 m12 M9 b9 b10 b11
  have K1 : Keep own own7 g 7 w W4 := ⟨o7k, E4.mod _, h.v.tag, by decide⟩
  have K6 : Keep own7 own7 g 7 w5 W6 := ⟨fun _ _ => rfl, m6.sub (fun x hx => Or.inr (by rw [hx]; exact o7B)), h5.tag, by decide⟩
  have hnlA : ∀ v l, NL (Mu own) w v l → NL (Mu own7) W12 v l := fun v l q => (Keep.here h6.v M12).nl (K6.nl (k5.nl (K1.nl q)))
  obtain ⟨cM, hM, sM⟩ : ∃ cM, MRep own7 W12 g cM V.snap { st with frames := { f with saved := st.now } :: st.frames, ret := [], phase := 1 } (ml :: sn) stale ∧ MStep own7 W6 own7 W12 := ⟨_, h6.entered2 (s := ml) (f := { f with saved := st.now }) M12 b12 hn.out hn7
    (fun i h1 h2 h3 h4 h5 h6 => by rw [updv_ne _ _ h4, updv_ne _ _ h5, updv_ne _ _ h3, layv_out _ _ _ (by rw [rowOf_size]; omega), updv_ne _ _ h1, updv_ne _ _ h2])
    (by rw [updv_ne _ _ (by decide), updv_ne _ _ (by decide), updv_ne _ _ (by decide), layv_out _ _ _ (by rw [rowOf_size]; omega), updv_same])
    (by rw [updv_ne _ _ (by omega), updv_ne _ _ (by omega), updv_ne _ _ (by omega), layv_out _ _ _ (by rw [rowOf_size]; omega), updv_ne _ _ (by omega), updv_same]; exact kb.symm)
    (FrC.ofRow hfr hnlA (fun j hj => by rw [updv_ne _ _ (by omega), updv_ne _ _ (by omega), updv_ne _ _ (by omega), layv_in _ _ _ (by rw [rowOf_size]; exact hj), cf_rowOf _ _ _ hj, Nat.zero_add]) hdr hd5 hd8 hdd) hfr.mem
    (by show st.now = V.snap.savedAt ml; rw [savedAt_snap, if_pos hml.out.symm]; exact h.abs.symm) (by show ml < V.marks.length + 1; rw [hml.out]; omega) (fun x hx => by have := h.snl x hx; rw [hml.out] at this; exact this)
    (by rw [updv_ne _ _ (by decide), updv_ne _ _ (by decide), updv_same]) (by rw [updv_ne _ _ (by decide), updv_same]) (by rw [updv_same])⟩
  have sA : MStep own w own7 W12 := (⟨o7k, E4.mod _⟩ : MStep own w own7 W4).trans ((MStep.ofV k5).trans ((⟨fun _ _ => rfl, m6.sub (fun x hx => by rw [hx, o7B]; decide)⟩ : MStep own7 w5 own7 W6).trans sM))
  have hgo : ({ st with frames := { f with saved := st.now } :: st.frames, ret := [], phase := 1 } : ASt).now = st.now := rfl
  clear h h5 h6 k5 b7 b12 hR K1 K6 hnlA k10 kb hone hd1 hd5 hd8 hdd M12 E2 E3 E4 b1 b2 b3 m2 m3 m4 m6 e1 he sM
  have vK : d 0 = .int .u8 (f.kind : Nat) := (hdr 0 (by decide) (by decide) (by decide) (by decide)).trans hfr.kind
  have vS : AAt d 9 f.self := hfr.self.same hok.self (fun j hj => hdr _ (by omega) (by omega) (by omega) (by omega))
  have vC : AAt d 29 f.caller := hfr.caller.same hok.caller (fun j hj => hdr _ (by omega) (by omega) (by omega) (by omega))
  have vV : WAt d 49 f.value := ⟨(hdr _ (by omega) (by omega) (by omega) (by omega)).trans hfr.value.c0, (hdr _ (by omega) (by omega) (by omega) (by omega)).trans hfr.value.c1, (hdr _ (by omega) (by omega) (by omega) (by omega)).trans hfr.value.c2, (hdr _ (by omega) (by omega) (by omega) (by omega)).trans hfr.value.c3⟩
  have hr1 : Room V.snap 4 := hr.grew (k := 1) (grew_snap V) (by decide) (by decide) (by decide) (by decide) (by decide) (by decide)
  have HCr := fun W => mCreates f.kind W (by have := hok.kind; omega)
  rw [hkd] at HCr
  obtain ⟨kd, hkk⟩ : ∃ k, Hid (f.kind = k) := ⟨_, rfl⟩
  have z3 : ((kd : Int) == 3) = false := by
    have := hkk.out; rw [this] at hkd
    unfold createsA at hkd; simp at hkd; simp; omega
  have z7 : ((kd : Int) == 7) = false := by
    have := hkk.out; rw [this] at hkd
    unfold createsA at hkd; simp at hkd; simp; omega
  have y3 : ((kd : Int) != 3) = true := by simp at z3; simp; omega
  have y7 : ((kd : Int) != 7) = true := by simp at z7; simp; omega
  rw [hkk.out] at vK HCr
  clear hkd
  go_upto_region 15 with (first | ((with_reducible (refine Veil.out ?_; apply wl_loadC onel5)); (case hw => go_simp); (case hx => rfl); (case hc => rw [(b6.ext (by (repeat (first | with_reducible exact Ext.refl _ | with_reducible assumption | refine Ext.trans ?_ (by with_reducible assumption) | refine Ext.alloc ?_ _ _ | refine Ext.drew ?_ | refine Ext.drewN ?_ _)))).cell (by decide), vK])) | (go_at_call 189; refine (HCr _).mono ?_; rintro e w1 ⟨rfl, hww⟩; replace hww := hww.symm; subst hww))
  refine w_ext ?_
  rintro W0 hW0
  have h0 := hM.ext (show Ext W12 W0 by (repeat (first | with_reducible exact Ext.refl _ | with_reducible assumption | refine Ext.trans ?_ (by with_reducible assumption) | refine Ext.alloc ?_ _ _ | refine Ext.drew ?_ | refine Ext.drewN ?_ _)))
  refine wp_region_held_drew (S := fun w' => SV own7 g cM W0 w') (by kernel_rfl) (SV.start h0.v.blk (Ext.refl _).drew) (fun hHeld => ?_)
  have HH : Hid (SV own7 g cM W0 _) := hHeld
  clear hHeld
  refine wpAnyH_take (i := 0) (v := ?_) rfl (by kernel_rfl) (by kernel_rfl) (by kernel_rfl) (fun _ _ _ h => h) (Or.inl ⟨by rfl, ?_⟩) HH.out ?_
  rotate_left
  · intro w hSw; go_simp; try with_reducible rfl
  change wpAnyH _ _ _ _ _ _ _ (Act.put _ (some 77) _) _
  simp only [Act.put, List.setIfInBounds_toArray, List.set_cons_zero, List.set_cons_succ]
  refine wpAnyH_take (i := 1) (v := ?_) rfl (by kernel_rfl) (by kernel_rfl) (by kernel_rfl) (fun _ _ _ h => h) (Or.inl ⟨by rfl, ?_⟩) HH.out ?_
  rotate_left
  · intro w hSw; go_simp; try with_reducible rfl
  change wpAnyH _ _ _ _ _ _ _ (Act.put _ (some 78) _) _
  simp only [Act.put, List.setIfInBounds_toArray, List.set_cons_zero, List.set_cons_succ]
  refine wpAnyH_take (i := 2) (v := ?_) rfl (by kernel_rfl) (by kernel_rfl) (by kernel_rfl) (fun _ _ _ h => h) (Or.inl ⟨by rfl, ?_⟩) HH.out ?_
  rotate_left
  · intro w hSw; go_simp; try with_reducible rfl
  change wpAnyH _ _ _ _ _ _ _ (Act.put _ (some 79) _) _
  simp only [Act.put, List.setIfInBounds_toArray, List.set_cons_zero, List.set_cons_succ]
  refine wpAnyH_take (i := 3) rfl (by kernel_rfl) (by kernel_rfl) (by kernel_rfl) (fun _ _ _ h => h) (yieldsIf_load1 (by rfl) _ _ rfl _ _ rfl onet60 _ (fun w hSw => by rw [hSw.cell (by decide), h0.m.ptr])) HH.out ?_
  change wpAnyH _ _ _ _ _ _ _ (Act.put _ (some 80) _) _
  simp only [Act.put, List.setIfInBounds_toArray, List.set_cons_zero, List.set_cons_succ]
  refine wpAnyH_take (i := 4) (v := ?_) rfl (by kernel_rfl) (by kernel_rfl) (by kernel_rfl) (fun _ _ _ h => h) (Or.inl ⟨by rfl, ?_⟩) HH.out ?_
  rotate_left
  · intro w hSw; go_simp; try with_reducible rfl
  change wpAnyH _ _ _ _ _ _ _ (Act.put _ (some 81) _) _
  simp only [Act.put, List.setIfInBounds_toArray, List.set_cons_zero, List.set_cons_succ]
  refine wpAnyH_take (i := 5) rfl (by kernel_rfl) (by kernel_rfl) (by kernel_rfl) (fun _ _ _ h => h) (yields_A (by rfl) rfl rfl (fun w hSw => hSw.box7 (b6.ext (show Ext _ W0 from by (repeat (first | with_reducible exact Ext.refl _ | with_reducible assumption | refine Ext.trans ?_ (by with_reducible assumption) | refine Ext.alloc ?_ _ _ | refine Ext.drew ?_ | refine Ext.drewN ?_ _)))) o7B) vS hok.self (by decide)) HH.out ?_
  change wpAnyH _ _ _ _ _ _ _ (Act.put _ (some 82) _) _
  simp only [Act.put, List.setIfInBounds_toArray, List.set_cons_zero, List.set_cons_succ]
  refine wpAnyH_ready (rs := [6]) (by kernel_rfl) (by simp) ?_
  refine AllReadyH.cons rfl (fun K hK => ?_) AllReadyH.nil
  go_simp
  go_at_call 105; refine (mPutNonce (h0.ext (by (repeat (first | with_reducible exact Ext.refl _ | with_reducible assumption | refine Ext.trans ?_ (by with_reducible assumption) | refine Ext.alloc ?_ _ _ | refine Ext.drew ?_ | refine Ext.drewN ?_ _)))) hr1 f.self hok.self 1 (by decide)).mono ?_; rintro e w8 ⟨rfl, own8, c8, h8, k8⟩; have kT : VStep own7 W0 cM own8 w8 c8 := (VStep.ext (show Ext W0 _ by (repeat (first | with_reducible exact Ext.refl _ | with_reducible assumption | refine Ext.trans ?_ (by with_reducible assumption) | refine Ext.alloc ?_ _ _ | refine Ext.drew ?_ | refine Ext.drewN ?_ _)))).trans k8; have hT := h8.v.blk; have hr8 : Room (V.snap.putNonce f.self 1) 3 := hr1.opA
  refine hK.out _ _ ?_ (fun hHeld => ?_)
  · first | exact ⟨_, _, kT, hT⟩ | exact HH.out.ext he
  clear hK K HH
  have HH : Hid (SV own7 g cM W0 _) := hHeld
  clear hHeld
  refine wpAnyH_take (i := 7) (v := ?_) rfl (by kernel_rfl) (by kernel_rfl) (by kernel_rfl) (fun _ _ _ h => h) (Or.inl ⟨by rfl, ?_⟩) HH.out ?_
  rotate_left
  · intro w hSw; go_simp; try with_reducible rfl
  change wpAnyH _ _ _ _ _ _ _ (Act.put _ (some 84) _) _
  simp only [Act.put, List.setIfInBounds_toArray, List.set_cons_zero, List.set_cons_succ]
  refine wpAnyH_take (i := 8) (v := ?_) rfl (by kernel_rfl) (by kernel_rfl) (by kernel_rfl) (fun _ _ _ h => h) (Or.inl ⟨by rfl, ?_⟩) HH.out ?_
  rotate_left
  · intro w hSw; go_simp; try with_reducible rfl
  change wpAnyH _ _ _ _ _ _ _ (Act.put _ (some 85) _) _
  simp only [Act.put, List.setIfInBounds_toArray, List.set_cons_zero, List.set_cons_succ]
  refine wpAnyH_take (i := 9) (v := ?_) rfl (by kernel_rfl) (by kernel_rfl) (by kernel_rfl) (fun _ _ _ h => h) (Or.inl ⟨by rfl, ?_⟩) HH.out ?_
  rotate_left
  · intro w hSw; go_simp; try with_reducible rfl
  change wpAnyH _ _ _ _ _ _ _ (Act.put _ (some 86) _) _
  simp only [Act.put, List.setIfInBounds_toArray, List.set_cons_zero, List.set_cons_succ]
  refine wpAnyH_take (i := 10) (v := ?_) rfl (by kernel_rfl) (by kernel_rfl) (by kernel_rfl) (fun _ _ _ h => h) (Or.inl ⟨by rfl, ?_⟩) HH.out ?_
  rotate_left
  · intro w hSw; go_simp; try with_reducible rfl
  change wpAnyH _ _ _ _ _ _ _ (Act.put _ (some 87) _) _
  simp only [Act.put, List.setIfInBounds_toArray, List.set_cons_zero, List.set_cons_succ]
  refine wpAnyH_take (i := 11) rfl (by kernel_rfl) (by kernel_rfl) (by kernel_rfl) (fun _ _ _ h => h) (yieldsIf_load1 (by rfl) _ _ rfl _ _ rfl onet60 _ (fun w hSw => by rw [hSw.cell (by decide), h0.m.ptr])) HH.out ?_
  change wpAnyH _ _ _ _ _ _ _ (Act.put _ (some 88) _) _
  simp only [Act.put, List.setIfInBounds_toArray, List.set_cons_zero, List.set_cons_succ]
  refine wpAnyH_take (i := 12) (v := ?_) rfl (by kernel_rfl) (by kernel_rfl) (by kernel_rfl) (fun _ _ _ h => h) (Or.inl ⟨by rfl, ?_⟩) HH.out ?_
  rotate_left
  · intro w hSw; go_simp; try with_reducible rfl
  change wpAnyH _ _ _ _ _ _ _ (Act.put _ (some 89) _) _
  simp only [Act.put, List.setIfInBounds_toArray, List.set_cons_zero, List.set_cons_succ]
  refine wpAnyH_take (i := 13) rfl (by kernel_rfl) (by kernel_rfl) (by kernel_rfl) (fun _ _ _ h => h) (yields_A (by rfl) rfl rfl (fun w hSw => hSw.box7 (b6.ext (show Ext _ W0 from by (repeat (first | with_reducible exact Ext.refl _ | with_reducible assumption | refine Ext.trans ?_ (by with_reducible assumption) | refine Ext.alloc ?_ _ _ | refine Ext.drew ?_ | refine Ext.drewN ?_ _)))) o7B) vS hok.self (by decide)) HH.out ?_
  change wpAnyH _ _ _ _ _ _ _ (Act.put _ (some 90) _) _
  simp only [Act.put, List.setIfInBounds_toArray, List.set_cons_zero, List.set_cons_succ]
  refine wpAnyH_ready (rs := [14]) (by kernel_rfl) (by simp) ?_
  refine AllReadyH.cons rfl (fun K hK => ?_) AllReadyH.nil
  go_simp
  go_at_call 190; refine (mMarkMade h8 hr8 f.self hok.self).mono ?_; rintro e w9 ⟨rfl, own9, c9, h9, k9⟩; replace kT := kT.trans k9; clear hT; have hT := h9.v.blk
  refine hK.out _ _ ?_ (fun hHeld => ?_)
  · first | exact ⟨_, _, kT, hT⟩ | exact HH.out.ext he
  clear hK K HH
  have HH : Hid (SV own7 g cM W0 _) := hHeld
  clear hHeld
  refine wpAnyH_take (i := 15) (v := ?_) rfl (by kernel_rfl) (by kernel_rfl) (by kernel_rfl) (fun _ _ _ h => h) (Or.inl ⟨by rfl, ?_⟩) HH.out ?_
  rotate_left
  · intro w hSw; go_simp; try with_reducible rfl
  change wpAnyH _ _ _ _ _ _ _ (Act.put _ (some 92) _) _
  simp only [Act.put, List.setIfInBounds_toArray, List.set_cons_zero, List.set_cons_succ]
  refine wpAnyH_take (i := 16) (v := ?_) rfl (by kernel_rfl) (by kernel_rfl) (by kernel_rfl) (fun _ _ _ h => h) (Or.inl ⟨by rfl, ?_⟩) HH.out ?_
  rotate_left
  · intro w hSw; go_simp; try with_reducible rfl
  change wpAnyH _ _ _ _ _ _ _ (Act.put _ (some 6) _) _
  simp only [Act.put, List.setIfInBounds_toArray, List.set_cons_zero, List.set_cons_succ]
  refine wpAnyH_done (by kernel_rfl) ?_ _
  have hr9 : Room ((V.snap.putNonce f.self 1).markMade f.self) 2 := hr8.opA
  replace b6 := (b6.ext (show Ext W12 W0 by (repeat (first | with_reducible exact Ext.refl _ | with_reducible assumption | refine Ext.trans ?_ (by with_reducible assumption) | refine Ext.alloc ?_ _ _ | refine Ext.drew ?_ | refine Ext.drewN ?_ _)))).mod kT.mod (fun q => q.2 o7B)
  replace sA := (sA.trans (MStep.ext (show Ext W12 W0 by (repeat (first | with_reducible exact Ext.refl _ | with_reducible assumption | refine Ext.trans ?_ (by with_reducible assumption) | refine Ext.alloc ?_ _ _ | refine Ext.drew ?_ | refine Ext.drewN ?_ _))))).trans (MStep.ofV kT)
  have HMv := fun W (hW : Ext w9 W) => mMove (h9.ext hW) hr9 f.caller f.self f.value hok.caller hok.self hok.value hle hov
  clear HH h0 h8 k8 k9 kT hM hW0
  go_wp2_with (first | ((with_reducible (refine Veil.out ?_; apply wl_loadC onel5)); (case hw => go_simp); (case hx => rfl); (case hc => rw [(b6.ext (by (repeat (first | with_reducible exact Ext.refl _ | with_reducible assumption | refine Ext.trans ?_ (by with_reducible assumption) | refine Ext.alloc ?_ _ _ | refine Ext.drew ?_ | refine Ext.drewN ?_ _)))).cell (by decide), vK])) | ((with_reducible (refine Veil.out ?_; apply wl_loadA)); (case hx => rfl); (case hB => exact b6.ext (by (repeat (first | with_reducible exact Ext.refl _ | with_reducible assumption | refine Ext.trans ?_ (by with_reducible assumption) | refine Ext.alloc ?_ _ _ | refine Ext.drew ?_ | refine Ext.drewN ?_ _)))); (case hA => exact vC); (case hs => exact hok.caller); (case ho => decide)) | ((with_reducible (refine Veil.out ?_; apply wl_loadA)); (case hx => rfl); (case hB => exact b6.ext (by (repeat (first | with_reducible exact Ext.refl _ | with_reducible assumption | refine Ext.trans ?_ (by with_reducible assumption) | refine Ext.alloc ?_ _ _ | refine Ext.drew ?_ | refine Ext.drewN ?_ _)))); (case hA => exact vS); (case hs => exact hok.self); (case ho => decide)) | ((with_reducible (refine Veil.out ?_; apply wl_loadWB)); (case hx => rfl); (case hB => exact b6.ext (by (repeat (first | with_reducible exact Ext.refl _ | with_reducible assumption | refine Ext.trans ?_ (by with_reducible assumption) | refine Ext.alloc ?_ _ _ | refine Ext.drew ?_ | refine Ext.drewN ?_ _)))); (case hW => exact vV); (case hi => decide)) | (go_at_call 191; refine (HMv _ (by (repeat (first | with_reducible exact Ext.refl _ | with_reducible assumption | refine Ext.trans ?_ (by with_reducible assumption) | refine Ext.alloc ?_ _ _ | refine Ext.drew ?_ | refine Ext.drewN ?_ _)))).mono ?_; rintro e w10 ⟨rfl, own10, c10, h10, k10⟩))
  go_ret
  rw [hml.out]
  exact ⟨rfl, own10, c10, h10, (sA.trans (MStep.ext (by (repeat (first | with_reducible exact Ext.refl _ | with_reducible assumption | refine Ext.trans ?_ (by with_reducible assumption) | refine Ext.alloc ?_ _ _ | refine Ext.drew ?_ | refine Ext.drewN ?_ _))))).trans (MStep.ofV k10)⟩
end
end Go.Proofs.YgvahwGreat
