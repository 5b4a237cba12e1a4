import Derived.Test.YgvahwGreatVaTd
import Derived.Test.YgvahwGreatVaPc
namespace Go.Proofs.YgvahwGreat
open Go.RowKit
set_option linter.unusedSimpArgs false

section
variable {ops : Array Oper} {rest : List Oper} {a : Act} {Q : Exit → Act → World → Prop} {w : World} {dst : Option Tmp} {ty : TypeId} {pos : String} {aft : Array Edge}
set_option maxRecDepth 100000 in
theorem wl_build1A {y : Operand} {t : TypeId} (e : TypeId) (i : TypeInfo) (z : Value) (n : Nat) (ht : Hvah.prog.underlying t = some (.slice e)) (hi : Hvah.prog.info? e = some i) (hz : i.zero = some z) (hsz : i.size = n) (hzs : z.cells.size = n) (h0 : 0 < n) (hbig : n ≤ 1000)
    (r : Array Value) (hr : r.size = n) (hy : a.eval y = .agg r)
    (h : ∀ B W, Ext w W → (∀ j u, r.toList[j]? = some u → W.cell? ((⟨B, 0, none⟩ : Addr).add j) = some u) → w.heap.size ≤ B → wpList Hvah.prog ops Q rest (a.put dst (.slice (some ⟨B, 0, none⟩) 1 1)) W) : Veil (wpList Hvah.prog ops Q (⟨dst, .buildSlice t 1 #[(0, y)], ty, pos, aft, none⟩ :: rest) a w) :=
  Veil.mk (wl_any rfl (op_build1 e i z n rfl ht hi hz hsz hzs h0 hbig r hr hy h))
set_option maxRecDepth 100000 in
theorem wl_storeS {x y : Operand} {t tt : TypeId} {b i n : Nat} {c : Nat → Value} {v : Value} (ht : OneT t) (hx : a.eval x = .pointer (some ⟨b, i, none⟩)) (hy : a.eval y = v) (h1 : v.oneCell' = true) (hB : Blk w b n tt c) (hi : i < n)
    (h : wpList Hvah.prog ops Q rest (a.put dst undef) (w.setCell ⟨b, i, none⟩ v)) : Veil (wpList Hvah.prog ops Q (⟨dst, .store t x y, ty, pos, aft, none⟩ :: rest) a w) :=
  Veil.mk (wl_any rfl (op_storeS rfl ht hx hy h1 hB hi h))
end
theorem yields_Lg {ops : Array Oper} {a : Act} {S : World → Prop} {o : Oper} {x : Operand} {b y : Nat} {tv dv : Value} (ha : y < 2 ^ 160) (hw : Region.wanted o (yielded ops a.tmps) = true) (hop : o.op = .load 141 x) (hx : a.eval x = .pointer (some ⟨b, 0, none⟩)) (hB : ∀ w, S w → Blk w b 22 141 (cf (lgV y tv dv))) : YieldsIf Hvah.prog ops S o (.agg (lgV y tv dv)) a := by
  obtain ⟨d, h1, h2⟩ := rt132.desc
  exact yieldsIf_load_mid hw 141 x hop b 0 hx (lgV y tv dv).toList d (fun w h j v hv => by
    have hv2 : (lgV y tv dv)[j]? = some v := by rw [← Array.getElem?_toList]; exact hv
    have hj := (Array.getElem?_eq_some_iff.1 hv2).1
    rw [lgV_size ha] at hj
    rw [Nat.zero_add, (hB w h).cell hj, cf_get hv2]) h1 h2 (by rw [rt132.size, Array.length_toList, lgV_size ha])
theorem WL.one {O : Nat → Prop} {w : World} {v : Value} {l : List Nat} (h : WL O w v l) : v.oneCell' = true := by
  rcases h with ⟨_, rfl⟩ | ⟨b, off, cap, rfl, _⟩ <;> rfl
/-- The journal's entry of a log. -/
abbrev jeL : Array Value := #[.int .u8 7, .int .i32 0, .int .u64 0, .int .u64 0, .int .u64 0, .int .u64 0, .int .u64 0, .slice none 0 0, .bool false]
theorem jeL_one : ∀ u ∈ jeL.toList, u.oneCell' = true := fun u hu => by
  simp only [List.mem_cons, List.not_mem_nil, or_false] at hu
  rcases hu with h | h | h | h | h | h | h | h | h <;> subst h <;> rfl
theorem b219L : ∀ w, (Instr.build 227 ([(0, .int .u8 7)] : List (Nat × Value)).toArray).run Hvah.prog w = .ok (.agg jeL) w := fun w => by
  rw [run_build_gen (pl := [(0, 1), (1, 1), (2, 1), (3, 4), (7, 1), (8, 1)]) (z := #[.int .u8 0, .int .i32 0, .int .u64 0, .int .u64 0, .int .u64 0, .int .u64 0, .int .u64 0, .slice none 0 0, .bool false]) (by kernel_rfl) (by kernel_rfl) ([(0, .int .u8 7)] : List (Nat × Value)) ⟨0, 1, rfl, rfl, by decide, trivial⟩]
  rfl
theorem info132 : Hvah.prog.info? 141 = some Hvah.t141 := by kernel_rfl
theorem zero132 : Hvah.t141.zero = some (.agg (lgV 0 (.slice none 0 0) (.slice none 0 0))) := by kernel_rfl
theorem size132 : Hvah.t141.size = 22 := by kernel_rfl
theorem bytes132 : Hvah.t141.bytes ≤ 4096 := by decide +kernel
theorem zs132 : (Value.agg (lgV 0 (.slice none 0 0) (.slice none 0 0))).cells.size = 22 := lgV_size (by decide) _ _
theorem VRep.logsLen {own : Nat → Nat} {w : World} {g : Nat} {c : Nat → Value} {V : EV} (h : VRep own w g c V) : ∃ o cap, c 27016 = .slice o V.logs.length cap := by
  rcases h.logs with ⟨q1, q2⟩ | ⟨b, cap, c3, q1, _⟩
  · rw [q1, q2]; exact ⟨none, 0, rfl⟩
  · exact ⟨_, _, q1⟩
section
variable {own : Nat → Nat} {w : World} {g : Nat} {c : Nat → Value} {V : EV} {l : ALog}
set_option maxRecDepth 100000 in
set_option maxHeartbeats 6400000 in
theorem vPutLog (h : VRep own w g c V) (ha : l.addr < 2 ^ 160) {tv dv : Value} (ht : WL (Mu own) w tv l.topics) (hd : NL (Mu own) w dv l.data) (hJ : V.journal.length < 65536) (hL : V.logs.length < 2800) (h4 : l.topics.length ≤ 4) (hD : l.data.length ≤ 717280) : Calls Hvah.prog 393 #[.pointer (some ⟨g, 2435, none⟩), .agg (lgV l.addr tv dv)] w fun e w' => e = .returned (.bool true) ∧ ∃ own' c', VRep own' w' g c' (V.putLog l) ∧ VStep own w c own' w' c' := by
  have HR : ∀ W, Ext w W → Calls Hvah.prog 179 #[.pointer (some ⟨g, 2435, none⟩)] W fun e w' => e = .returned (.bool true) ∧ w' = W := fun W hW => by
    have := vRoom (h.ext hW); rw [decide_eq_true hJ] at this; exact this
  have hsz := av_size ha
  have hc20 : cf (lgV l.addr tv dv) 20 = tv := by rw [cf_append, if_neg (by omega), hsz]; rfl
  have hc21 : cf (lgV l.addr tv dv) 21 = dv := by rw [cf_append, if_neg (by omega), hsz]; rfl
  obtain ⟨ot, ct, htv⟩ : ∃ o cap, tv = .slice o l.topics.length cap := by
    rcases ht with ⟨q1, q2⟩ | ⟨b, off, cap, q1, _⟩
    · rw [q1, q2]; exact ⟨none, 0, rfl⟩
    · exact ⟨_, _, q1⟩
  obtain ⟨od, cd, hdv, _⟩ := id hd
  obtain ⟨oL, cL, hvL⟩ := h.logsLen
  obtain ⟨nL, hnL⟩ : ∃ n, Hid (V.logs.length = n) := ⟨_, rfl⟩
  obtain ⟨nt, hnt⟩ : ∃ n, Hid (l.topics.length = n) := ⟨_, rfl⟩
  obtain ⟨nd, hnd⟩ : ∃ n, Hid (l.data.length = n) := ⟨_, rfl⟩
  rw [hnL.out] at hvL hL
  rw [hnt.out] at htv h4
  rw [hnd.out] at hdv hD
  have i1 : ¬ (2800 : Int) ≤ nL := by omega
  have i2 : ¬ (4 : Int) < nt := by omega
  have i3 : ¬ (717280 : Int) < nd := by omega
  go_enter Hvah.func393, Hvah.ntmps393
  go_upto_region 1 with (first | ((with_reducible (refine Veil.out ?_; apply wl_boxB)); (case hx => rfl); (case hn => exact lgV_size ha _ _); rintro B3 W3 e3 b3 g3))
  have b3' : Blk W3 B3 22 141 (cf (lgV l.addr tv dv)) := b3
  have KT : ∀ W, Ext W3 W → W.cell? ⟨B3, 20, none⟩ = some (.slice ot nt ct) := fun W hW => by rw [(b3'.ext hW).cell (by decide), hc20, htv]
  have KD : ∀ W, Ext W3 W → W.cell? ⟨B3, 21, none⟩ = some (.slice od nd cd) := fun W hW => by rw [(b3'.ext hW).cell (by decide), hc21, hdv]
  have hfr3 : own B3 = 0 := h.fresh B3 g3
  have h3 := h.ext e3
  obtain ⟨bj, cj, hArn, hTag, hJR⟩ := h3.jrn.arn
  rw [List.length_reverse] at hArn hTag
  obtain ⟨oj, capj, hvj⟩ : ∃ o cap, c 10629 = .slice o V.journal.length cap := by
    rcases hArn with ⟨q1, q2⟩ | ⟨cp, q1, _⟩
    · exact ⟨none, 0, by rw [q1]; exact q2⟩
    · exact ⟨_, _, q1⟩
  obtain ⟨n, hn⟩ : ∃ n, Hid (V.journal.length = n) := ⟨_, rfl⟩
  rw [hn.out] at hvj hArn hTag hJ
  rw [hvj] at hArn hTag
  have KJ : ∀ W, Ext W3 W → W.cell? ⟨g, 10629, none⟩ = some (.slice oj n capj) := fun W hW => by rw [(h3.blk.ext hW).cell (i := 10629) (by omega), hvj]
  have KL : ∀ W, Ext W3 W → W.cell? ⟨g, 27016, none⟩ = some (.slice oL nL cL) := fun W hW => by rw [(h3.blk.ext hW).cell (i := 27016) (by omega), hvL]
  have HA : ∀ W, Ext W3 W → Arn W 227 9 (.slice oj n capj) n bj cj := fun W hW => by
    rcases hArn with q | ⟨cp, q1, q2, q3, q4⟩
    · exact Or.inl q
    · exact Or.inr ⟨cp, q1, q2, q3, q4.ext hW⟩
  have HBG : ∀ W9, Ext W3 W9 → ∀ v' W b' c', Grown W9 227 9 (.slice oj n capj) n bj cj jeL.toList v' W b' c' → Blk W g 27024 105 c := fun W9 hE v' W b' c' hG => by
    rcases hG.how with ⟨_, ⟨cp, hc⟩, hm⟩ | ⟨_, hx⟩
    · have hobj : own bj = 3 := hTag cp hc
      exact (h3.blk.ext hE).mod hm (fun e => by have h8 := h3.tag; rw [e, hobj] at h8; omega)
    · exact (h3.blk.ext hE).ext hx
  clear htv hdv hc20 hc21 b3
  go_upto_region 3 with (first | (go_at_call 179; refine (HR _ (by (repeat (first | with_reducible exact Ext.refl _ | with_reducible assumption | refine Ext.trans ?_ (by with_reducible assumption) | refine Ext.alloc ?_ _ _ | refine Ext.drew ?_ | refine Ext.drewN ?_ _)))).mono ?_; rintro e w4 ⟨rfl, hww⟩; replace hww := hww.symm; subst hww) | ((with_reducible (refine Veil.out ?_; apply wl_loadC one44)); (case hw => first | rfl | go_simp); (case hx => rfl); (case hc => exact KL _ (by (repeat (first | with_reducible exact Ext.refl _ | with_reducible assumption | refine Ext.trans ?_ (by with_reducible assumption) | refine Ext.alloc ?_ _ _ | refine Ext.drew ?_ | refine Ext.drewN ?_ _))))) | ((with_reducible (refine Veil.out ?_; apply wl_loadC one29)); (case hw => first | rfl | go_simp); (case hx => rfl); (case hc => exact KT _ (by (repeat (first | with_reducible exact Ext.refl _ | with_reducible assumption | refine Ext.trans ?_ (by with_reducible assumption) | refine Ext.alloc ?_ _ _ | refine Ext.drew ?_ | refine Ext.drewN ?_ _))))) | ((with_reducible (refine Veil.out ?_; apply wl_loadC one32)); (case hw => first | rfl | go_simp); (case hx => rfl); (case hc => exact KD _ (by (repeat (first | with_reducible exact Ext.refl _ | with_reducible assumption | refine Ext.trans ?_ (by with_reducible assumption) | refine Ext.alloc ?_ _ _ | refine Ext.drew ?_ | refine Ext.drewN ?_ _))))))
  go_upto_region 4 with (first | ((with_reducible (refine Veil.out ?_; apply wl_loadC one80)); (case hw => first | rfl | go_simp); (case hx => rfl); (case hc => exact KJ _ (by (repeat (first | with_reducible exact Ext.refl _ | with_reducible assumption | refine Ext.trans ?_ (by with_reducible assumption) | refine Ext.alloc ?_ _ _ | refine Ext.drew ?_ | refine Ext.drewN ?_ _))))) | ((with_reducible (refine Veil.out ?_; apply wl_buildV (hb := b219L))); (case he => rfl)) | ((with_reducible (refine Veil.out ?_; apply wl_build1A 227 Hvah.t227 _ 9)); (case ht => exact under80); (case hi => exact info219); (case hz => exact zero219); (case hsz => exact size219); (case hzs => rfl); (case h0 => decide); (case hbig => decide); (case hy => rfl); (case hr => rfl); rintro B9 W9 e9 r9 g9) | ((with_reducible (refine Veil.out ?_; apply wl_storeS one80)); (case hx => rfl); (case hy => rfl); (case h1 => rfl); (case hB => exact hBg); (case hi => decide)) | ((refine Veil.out ?_; apply wl_append1 227 Hvah.t227 _ 9 under80 info219 zero219 size219 rfl bytes219 (.slice oj n capj) n bj cj); (case hA => exact HA _ (by (repeat (first | with_reducible exact Ext.refl _ | with_reducible assumption | refine Ext.trans ?_ (by with_reducible assumption) | refine Ext.alloc ?_ _ _ | refine Ext.drew ?_ | refine Ext.drewN ?_ _)))); (case hn => omega); (case hnews => exact r9); (case hs => rfl); (case hx => rfl); (case hl => rfl); (case h1 => exact jeL_one); rintro v' W10 b' c' hG; obtain ⟨capj', rfl⟩ := hG.some; have hBg := HBG W9 e9 _ _ _ _ hG))
  obtain ⟨own2, c4, h2, s2⟩ := push_end (e := ⟨7, 0, 0, 0, [], false⟩) (z := jeL) h3 (by rw [hn.out]; exact hJ) ⟨fun q => by simp at q, fun q => by simp at q, fun q => by simp at q, by simp⟩ e9 (by rw [hvj, hn.out]; exact hTag) hJR (by rw [hvj, hn.out]; exact hG)
    (fun own' w' c3 o K hnw => ⟨hnw 0 _ rfl, hnw 1 _ rfl, hnw 2 _ rfl, WAt.zero4 (q := 3) hnw rfl rfl rfl rfl, by rw [hnw 7 _ rfl]; exact NL.nil, hnw 8 _ rfl, by show (7 : Nat) ≤ 10; decide, by show (0 : Nat) < 16384; decide, by show (0 : Nat) < _; decide, P256_pos⟩)
  refine w_gen (fun X => VRep own2 X g c4 (V.push ⟨7, 0, 0, 0, [], false⟩) ∧ VStep own W3 c own2 X c4) ⟨h2, s2⟩ ?_
  rintro X ⟨h2, s2⟩
  have b3x := b3'.mod s2.mod (fun q => q.1.1 hfr3)
  have hf3 : own2 B3 = 0 := by rw [s2.keep B3 b3'.lt]; exact hfr3
  have hgB3 : ¬ g = B3 := fun q => by have := h2.tag; rw [q, hf3] at this; omega
  have ht2 := s2.wl (ht.ext e3)
  have hd2 := s2.nl (hd.ext e3)
  have s2' := (VStep.ext (own := own) (c := c) e3).trans s2
  obtain ⟨bL, cLs, hArnL, hTagL, hLR⟩ := h2.logs.arn
  obtain ⟨oM, cM, hvM⟩ := h2.logsLen
  have hnM : (V.push ⟨7, 0, 0, 0, [], false⟩).logs.length = nL := hnL.out
  rw [hnM] at hvM hArnL
  rw [hvM] at hArnL
  have HCL := fun W (hW : Ext X W) => vCopiedLog (O := Mu own2) (h2.ext hW).small ha (ht2.ext hW) (hd2.ext hW) (by rw [hnt.out]; exact h4)
  clear HA HBG KJ KL KT KD hG hBg hArn hTag hJR ht hd e9 r9 hvj hvL HR
  have KL2 : ∀ W, Ext X W → W.cell? ⟨g, 27016, none⟩ = some (.slice oM nL cM) := fun W hW => by rw [(h2.blk.ext hW).cell (i := 27016) (by omega), hvM]
  have HA2 : ∀ W, Ext X W → Arn W 141 22 (.slice oM nL cM) nL bL cLs := fun W hW => by
    rcases hArnL with q | ⟨cp, q1, q2, q3, q4⟩
    · exact Or.inl q
    · exact Or.inr ⟨cp, q1, q2, q3, q4.ext hW⟩
  refine w_ext ?_
  rintro W0 hW0
  refine wp_region_held_drew (S := fun w' => Mod (fun x => ¬ x = B3) W0 w') (by kernel_rfl) (Mod.refl _ _).drew (fun hHeld => ?_)
  have HH : Hid (Mod (fun x => ¬ x = B3) W0 _) := hHeld
  clear hHeld
  refine wpAnyH_take (i := 0) (v := ?_) rfl (by kernel_rfl) (by kernel_rfl) (by kernel_rfl) (fun _ _ _ h => h) (Or.inl ⟨by rfl, ?_⟩) HH.out ?_
  rotate_left
  · intro w hSw; go_simp; try with_reducible rfl
  change wpAnyH _ _ _ _ _ _ _ (Act.put _ (some 38) _) _
  simp only [Act.put, List.setIfInBounds_toArray, List.set_cons_zero, List.set_cons_succ]
  refine wpAnyH_take (i := 1) (v := ?_) rfl (by kernel_rfl) (by kernel_rfl) (by kernel_rfl) (fun _ _ _ h => h) (Or.inl ⟨by rfl, ?_⟩) HH.out ?_
  rotate_left
  · intro w hSw; go_simp; try with_reducible rfl
  change wpAnyH _ _ _ _ _ _ _ (Act.put _ (some 39) _) _
  simp only [Act.put, List.setIfInBounds_toArray, List.set_cons_zero, List.set_cons_succ]
  refine wpAnyH_take (i := 2) (v := ?_) rfl (by kernel_rfl) (by kernel_rfl) (by kernel_rfl) (fun _ _ _ h => h) (Or.inl ⟨by rfl, ?_⟩) HH.out ?_
  rotate_left
  · intro w hSw; go_simp; try with_reducible rfl
  change wpAnyH _ _ _ _ _ _ _ (Act.put _ (some 40) _) _
  simp only [Act.put, List.setIfInBounds_toArray, List.set_cons_zero, List.set_cons_succ]
  refine wpAnyH_take (i := 3) (v := ?_) rfl (by kernel_rfl) (by kernel_rfl) (by kernel_rfl) (fun _ _ _ h => h) (Or.inl ⟨by rfl, ?_⟩) HH.out ?_
  rotate_left
  · intro w hSw; go_simp; try with_reducible rfl
  change wpAnyH _ _ _ _ _ _ _ (Act.put _ (some 41) _) _
  simp only [Act.put, List.setIfInBounds_toArray, List.set_cons_zero, List.set_cons_succ]
  refine wpAnyH_take (i := 5) rfl (by kernel_rfl) (by kernel_rfl) (by kernel_rfl) (fun _ _ _ h => h) (yields_Lg ha (by rfl) rfl rfl (fun w hSw => (b3x.ext (show Ext X W0 by (repeat (first | with_reducible exact Ext.refl _ | with_reducible assumption | refine Ext.trans ?_ (by with_reducible assumption) | refine Ext.alloc ?_ _ _ | refine Ext.drew ?_ | refine Ext.drewN ?_ _)))).mod hSw (fun q => q rfl))) HH.out ?_
  change wpAnyH _ _ _ _ _ _ _ (Act.put _ (some 43) _) _
  simp only [Act.put, List.setIfInBounds_toArray, List.set_cons_zero, List.set_cons_succ]
  refine wpAnyH_ready (rs := [4, 6]) (by kernel_rfl) (by simp) ?_
  refine (AllReadyH.cons rfl (fun K hK => ?_) (AllReadyH.cons rfl (fun K hK => ?_) AllReadyH.nil))
  refine step_any rfl (op_loadC rfl one44 rfl (KL2 _ (by (repeat (first | with_reducible exact Ext.refl _ | with_reducible assumption | refine Ext.trans ?_ (by with_reducible assumption) | refine Ext.alloc ?_ _ _ | refine Ext.drew ?_ | refine Ext.drewN ?_ _)))) ?_)
  refine hK.out _ _ HH.out (fun hHeld => ?_)
  clear hK K HH
  have HH : Hid (Mod (fun x => ¬ x = B3) W0 _) := hHeld
  clear hHeld
  change wpAnyH _ _ _ _ _ _ _ (Act.put _ (some 42) _) _
  simp only [Act.put, List.setIfInBounds_toArray, List.set_cons_zero, List.set_cons_succ]
  refine wpAnyH_ready (rs := [6]) (by kernel_rfl) (by simp) ?_
  refine AllReadyH.cons rfl (fun K hK => ?_) AllReadyH.nil
  go_simp
  go_at_call 216; refine (HCL _ (by (repeat (first | with_reducible exact Ext.refl _ | with_reducible assumption | refine Ext.trans ?_ (by with_reducible assumption) | refine Ext.alloc ?_ _ _ | refine Ext.drew ?_ | refine Ext.drewN ?_ _)))).mono ?_; rintro e w8 ⟨tv', dv', rfl, ht8, hd8, he⟩; have hto := ht8.one; have hdo := hd8.one; have hEX8 : Ext X w8 := (by (repeat (first | with_reducible exact Ext.refl _ | with_reducible assumption | refine Ext.trans ?_ (by with_reducible assumption) | refine Ext.alloc ?_ _ _ | refine Ext.drew ?_ | refine Ext.drewN ?_ _)))
  refine hK.out _ _ ?_ (fun hHeld => ?_)
  · exact HH.out.trans_ext he
  clear hK K HH
  have HH : Hid (Mod (fun x => ¬ x = B3) W0 _) := hHeld
  clear hHeld
  refine wpAnyH_ready (rs := [7]) (by kernel_rfl) (by simp) ?_
  refine AllReadyH.cons rfl (fun K hK => ?_) AllReadyH.nil
  refine step_any rfl (op_build1 141 Hvah.t141 _ 22 rfl under44 info132 zero132 size132 zs132 (by decide) (by decide) (lgV l.addr tv' dv') (lgV_size ha _ _) rfl ?_)
  rintro B9 W9 e9 r9 g9
  refine hK.out _ _ (HH.out.trans_ext e9) (fun hHeld => ?_)
  clear hK K HH
  have HH : Hid (Mod (fun x => ¬ x = B3) W0 _) := hHeld
  clear hHeld
  change wpAnyH _ _ _ _ _ _ _ (Act.put _ (some 45) _) _
  simp only [Act.put, List.setIfInBounds_toArray, List.set_cons_zero, List.set_cons_succ]
  refine wpAnyH_ready (rs := [8]) (by kernel_rfl) (by simp) ?_
  refine AllReadyH.cons rfl (fun K hK => ?_) AllReadyH.nil
  refine step_append1 rfl _ _ 49 rfl 141 Hvah.t141 _ 22 under44 info132 zero132 size132 zs132 bytes132 (.slice oM nL cM) nL bL cLs (HA2 _ (by (repeat (first | with_reducible exact Ext.refl _ | with_reducible assumption | refine Ext.trans ?_ (by with_reducible assumption) | refine Ext.alloc ?_ _ _ | refine Ext.drew ?_ | refine Ext.drewN ?_ _)))) (by omega) ⟨B9, 0, none⟩ 1 (lgV l.addr tv' dv').toList (lgV_size ha _ _) r9 (lgV_ones ha hto hdo) rfl rfl ?_
  rintro v' W10 b' c' hG
  obtain ⟨capj', rfl⟩ := hG.some
  have hEX9 : Ext X W9 := by (repeat (first | with_reducible exact Ext.refl _ | with_reducible assumption | refine Ext.trans ?_ (by with_reducible assumption) | refine Ext.alloc ?_ _ _ | refine Ext.drew ?_ | refine Ext.drewN ?_ _))
  have hE89 : Ext w8 W9 := by (repeat (first | with_reducible exact Ext.refl _ | with_reducible assumption | refine Ext.trans ?_ (by with_reducible assumption) | refine Ext.alloc ?_ _ _ | refine Ext.drew ?_ | refine Ext.drewN ?_ _))
  have hBoth : Blk W10 g 27024 105 c4 ∧ Mod (fun x => ¬ x = B3) W9 W10 := by
    rcases hG.how with ⟨_, ⟨cp, hc⟩, hm⟩ | ⟨_, hx⟩
    · have hobj : own2 bL = 4 := hTagL cp (by rw [hvM, hnM]; exact hc)
      exact ⟨(h2.blk.ext hEX9).mod hm (fun e => by have h8 := h2.tag; rw [e, hobj] at h8; omega), hm.sub (fun x hx hq => by have hx2 : x = bL := hx; rw [← hx2, hq, hf3] at hobj; omega)⟩
    · exact ⟨(h2.blk.ext hEX9).ext hx, hx.mod _⟩
  obtain ⟨hBg, hmB⟩ := hBoth
  refine hK.out _ _ (HH.out.trans hmB) (fun hHeld => ?_)
  clear hK K HH
  have HH : Hid (Mod (fun x => ¬ x = B3) W0 _) := hHeld
  clear hHeld
  change wpAnyH _ _ _ _ _ _ _ (Act.put _ (some 46) _) _
  simp only [Act.put, List.setIfInBounds_toArray, List.set_cons_zero, List.set_cons_succ]
  refine wpAnyH_take (i := 9) (v := ?_) rfl (by kernel_rfl) (by kernel_rfl) (by kernel_rfl) (fun _ _ _ h => h) (Or.inl ⟨by rfl, ?_⟩) HH.out ?_
  rotate_left
  · intro w hSw; go_simp; try with_reducible rfl
  change wpAnyH _ _ _ _ _ _ _ (Act.put _ (some 47) _) _
  simp only [Act.put, List.setIfInBounds_toArray, List.set_cons_zero, List.set_cons_succ]
  refine wpAnyH_take (i := 10) (v := ?_) rfl (by kernel_rfl) (by kernel_rfl) (by kernel_rfl) (fun _ _ _ h => h) (Or.inl ⟨by rfl, ?_⟩) HH.out ?_
  rotate_left
  · intro w hSw; go_simp; try with_reducible rfl
  change wpAnyH _ _ _ _ _ _ _ (Act.put _ (some 48) _) _
  simp only [Act.put, List.setIfInBounds_toArray, List.set_cons_zero, List.set_cons_succ]
  refine wpAnyH_ready (rs := [11]) (by kernel_rfl) (by simp) ?_
  refine AllReadyH.cons rfl (fun K hK => ?_) AllReadyH.nil
  refine step_any rfl (op_storeS rfl one44 rfl rfl rfl hBg (by decide) ?_)
  refine hK.out _ _ (HH.out.trans ((Mod.refl (fun x => ¬ x = B3) _).setCell (Or.inl hgB3) _)) (fun hHeld => ?_)
  clear hK K HH
  have HH : Hid (Mod (fun x => ¬ x = B3) W0 _) := hHeld
  clear hHeld
  change wpAnyH _ _ _ _ _ _ _ (Act.put _ none _) _
  simp only [Act.put, List.setIfInBounds_toArray, List.set_cons_zero, List.set_cons_succ]
  refine wpAnyH_done (by kernel_rfl) ?_ _
  · go_wp2
    go_ret
    obtain ⟨own9, c9, h9, s9⟩ := log_end (l := l) (z := lgV l.addr tv' dv') (h2.ext hEX8) (by rw [hnM]; exact hL) hE89 hTagL (fun i hi => (hLR i hi).ext hEX8) (by rw [hvM, hnM]; exact hG)
      (fun own' w' c3 o K hnw => ⟨fun j v hv => by
        have hj := (Array.getElem?_eq_some_iff.1 hv).1
        exact hnw j v (by rw [Array.getElem?_toList, Array.getElem?_append_left hj]; exact hv), ha, by
        rw [hnw 20 tv' (by rw [Array.getElem?_toList, Array.getElem?_append_right (by omega), hsz]; rfl)]; exact K.wl ht8, by
        rw [hnw 21 dv' (by rw [Array.getElem?_toList, Array.getElem?_append_right (by omega), hsz]; rfl)]; exact K.nl hd8⟩)
    exact ⟨rfl, own9, c9, h9, s2'.trans ((VStep.ext hEX8).trans s9)⟩
  
  go_simp
  go_at_call 216; refine (HCL _ (by (repeat (first | with_reducible exact Ext.refl _ | with_reducible assumption | refine Ext.trans ?_ (by with_reducible assumption) | refine Ext.alloc ?_ _ _ | refine Ext.drew ?_ | refine Ext.drewN ?_ _)))).mono ?_; rintro e w8 ⟨tv', dv', rfl, ht8, hd8, he⟩; have hto := ht8.one; have hdo := hd8.one; have hEX8 : Ext X w8 := (by (repeat (first | with_reducible exact Ext.refl _ | with_reducible assumption | refine Ext.trans ?_ (by with_reducible assumption) | refine Ext.alloc ?_ _ _ | refine Ext.drew ?_ | refine Ext.drewN ?_ _)))
  refine hK.out _ _ ?_ (fun hHeld => ?_)
  · exact HH.out.trans_ext he
  clear hK K HH
  have HH : Hid (Mod (fun x => ¬ x = B3) W0 _) := hHeld
  clear hHeld
  refine wpAnyH_ready (rs := [4, 7]) (by kernel_rfl) (by simp) ?_
  refine (AllReadyH.cons rfl (fun K hK => ?_) (AllReadyH.cons rfl (fun K hK => ?_) AllReadyH.nil))
  refine step_any rfl (op_loadC rfl one44 rfl (KL2 _ (by (repeat (first | with_reducible exact Ext.refl _ | with_reducible assumption | refine Ext.trans ?_ (by with_reducible assumption) | refine Ext.alloc ?_ _ _ | refine Ext.drew ?_ | refine Ext.drewN ?_ _)))) ?_)
  refine hK.out _ _ HH.out (fun hHeld => ?_)
  clear hK K HH
  have HH : Hid (Mod (fun x => ¬ x = B3) W0 _) := hHeld
  clear hHeld
  change wpAnyH _ _ _ _ _ _ _ (Act.put _ (some 42) _) _
  simp only [Act.put, List.setIfInBounds_toArray, List.set_cons_zero, List.set_cons_succ]
  refine wpAnyH_ready (rs := [7]) (by kernel_rfl) (by simp) ?_
  refine AllReadyH.cons rfl (fun K hK => ?_) AllReadyH.nil
  refine step_any rfl (op_build1 141 Hvah.t141 _ 22 rfl under44 info132 zero132 size132 zs132 (by decide) (by decide) (lgV l.addr tv' dv') (lgV_size ha _ _) rfl ?_)
  rintro B9 W9 e9 r9 g9
  refine hK.out _ _ (HH.out.trans_ext e9) (fun hHeld => ?_)
  clear hK K HH
  have HH : Hid (Mod (fun x => ¬ x = B3) W0 _) := hHeld
  clear hHeld
  change wpAnyH _ _ _ _ _ _ _ (Act.put _ (some 45) _) _
  simp only [Act.put, List.setIfInBounds_toArray, List.set_cons_zero, List.set_cons_succ]
  refine wpAnyH_ready (rs := [8]) (by kernel_rfl) (by simp) ?_
  refine AllReadyH.cons rfl (fun K hK => ?_) AllReadyH.nil
  refine step_append1 rfl _ _ 49 rfl 141 Hvah.t141 _ 22 under44 info132 zero132 size132 zs132 bytes132 (.slice oM nL cM) nL bL cLs (HA2 _ (by (repeat (first | with_reducible exact Ext.refl _ | with_reducible assumption | refine Ext.trans ?_ (by with_reducible assumption) | refine Ext.alloc ?_ _ _ | refine Ext.drew ?_ | refine Ext.drewN ?_ _)))) (by omega) ⟨B9, 0, none⟩ 1 (lgV l.addr tv' dv').toList (lgV_size ha _ _) r9 (lgV_ones ha hto hdo) rfl rfl ?_
  rintro v' W10 b' c' hG
  obtain ⟨capj', rfl⟩ := hG.some
  have hEX9 : Ext X W9 := by (repeat (first | with_reducible exact Ext.refl _ | with_reducible assumption | refine Ext.trans ?_ (by with_reducible assumption) | refine Ext.alloc ?_ _ _ | refine Ext.drew ?_ | refine Ext.drewN ?_ _))
  have hE89 : Ext w8 W9 := by (repeat (first | with_reducible exact Ext.refl _ | with_reducible assumption | refine Ext.trans ?_ (by with_reducible assumption) | refine Ext.alloc ?_ _ _ | refine Ext.drew ?_ | refine Ext.drewN ?_ _))
  have hBoth : Blk W10 g 27024 105 c4 ∧ Mod (fun x => ¬ x = B3) W9 W10 := by
    rcases hG.how with ⟨_, ⟨cp, hc⟩, hm⟩ | ⟨_, hx⟩
    · have hobj : own2 bL = 4 := hTagL cp (by rw [hvM, hnM]; exact hc)
      exact ⟨(h2.blk.ext hEX9).mod hm (fun e => by have h8 := h2.tag; rw [e, hobj] at h8; omega), hm.sub (fun x hx hq => by have hx2 : x = bL := hx; rw [← hx2, hq, hf3] at hobj; omega)⟩
    · exact ⟨(h2.blk.ext hEX9).ext hx, hx.mod _⟩
  obtain ⟨hBg, hmB⟩ := hBoth
  refine hK.out _ _ (HH.out.trans hmB) (fun hHeld => ?_)
  clear hK K HH
  have HH : Hid (Mod (fun x => ¬ x = B3) W0 _) := hHeld
  clear hHeld
  change wpAnyH _ _ _ _ _ _ _ (Act.put _ (some 46) _) _
  simp only [Act.put, List.setIfInBounds_toArray, List.set_cons_zero, List.set_cons_succ]
  refine wpAnyH_take (i := 9) (v := ?_) rfl (by kernel_rfl) (by kernel_rfl) (by kernel_rfl) (fun _ _ _ h => h) (Or.inl ⟨by rfl, ?_⟩) HH.out ?_
  rotate_left
  · intro w hSw; go_simp; try with_reducible rfl
  change wpAnyH _ _ _ _ _ _ _ (Act.put _ (some 47) _) _
  simp only [Act.put, List.setIfInBounds_toArray, List.set_cons_zero, List.set_cons_succ]
  refine wpAnyH_take (i := 10) (v := ?_) rfl (by kernel_rfl) (by kernel_rfl) (by kernel_rfl) (fun _ _ _ h => h) (Or.inl ⟨by rfl, ?_⟩) HH.out ?_
  rotate_left
  · intro w hSw; go_simp; try with_reducible rfl
  change wpAnyH _ _ _ _ _ _ _ (Act.put _ (some 48) _) _
  simp only [Act.put, List.setIfInBounds_toArray, List.set_cons_zero, List.set_cons_succ]
  refine wpAnyH_ready (rs := [11]) (by kernel_rfl) (by simp) ?_
  refine AllReadyH.cons rfl (fun K hK => ?_) AllReadyH.nil
  refine step_any rfl (op_storeS rfl one44 rfl rfl rfl hBg (by decide) ?_)
  refine hK.out _ _ (HH.out.trans ((Mod.refl (fun x => ¬ x = B3) _).setCell (Or.inl hgB3) _)) (fun hHeld => ?_)
  clear hK K HH
  have HH : Hid (Mod (fun x => ¬ x = B3) W0 _) := hHeld
  clear hHeld
  change wpAnyH _ _ _ _ _ _ _ (Act.put _ none _) _
  simp only [Act.put, List.setIfInBounds_toArray, List.set_cons_zero, List.set_cons_succ]
  refine wpAnyH_done (by kernel_rfl) ?_ _
  · go_wp2
    go_ret
    obtain ⟨own9, c9, h9, s9⟩ := log_end (l := l) (z := lgV l.addr tv' dv') (h2.ext hEX8) (by rw [hnM]; exact hL) hE89 hTagL (fun i hi => (hLR i hi).ext hEX8) (by rw [hvM, hnM]; exact hG)
      (fun own' w' c3 o K hnw => ⟨fun j v hv => by
        have hj := (Array.getElem?_eq_some_iff.1 hv).1
        exact hnw j v (by rw [Array.getElem?_toList, Array.getElem?_append_left hj]; exact hv), ha, by
        rw [hnw 20 tv' (by rw [Array.getElem?_toList, Array.getElem?_append_right (by omega), hsz]; rfl)]; exact K.wl ht8, by
        rw [hnw 21 dv' (by rw [Array.getElem?_toList, Array.getElem?_append_right (by omega), hsz]; rfl)]; exact K.nl hd8⟩)
    exact ⟨rfl, own9, c9, h9, s2'.trans ((VStep.ext hEX8).trans s9)⟩
  
  refine step_any rfl (op_build1 141 Hvah.t141 _ 22 rfl under44 info132 zero132 size132 zs132 (by decide) (by decide) (lgV l.addr tv' dv') (lgV_size ha _ _) rfl ?_)
  rintro B9 W9 e9 r9 g9
  refine hK.out _ _ (HH.out.trans_ext e9) (fun hHeld => ?_)
  clear hK K HH
  have HH : Hid (Mod (fun x => ¬ x = B3) W0 _) := hHeld
  clear hHeld
  change wpAnyH _ _ _ _ _ _ _ (Act.put _ (some 45) _) _
  simp only [Act.put, List.setIfInBounds_toArray, List.set_cons_zero, List.set_cons_succ]
  refine wpAnyH_ready (rs := [4]) (by kernel_rfl) (by simp) ?_
  refine AllReadyH.cons rfl (fun K hK => ?_) AllReadyH.nil
  refine step_any rfl (op_loadC rfl one44 rfl (KL2 _ (by (repeat (first | with_reducible exact Ext.refl _ | with_reducible assumption | refine Ext.trans ?_ (by with_reducible assumption) | refine Ext.alloc ?_ _ _ | refine Ext.drew ?_ | refine Ext.drewN ?_ _)))) ?_)
  refine hK.out _ _ HH.out (fun hHeld => ?_)
  clear hK K HH
  have HH : Hid (Mod (fun x => ¬ x = B3) W0 _) := hHeld
  clear hHeld
  change wpAnyH _ _ _ _ _ _ _ (Act.put _ (some 42) _) _
  simp only [Act.put, List.setIfInBounds_toArray, List.set_cons_zero, List.set_cons_succ]
  refine wpAnyH_ready (rs := [8]) (by kernel_rfl) (by simp) ?_
  refine AllReadyH.cons rfl (fun K hK => ?_) AllReadyH.nil
  refine step_append1 rfl _ _ 49 rfl 141 Hvah.t141 _ 22 under44 info132 zero132 size132 zs132 bytes132 (.slice oM nL cM) nL bL cLs (HA2 _ (by (repeat (first | with_reducible exact Ext.refl _ | with_reducible assumption | refine Ext.trans ?_ (by with_reducible assumption) | refine Ext.alloc ?_ _ _ | refine Ext.drew ?_ | refine Ext.drewN ?_ _)))) (by omega) ⟨B9, 0, none⟩ 1 (lgV l.addr tv' dv').toList (lgV_size ha _ _) r9 (lgV_ones ha hto hdo) rfl rfl ?_
  rintro v' W10 b' c' hG
  obtain ⟨capj', rfl⟩ := hG.some
  have hEX9 : Ext X W9 := by (repeat (first | with_reducible exact Ext.refl _ | with_reducible assumption | refine Ext.trans ?_ (by with_reducible assumption) | refine Ext.alloc ?_ _ _ | refine Ext.drew ?_ | refine Ext.drewN ?_ _))
  have hE89 : Ext w8 W9 := by (repeat (first | with_reducible exact Ext.refl _ | with_reducible assumption | refine Ext.trans ?_ (by with_reducible assumption) | refine Ext.alloc ?_ _ _ | refine Ext.drew ?_ | refine Ext.drewN ?_ _))
  have hBoth : Blk W10 g 27024 105 c4 ∧ Mod (fun x => ¬ x = B3) W9 W10 := by
    rcases hG.how with ⟨_, ⟨cp, hc⟩, hm⟩ | ⟨_, hx⟩
    · have hobj : own2 bL = 4 := hTagL cp (by rw [hvM, hnM]; exact hc)
      exact ⟨(h2.blk.ext hEX9).mod hm (fun e => by have h8 := h2.tag; rw [e, hobj] at h8; omega), hm.sub (fun x hx hq => by have hx2 : x = bL := hx; rw [← hx2, hq, hf3] at hobj; omega)⟩
    · exact ⟨(h2.blk.ext hEX9).ext hx, hx.mod _⟩
  obtain ⟨hBg, hmB⟩ := hBoth
  refine hK.out _ _ (HH.out.trans hmB) (fun hHeld => ?_)
  clear hK K HH
  have HH : Hid (Mod (fun x => ¬ x = B3) W0 _) := hHeld
  clear hHeld
  change wpAnyH _ _ _ _ _ _ _ (Act.put _ (some 46) _) _
  simp only [Act.put, List.setIfInBounds_toArray, List.set_cons_zero, List.set_cons_succ]
  refine wpAnyH_take (i := 9) (v := ?_) rfl (by kernel_rfl) (by kernel_rfl) (by kernel_rfl) (fun _ _ _ h => h) (Or.inl ⟨by rfl, ?_⟩) HH.out ?_
  rotate_left
  · intro w hSw; go_simp; try with_reducible rfl
  change wpAnyH _ _ _ _ _ _ _ (Act.put _ (some 47) _) _
  simp only [Act.put, List.setIfInBounds_toArray, List.set_cons_zero, List.set_cons_succ]
  refine wpAnyH_take (i := 10) (v := ?_) rfl (by kernel_rfl) (by kernel_rfl) (by kernel_rfl) (fun _ _ _ h => h) (Or.inl ⟨by rfl, ?_⟩) HH.out ?_
  rotate_left
  · intro w hSw; go_simp; try with_reducible rfl
  change wpAnyH _ _ _ _ _ _ _ (Act.put _ (some 48) _) _
  simp only [Act.put, List.setIfInBounds_toArray, List.set_cons_zero, List.set_cons_succ]
  refine wpAnyH_ready (rs := [11]) (by kernel_rfl) (by simp) ?_
  refine AllReadyH.cons rfl (fun K hK => ?_) AllReadyH.nil
  refine step_any rfl (op_storeS rfl one44 rfl rfl rfl hBg (by decide) ?_)
  refine hK.out _ _ (HH.out.trans ((Mod.refl (fun x => ¬ x = B3) _).setCell (Or.inl hgB3) _)) (fun hHeld => ?_)
  clear hK K HH
  have HH : Hid (Mod (fun x => ¬ x = B3) W0 _) := hHeld
  clear hHeld
  change wpAnyH _ _ _ _ _ _ _ (Act.put _ none _) _
  simp only [Act.put, List.setIfInBounds_toArray, List.set_cons_zero, List.set_cons_succ]
  refine wpAnyH_done (by kernel_rfl) ?_ _
  · go_wp2
    go_ret
    obtain ⟨own9, c9, h9, s9⟩ := log_end (l := l) (z := lgV l.addr tv' dv') (h2.ext hEX8) (by rw [hnM]; exact hL) hE89 hTagL (fun i hi => (hLR i hi).ext hEX8) (by rw [hvM, hnM]; exact hG)
      (fun own' w' c3 o K hnw => ⟨fun j v hv => by
        have hj := (Array.getElem?_eq_some_iff.1 hv).1
        exact hnw j v (by rw [Array.getElem?_toList, Array.getElem?_append_left hj]; exact hv), ha, by
        rw [hnw 20 tv' (by rw [Array.getElem?_toList, Array.getElem?_append_right (by omega), hsz]; rfl)]; exact K.wl ht8, by
        rw [hnw 21 dv' (by rw [Array.getElem?_toList, Array.getElem?_append_right (by omega), hsz]; rfl)]; exact K.nl hd8⟩)
    exact ⟨rfl, own9, c9, h9, s2'.trans ((VStep.ext hEX8).trans s9)⟩
  
end
end Go.Proofs.YgvahwGreat
