import Derived.Test.YgvahwGreatYS
import Derived.Deep.CutBlock
import Derived.Deep.DeepCutAuto
namespace Go.Proofs.YgvahwGreat
open Go.RowKit
set_option linter.unusedSimpArgs false
theorem alT233 : AlT 241 21 := alT_of (by kernel_rfl)
theorem bytes233 : Hvah.t241.bytes = 48 := by kernel_rfl
theorem sl95 : SlT 108 241 21 := ⟨⟨Hvah.t241, .agg #[.int .u8 0, .int .u8 0, .int .u8 0, .int .u8 0, .int .u8 0, .int .u8 0, .int .u8 0, .int .u8 0, .int .u8 0, .int .u8 0, .int .u8 0, .int .u8 0, .int .u8 0, .int .u8 0, .int .u8 0, .int .u8 0, .int .u8 0, .int .u8 0, .int .u8 0, .int .u8 0, .slice none 0 0], by kernel_rfl, by kernel_rfl, by kernel_rfl, by kernel_rfl, rfl, by rw [bytes233]; decide⟩, by decide, by decide⟩
theorem mkR_set {a : Nat} (ha : a < 2 ^ 160) (u v : Value) : (mkR a u).setIfInBounds 20 v = mkR a v := by
  have hs := av_size ha
  apply Array.ext_getElem?
  intro j
  rw [Array.getElem?_setIfInBounds]
  unfold mkR
  by_cases h : 20 = j
  · subst h
    rw [if_pos rfl, if_pos (by simp [hs]), Array.getElem?_append_right (by omega), hs]; rfl
  · rw [if_neg h]
    by_cases h2 : j < 20
    · rw [Array.getElem?_append_left (by omega), Array.getElem?_append_left (by omega)]
    · rw [Array.getElem?_eq_none (by simp [hs]; omega), Array.getElem?_eq_none (by simp [hs]; omega)]
theorem fold_mk {a : Nat} (ha : a < 2 ^ 160) : Array.foldl (fun cs x => cs.setIfInBounds x.snd x.fst) #[.int .u8 0, .int .u8 0, .int .u8 0, .int .u8 0, .int .u8 0, .int .u8 0, .int .u8 0, .int .u8 0, .int .u8 0, .int .u8 0, .int .u8 0, .int .u8 0, .int .u8 0, .int .u8 0, .int .u8 0, .int .u8 0, .int .u8 0, .int .u8 0, .int .u8 0, .int .u8 0, .slice none 0 0] (av a).zipIdx 0 20 = mkR a (.slice none 0 0) := by
  have hs := av_size ha
  rw [lay0_fold _ _ 20 hs]
  apply Array.ext_getElem?
  intro i
  rw [layA_get, mkR]
  by_cases hi : i < 20
  · rw [if_pos ⟨by omega, by omega, by simp; omega⟩, Array.getElem?_append_left (by omega)]
    simp
  · rw [if_neg (by omega), Array.getElem?_append_right (by omega), hs]
    by_cases h24 : i < 21
    · have h2 : i = 20 := by omega
      subst h2; rfl
    · rw [Array.getElem?_eq_none (by simp; omega), Array.getElem?_eq_none (by simp; omega)]
theorem MkC.ofRow {O : Nat → Prop} {w : World} {m : Nat × Nat} {u : Value} (h1 : m.1 < 2 ^ 160) (hu : NV O w u m.2) : ∀ c o, (∀ j v, (mkR m.1 u)[j]? = some v → c (o + j) = v) → MkC O w c o m := fun c o h => by
  have hs := av_size h1
  refine ⟨fun i v hv => h i v ?_, h1, ?_⟩
  · have hi := (Array.getElem?_eq_some_iff.1 hv).1
    rw [mkR, Array.getElem?_append_left hi]; exact hv
  · have := h 20 u (by rw [mkR, Array.getElem?_append_right (by omega), hs]; rfl)
    rw [this]; exact hu
theorem MkC.move {O : Nat → Prop} {w : World} {c c' : Nat → Value} {o : Nat} {m : Nat × Nat} (hc : ∀ j, j < 21 → c' (o + j) = c (o + j)) (h : MkC O w c o m) : MkC O w c' o m :=
  ⟨h.addr.same h.aLt (fun j hj => hc j (by omega)), h.aLt, by rw [hc 20 (by omega)]; exact h.key⟩
theorem pk_lt {a k b j : Nat} (hk : k < Pk) (hj : j < Pk) : pk a k < pk b j ↔ a < b ∨ (a = b ∧ k < j) := by
  unfold pk
  constructor
  · intro h
    rcases Nat.lt_trichotomy a b with h1 | h1 | h1
    · exact Or.inl h1
    · subst h1; exact Or.inr ⟨rfl, by omega⟩
    · have := Nat.mul_le_mul_right Pk h1
      rw [Nat.succ_mul] at this; omega
  · rintro (h | ⟨rfl, h⟩)
    · have := Nat.mul_le_mul_right Pk h
      rw [Nat.succ_mul] at this; omega
    · omega
theorem insS_cons (p x : Nat × Nat) (laid : Bool) (l : List (Nat × Nat)) (h : mkS x ≠ mkS p) : insG mkS p laid (x :: l) = (if !laid && decide (mkS p < mkS x) then [p] else []) ++ (x :: insG mkS p (laid || decide (mkS p < mkS x)) l) := by
  have e : decide (mkS p ≤ mkS x) = decide (mkS p < mkS x) := by
    rw [Bool.eq_iff_iff, decide_eq_true_iff, decide_eq_true_iff]; omega
  rw [insG, e, if_neg h]
  rfl
theorem one95 : OneT 108 := oneT_of (by kernel_rfl) (by kernel_rfl)
section
variable {ops : Array Oper} {rest : List Oper} {a : Act} {Q : Exit → Act → World → Prop} {w : World} {dst : Option Tmp} {ty : TypeId} {pos : String} {aft : Array Edge}
theorem wl_skip {op : Op} {gd : Option (Nat × Bool)} (hw : Region.wanted ⟨dst, op, ty, pos, aft, gd⟩ (yielded ops a.tmps) = false) (h : wpList Hvah.prog ops Q rest (a.put dst undef) w) : wpList Hvah.prog ops Q (⟨dst, op, ty, pos, aft, gd⟩ :: rest) a w := by
  rw [wpList, if_neg (by rw [hw]; decide)]; exact h
theorem wl_moveG {x : Operand} {gd : Option (Nat × Bool)} (hw : Region.wanted ⟨dst, .move x, ty, pos, aft, gd⟩ (yielded ops a.tmps) = true) (h : wpList Hvah.prog ops Q rest (a.put dst (a.eval x)) w) : wpList Hvah.prog ops Q (⟨dst, .move x, ty, pos, aft, gd⟩ :: rest) a w := by
  rw [wpList, if_pos hw]
  refine Or.inl ?_
  unfold Oper.wp
  simp only [execOp, Sem.run_pure]
  exact h
theorem wl_loadC {x : Operand} {t : TypeId} {b o : Nat} {v : Value} {gd : Option (Nat × Bool)} (ht : OneT t) (hw : Region.wanted ⟨dst, .load t x, ty, pos, aft, gd⟩ (yielded ops a.tmps) = true) (hx : a.eval x = .pointer (some ⟨b, o, none⟩)) (hc : w.cell? ⟨b, o, none⟩ = some v)
    (h : wpList Hvah.prog ops Q rest (a.put dst v) w) : Veil (wpList Hvah.prog ops Q (⟨dst, .load t x, ty, pos, aft, gd⟩ :: rest) a w) := by
  refine Veil.mk ?_
  rw [wpList, if_pos hw]
  refine Or.inl ?_
  unfold Oper.wp execOp
  simp only [hx, Instr.loadAt, Instr.sureAddr, Sem.run_bind, Sem.run_pure, Result.andThen_ok, run_loadVar_one ht hc]
  exact h
end
section
attribute [local go_sem] run_eq_av
variable {O : Nat → Prop} {w : World} {Y n : Nat} {t : TypeId} {c : Nat → Value}
set_option maxRecDepth 100000 in
set_option maxHeartbeats 6400000 in
theorem yWarmSlot (hB : Blk w Y n t c) (hn : 8 ≤ n) (hO : Small O w) (hY : O Y) (l : List (Nat × Nat)) (h : MarkL O w (c 2) l) (a : Nat) (ha : a < 2 ^ 160) (kv : Value) (key : Nat) (hkv : NV O w kv key) (hkey : key < Pk) (hkl : ∀ m ∈ l, m.2 < Pk) (hlen : l.length ≤ 90000) :
    Calls Hvah.prog 62 #[.pointer (some ⟨Y, 0, none⟩), .agg (av a), kv] w fun e w' => ∃ v', e = .returned (.tuple #[]) ∧ Blk w' Y n t (updv c 2 v') ∧ MarkL O w' v' (if (a, key) ∈ l then l else insG mkS (a, key) false l) ∧ Mod (· = Y) w w' := by
  have hE0 : Ext w (w.alloc (.cells (av a) 31)) := (Ext.refl w).alloc _ _
  have hsa : (av a).size = 20 := av_size ha
  have HW := yIsWarmSlot (hB.ext hE0) hn l (MarkL.ext h hE0) a ha kv key (hkv.ext hE0) (by omega)
  have HA : ∀ W, Ext (w.alloc (.cells (av a) 31)) W → RowIn W w.heap.size 0 (av a) := fun W hW => boxes1 w (av a) 31 W hW
  have hA0 := row_new w (av a) 31
  by_cases hin : (a, key) ∈ l
  · rw [if_pos hin]
    rw [decide_eq_true hin] at HW
    go_enter Hvah.func62, Hvah.ntmps62
    go_wp2_with (first | ((with_reducible (refine Veil.out ?_; apply wl_box)); (case hx => rfl)) | ((with_reducible (refine Veil.out ?_; apply wl_loadR rt25)); (case hx => rfl); (case hr => exact hA0); (case hn => exact hsa)) | (go_at_call 138; refine HW.mono ?_; rintro e w1 ⟨rfl, he⟩))
    refine bodyPost_ret (results_none rfl _ _ _) rfl ?_
    have hu : updv c 2 (c 2) = c := by funext i; unfold updv; split <;> simp_all
    exact ⟨c 2, rfl, by rw [hu]; exact hB.ext (hE0.trans he), MarkL.ext h (hE0.trans he), (hE0.trans he).mod _⟩
  · rw [if_neg hin]
    rw [decide_eq_false hin] at HW
    obtain ⟨o, cap, hv, hmax⟩ := h.slice
    have hlt : (l.length : Int) ≤ 90000 := by omega
    have HRow : ∀ k (hk : k < l.length), ∃ b u, o = some ⟨b, 0, none⟩ ∧ (l[k]).1 < 2 ^ 160 ∧ NV O w u (l[k]).2 ∧ ∀ W, Ext w W → RowIn W b (k * 21) (mkR (l[k]).1 u) := fun k hk => by
      obtain ⟨b, cap', cc, hv', hcap, hcm, hb, hnO, hrow⟩ := h.at_ (fun q => by rw [q] at hk; cases hk)
      rw [hv] at hv'
      injection hv' with hv1 _ hv2
      have hrk := hrow k hk
      exact ⟨b, _, hv1, hrk.aLt, hrk.key, fun W hW => hrk.row (hb.ext hW) (by have := Nat.mul_le_mul_right 21 (Nat.le_trans hk hcap); omega)⟩
    have k2 : ∀ W, Ext w W → W.cell? ⟨Y, 2, none⟩ = some (.slice o l.length cap) := fun W hW => by rw [← hv]; exact (hB.ext hW).cell (by omega)
    have hfold := fold_mk ha
    have hkv0 := hkv
    obtain ⟨ks, ⟨ko, kc, hke, hk1, hk2', hk3⟩, hk4⟩ := hkv0
    subst hke
    have hs0 := mkR_size ha (.slice none 0 0)
    have hsk := mkR_size ha (.slice ko ks.length kc)
    have hset := mkR_set ha (.slice none 0 0) (.slice ko ks.length kc)
    have hkone : (Value.slice ko ks.length kc).oneCell' = true := rfl
    clear hk3 hk4
    have HXA : ∀ c o, (∀ j v, (mkR a (.slice ko ks.length kc))[j]? = some v → c (o + j) = v) → MkC O w c o (a, key) := MkC.ofRow (m := (a, key)) ha hkv
    have HMV : ∀ (c c' : Nat → Value) (o : Nat) (y : Nat × Nat), (∀ j, j < 21 → c' (o + j) = c (o + j)) → MkC O w c o y → MkC O w c' o y := fun c c' o y q k => MkC.move q k
    go_enter Hvah.func62, Hvah.ntmps62
    go_wp2_with (first | ((with_reducible (refine Veil.out ?_; apply wl_box)); (case hx => rfl)) | ((with_reducible (refine Veil.out ?_; apply wl_loadR rt25)); (case hx => rfl); (case hr => exact hA0); (case hn => exact hsa)) | (go_at_call 138; refine HW.mono ?_; rintro e w1 ⟨rfl, he⟩; have kk := k2 _ (hE0.trans he)))
    go_loopw [6, 7, 19] (fun ov lv ix wr => ∃ k out laid, k ≤ l.length ∧ ix = .int .i64 (k : Nat) ∧ lv = .bool laid ∧ out.length ≤ 2 * k ∧ GRow 241 21 (MkC O w) (fun b => (w.alloc (.cells (av a) 31)).heap.size ≤ b) wr ov out ∧ Hid (out ++ insG mkS (a, key) laid (l.drop k) = insG mkS (a, key) false l) ∧ Ext (w.alloc (.cells (av a) 31)) wr) (fun _ _ ix _ => l.length - (intOf ix).toNat)
    case atStart => exact ⟨0, [], false, by omega, rfl, rfl, by simp, Or.inl ⟨rfl, rfl⟩, by simp [Hid], he⟩
    case round =>
      obtain ⟨k, out, laid, hk, rfl, rfl, hol, hG, hinv, hE⟩ := hrel
      by_cases hlt2 : k < l.length
      · have hki : (k : Int) < l.length := by omega
        obtain ⟨b, u, rfl, hxl, hu, HR0⟩ := HRow k hlt2
        have HR := HR0 wr (hE0.trans hE)
        have hpl := hkl _ (List.getElem_mem hlt2)
        have hne : mkS l[k] ≠ mkS (a, key) := fun q => by
          obtain ⟨q1, q2⟩ := mkS_inj hpl hkey q
          have q1' : (l[k]).1 = a := q1
          have q2' : (l[k]).2 = key := q2
          exact hin (by rw [← q1', ← q2']; exact List.getElem_mem hlt2)
        have hdr : l.drop k = l[k] :: l.drop (k + 1) := List.drop_eq_getElem_cons hlt2
        have hinv2 := hinv.out
        rw [hdr, insS_cons (a, key) l[k] laid _ hne] at hinv2
        have hpk := pk_lt (a := a) (b := (l[k]).1) hkey hpl
        clear HR0 hdr hinv HRow hne hpl hkl
        generalize l[k] = p at *
        obtain ⟨x, y⟩ := p
        simp only at hxl hu HR hpk
        have HI : Hid (_ = _) := hinv2
        have HPK : Hid (mkS (a, key) < mkS (x, y) ↔ a < x ∨ (a = x ∧ key < y)) := hpk
        clear hinv2 hpk
        have hsx := av_size hxl
        have hsm := mkR_size hxl u
        have hu1 := hu.one
        have HBf := fun W => yBefore a x W ha hxl
        have HC := fun W (hW : Ext w W) => nCmp O _ u key y W (hkv.ext hW) (hu.ext hW)
        have HXX : ∀ c o, (∀ j v, (mkR x u)[j]? = some v → c (o + j) = v) → MkC O w c o (x, y) := MkC.ofRow (m := (x, y)) hxl hu
        have HLN : out.length ≤ 1048576 := by omega
        have HLN2 : (out ++ [(a, key)]).length ≤ 1048576 := by rw [List.length_append, List.length_singleton]; omega
        cases laid with
        | true =>
          go_upto_region 7 with (first | ((with_reducible (refine Veil.out ?_; apply wl_loadR rt233)); (case hx => rfl); (case hr => exact HR); (case hn => exact hsm)) | ((with_reducible (refine Veil.out ?_; apply wl_allocL alT233)); rintro B W1 he1 hth hBl0 hBg) | ((with_reducible (refine Veil.out ?_; apply wl_storeB rt233)); (case hx => rfl); (case hy => rfl); (case hn => exact hsm); (case hth => exact hth); (case hbl => exact hBl0); (case h1 => exact mkR_one hu1); rintro W2 hm2 hRm0 hBl; have hRm : Hid (RowIn W2 B 0 (mkR x u)) := hRm0; clear hRm0; have hEr2 : Ext wr W2 := Ext.trans_mod he1 hm2 (fun i hi => by have hi2 : i = B := hi; rw [hi2]; exact hBg); have hG3 := hG.ext hEr2 (fun _ _ _ k => k); have hE3 := hE.trans hEr2; clear hm2 he1 hth hBl0))
          go_upto_region 10 with (fail)
          go_wp2_with (first | ((with_reducible (refine Veil.out ?_; apply wl_loadR rt233)); (case hx => rfl); (case hr => exact hRm.out); (case hn => exact hsm)) | ((with_reducible (refine Veil.out ?_; apply wl_push sl95 (w.alloc (.cells (av a) 31)) (x, y) (mkR x u))); (case hr => exact hsm); (case hone => exact mkR_one hu1); (case hG => exact hG3); (case hE => exact hE3); (case hn => with_reducible exact HLN); (case hy => rfl); (case hs => rfl); (case hb => rfl); (case hx => with_reducible exact HXX); (case hRm => with_reducible exact HMV); intro v7 W7 hG7 hE7 hk7))
          refine ⟨⟨k + 1, out ++ [(x, y)], true, by omega, int_eq (by omega), rfl, by simp; omega, hG7, ?_, hE7⟩, by simp [intOf]; omega⟩
          have := HI.out
          simpa [Hid] using this
        | false =>
          by_cases hax : a < x
          · rw [decide_eq_true (HPK.out.2 (Or.inl hax))] at HI
            rw [decide_eq_true hax] at HBf
            go_upto_region 7 with (first | ((with_reducible (refine Veil.out ?_; apply wl_loadR rt233)); (case hx => rfl); (case hr => exact HR); (case hn => exact hsm)) | ((with_reducible (refine Veil.out ?_; apply wl_allocL alT233)); rintro B W1 he1 hth hBl0 hBg) | ((with_reducible (refine Veil.out ?_; apply wl_storeB rt233)); (case hx => rfl); (case hy => rfl); (case hn => exact hsm); (case hth => exact hth); (case hbl => exact hBl0); (case h1 => exact mkR_one hu1); rintro W2 hm2 hRm0 hBl; have hRm : Hid (RowIn W2 B 0 (mkR x u)) := hRm0; clear hRm0; have hEr2 : Ext wr W2 := Ext.trans_mod he1 hm2 (fun i hi => by have hi2 : i = B := hi; rw [hi2]; exact hBg); have hG3 := hG.ext hEr2 (fun _ _ _ k => k); have hE3 := hE.trans hEr2; clear hm2 he1 hth hBl0))
            go_wp2_with (first | ((with_reducible (refine Veil.out ?_; apply wl_loadG (gd := some (2, true)) rt25)); (case hw => kernel_rfl); (case hx => rfl); (case hr => first | (with_reducible exact HA _ hE3) | (with_reducible exact (mk_parts hRm.out hsx).1)); (case hn => first | exact hsx | exact hsa)) | (go_at_call 139; refine (HBf _).mono ?_; rintro e w4 ⟨rfl, he4⟩; replace hG3 := hG3.ext he4 (fun _ _ _ k => k); replace hE3 := hE3.trans he4; replace hRm : Hid (RowIn w4 B 0 (mkR x u)) := hRm.out.ext hBl he4; replace hBl := Nat.lt_of_lt_of_le hBl he4.size; clear he4; refine Hid.out ?_))
            unfold Hid
            go_upto_region 8 with (fail)
            go_upto_region 10 with (first | ((with_reducible (refine Veil.out ?_; apply wl_loadR rt25)); (case hx => rfl); (case hr => exact HA _ hE3); (case hn => exact hsa)) | ((with_reducible (refine Veil.out ?_; apply wl_push sl95 (w.alloc (.cells (av a) 31)) (a, key) (mkR a (.slice ko ks.length kc)))); (case hr => exact hsk); (case hone => exact mkR_one hkone); (case hG => exact hG3); (case hE => exact hE3); (case hn => with_reducible exact HLN); (case hy => rfl); (case hs => rfl); (case hb => rfl); (case hx => with_reducible exact HXA); (case hRm => with_reducible exact HMV); intro v5 W5 hG5 hE5 hk5; have hRm5 : Hid (RowIn W5 B 0 (mkR x u)) := hk5 _ _ _ (hG.ne hBg _) hBl hRm.out))
            go_wp2_with (first | ((with_reducible (refine Veil.out ?_; apply wl_loadR rt233)); (case hx => rfl); (case hr => exact hRm5.out); (case hn => exact hsm)) | ((with_reducible (refine Veil.out ?_; apply wl_push sl95 (w.alloc (.cells (av a) 31)) (x, y) (mkR x u))); (case hr => exact hsm); (case hone => exact mkR_one hu1); (case hG => exact hG5); (case hE => exact hE5); (case hn => with_reducible exact HLN2); (case hy => rfl); (case hs => rfl); (case hb => rfl); (case hx => with_reducible exact HXX); (case hRm => with_reducible exact HMV); intro v7 W7 hG7 hE7 hk7))
            refine ⟨⟨k + 1, out ++ [(a, key)] ++ [(x, y)], true, by omega, int_eq (by omega), rfl, by simp; omega, hG7, ?_, hE7⟩, by simp [intOf]; omega⟩
            have := HI.out
            simpa [Hid] using this
          · rw [decide_eq_false hax] at HBf
            by_cases hae : a = x
            · subst hae
              by_cases hky : key < y
              · rw [decide_eq_true (HPK.out.2 (Or.inr ⟨rfl, hky⟩))] at HI
                have hcy : cmpI key y < 0 := (cmpI_n key y).2 hky
                go_upto_region 7 with (first | ((with_reducible (refine Veil.out ?_; apply wl_loadR rt233)); (case hx => rfl); (case hr => exact HR); (case hn => exact hsm)) | ((with_reducible (refine Veil.out ?_; apply wl_allocL alT233)); rintro B W1 he1 hth hBl0 hBg) | ((with_reducible (refine Veil.out ?_; apply wl_storeB rt233)); (case hx => rfl); (case hy => rfl); (case hn => exact hsm); (case hth => exact hth); (case hbl => exact hBl0); (case h1 => exact mkR_one hu1); rintro W2 hm2 hRm0 hBl; have hRm : Hid (RowIn W2 B 0 (mkR a u)) := hRm0; clear hRm0; have hEr2 : Ext wr W2 := Ext.trans_mod he1 hm2 (fun i hi => by have hi2 : i = B := hi; rw [hi2]; exact hBg); have hG3 := hG.ext hEr2 (fun _ _ _ k => k); have hE3 := hE.trans hEr2; clear hm2 he1 hth hBl0))
                go_upto_region 8 with (first | ((with_reducible (refine Veil.out ?_; apply wl_loadG rt25)); (case hw => kernel_rfl); (case hx => rfl); (case hr => first | (with_reducible exact HA _ hE3) | (with_reducible exact (mk_parts hRm.out hsx).1)); (case hn => first | exact hsx | exact hsa)) | ((with_reducible (refine Veil.out ?_; apply wl_loadC one96)); (case hw => kernel_rfl); (case hx => rfl); (case hc => exact (mk_parts hRm.out hsx).2)) | (go_at_call 139; refine (HBf _).mono ?_; rintro e w4 ⟨rfl, he4⟩; replace hG3 := hG3.ext he4 (fun _ _ _ k => k); replace hE3 := hE3.trans he4; replace hRm : Hid (RowIn w4 B 0 (mkR a u)) := hRm.out.ext hBl he4; replace hBl := Nat.lt_of_lt_of_le hBl he4.size; clear he4) | (go_at_call 130; refine (HC _ (hE0.trans hE3)).mono ?_; rintro e w4 ⟨rfl, hdr⟩; have he4 := drew_ext hdr; clear hdr; replace hG3 := hG3.ext he4 (fun _ _ _ k => k); replace hE3 := hE3.trans he4; replace hRm : Hid (RowIn w4 B 0 (mkR a u)) := hRm.out.ext hBl he4; replace hBl := Nat.lt_of_lt_of_le hBl he4.size; clear he4))
                go_upto_region 10 with (first | ((with_reducible (refine Veil.out ?_; apply wl_loadR rt25)); (case hx => rfl); (case hr => exact HA _ hE3); (case hn => exact hsa)) | ((with_reducible (refine Veil.out ?_; apply wl_push sl95 (w.alloc (.cells (av a) 31)) (a, key) (mkR a (.slice ko ks.length kc)))); (case hr => exact hsk); (case hone => exact mkR_one hkone); (case hG => exact hG3); (case hE => exact hE3); (case hn => with_reducible exact HLN); (case hy => rfl); (case hs => rfl); (case hb => rfl); (case hx => with_reducible exact HXA); (case hRm => with_reducible exact HMV); intro v5 W5 hG5 hE5 hk5; have hRm5 : Hid (RowIn W5 B 0 (mkR a u)) := hk5 _ _ _ (hG.ne hBg _) hBl hRm.out))
                go_wp2_with (first | ((with_reducible (refine Veil.out ?_; apply wl_loadR rt233)); (case hx => rfl); (case hr => exact hRm5.out); (case hn => exact hsm)) | ((with_reducible (refine Veil.out ?_; apply wl_push sl95 (w.alloc (.cells (av a) 31)) (a, y) (mkR a u))); (case hr => exact hsm); (case hone => exact mkR_one hu1); (case hG => exact hG5); (case hE => exact hE5); (case hn => with_reducible exact HLN2); (case hy => rfl); (case hs => rfl); (case hb => rfl); (case hx => with_reducible exact HXX); (case hRm => with_reducible exact HMV); intro v7 W7 hG7 hE7 hk7))
                refine ⟨⟨k + 1, out ++ [(a, key)] ++ [(a, y)], true, by omega, int_eq (by omega), rfl, by simp; omega, hG7, ?_, hE7⟩, by simp [intOf]; omega⟩
                have := HI.out
                simpa [Hid] using this
              · rw [decide_eq_false (fun q => by rcases HPK.out.1 q with q | ⟨_, q⟩ <;> omega)] at HI
                have hcy : ¬ cmpI key y < 0 := fun q => hky ((cmpI_n key y).1 q)
                go_upto_region 7 with (first | ((with_reducible (refine Veil.out ?_; apply wl_loadR rt233)); (case hx => rfl); (case hr => exact HR); (case hn => exact hsm)) | ((with_reducible (refine Veil.out ?_; apply wl_allocL alT233)); rintro B W1 he1 hth hBl0 hBg) | ((with_reducible (refine Veil.out ?_; apply wl_storeB rt233)); (case hx => rfl); (case hy => rfl); (case hn => exact hsm); (case hth => exact hth); (case hbl => exact hBl0); (case h1 => exact mkR_one hu1); rintro W2 hm2 hRm0 hBl; have hRm : Hid (RowIn W2 B 0 (mkR a u)) := hRm0; clear hRm0; have hEr2 : Ext wr W2 := Ext.trans_mod he1 hm2 (fun i hi => by have hi2 : i = B := hi; rw [hi2]; exact hBg); have hG3 := hG.ext hEr2 (fun _ _ _ k => k); have hE3 := hE.trans hEr2; clear hm2 he1 hth hBl0))
                go_upto_region 10 with (first | ((with_reducible (refine Veil.out ?_; apply wl_loadG rt25)); (case hw => kernel_rfl); (case hx => rfl); (case hr => first | (with_reducible exact HA _ hE3) | (with_reducible exact (mk_parts hRm.out hsx).1)); (case hn => first | exact hsx | exact hsa)) | ((with_reducible (refine Veil.out ?_; apply wl_loadC one96)); (case hw => kernel_rfl); (case hx => rfl); (case hc => exact (mk_parts hRm.out hsx).2)) | (go_at_call 139; refine (HBf _).mono ?_; rintro e w4 ⟨rfl, he4⟩; replace hG3 := hG3.ext he4 (fun _ _ _ k => k); replace hE3 := hE3.trans he4; replace hRm : Hid (RowIn w4 B 0 (mkR a u)) := hRm.out.ext hBl he4; replace hBl := Nat.lt_of_lt_of_le hBl he4.size; clear he4) | (go_at_call 130; refine (HC _ (hE0.trans hE3)).mono ?_; rintro e w4 ⟨rfl, hdr⟩; have he4 := drew_ext hdr; clear hdr; replace hG3 := hG3.ext he4 (fun _ _ _ k => k); replace hE3 := hE3.trans he4; replace hRm : Hid (RowIn w4 B 0 (mkR a u)) := hRm.out.ext hBl he4; replace hBl := Nat.lt_of_lt_of_le hBl he4.size; clear he4))
                go_wp2_with (first | ((with_reducible (refine Veil.out ?_; apply wl_loadR rt233)); (case hx => rfl); (case hr => exact hRm.out); (case hn => exact hsm)) | ((with_reducible (refine Veil.out ?_; apply wl_push sl95 (w.alloc (.cells (av a) 31)) (a, y) (mkR a u))); (case hr => exact hsm); (case hone => exact mkR_one hu1); (case hG => exact hG3); (case hE => exact hE3); (case hn => with_reducible exact HLN); (case hy => rfl); (case hs => rfl); (case hb => rfl); (case hx => with_reducible exact HXX); (case hRm => with_reducible exact HMV); intro v7 W7 hG7 hE7 hk7))
                refine ⟨⟨k + 1, out ++ [(a, y)], false, by omega, int_eq (by omega), rfl, by simp; omega, hG7, ?_, hE7⟩, by simp [intOf]; omega⟩
                have := HI.out
                simpa [Hid] using this
            · rw [decide_eq_false (fun q => by rcases HPK.out.1 q with q | ⟨q, _⟩ <;> omega)] at HI
              go_upto_region 7 with (first | ((with_reducible (refine Veil.out ?_; apply wl_loadR rt233)); (case hx => rfl); (case hr => exact HR); (case hn => exact hsm)) | ((with_reducible (refine Veil.out ?_; apply wl_allocL alT233)); rintro B W1 he1 hth hBl0 hBg) | ((with_reducible (refine Veil.out ?_; apply wl_storeB rt233)); (case hx => rfl); (case hy => rfl); (case hn => exact hsm); (case hth => exact hth); (case hbl => exact hBl0); (case h1 => exact mkR_one hu1); rintro W2 hm2 hRm0 hBl; have hRm : Hid (RowIn W2 B 0 (mkR x u)) := hRm0; clear hRm0; have hEr2 : Ext wr W2 := Ext.trans_mod he1 hm2 (fun i hi => by have hi2 : i = B := hi; rw [hi2]; exact hBg); have hG3 := hG.ext hEr2 (fun _ _ _ k => k); have hE3 := hE.trans hEr2; clear hm2 he1 hth hBl0))
              go_upto_region 10 with (first | ((with_reducible (refine Veil.out ?_; apply wl_loadG rt25)); (case hw => kernel_rfl); (case hx => rfl); (case hr => first | (with_reducible exact HA _ hE3) | (with_reducible exact (mk_parts hRm.out hsx).1)); (case hn => first | exact hsx | exact hsa)) | ((with_reducible (refine Veil.out ?_; apply wl_loadC one96)); (case hw => kernel_rfl); (case hx => rfl); (case hc => exact (mk_parts hRm.out hsx).2)) | (go_at_call 139; refine (HBf _).mono ?_; rintro e w4 ⟨rfl, he4⟩; replace hG3 := hG3.ext he4 (fun _ _ _ k => k); replace hE3 := hE3.trans he4; replace hRm : Hid (RowIn w4 B 0 (mkR x u)) := hRm.out.ext hBl he4; replace hBl := Nat.lt_of_lt_of_le hBl he4.size; clear he4) | (go_at_call 130; refine (HC _ (hE0.trans hE3)).mono ?_; rintro e w4 ⟨rfl, hdr⟩; have he4 := drew_ext hdr; clear hdr; replace hG3 := hG3.ext he4 (fun _ _ _ k => k); replace hE3 := hE3.trans he4; replace hRm : Hid (RowIn w4 B 0 (mkR x u)) := hRm.out.ext hBl he4; replace hBl := Nat.lt_of_lt_of_le hBl he4.size; clear he4))
              go_wp2_with (first | ((with_reducible (refine Veil.out ?_; apply wl_loadR rt233)); (case hx => rfl); (case hr => exact hRm.out); (case hn => exact hsm)) | ((with_reducible (refine Veil.out ?_; apply wl_push sl95 (w.alloc (.cells (av a) 31)) (x, y) (mkR x u))); (case hr => exact hsm); (case hone => exact mkR_one hu1); (case hG => exact hG3); (case hE => exact hE3); (case hn => with_reducible exact HLN); (case hy => rfl); (case hs => rfl); (case hb => rfl); (case hx => with_reducible exact HXX); (case hRm => with_reducible exact HMV); intro v7 W7 hG7 hE7 hk7))
              refine ⟨⟨k + 1, out ++ [(x, y)], false, by omega, int_eq (by omega), rfl, by simp; omega, hG7, ?_, hE7⟩, by simp [intOf]; omega⟩
              have := HI.out
              simpa [Hid] using this
      · have hkn : k = l.length := by omega
        have hki : ¬ (k : Int) < l.length := by omega
        have hinv2 := hinv.out
        rw [List.drop_of_length_le (by omega)] at hinv2
        have hYl : Y < (w.alloc (.cells (av a) 31)).heap.size := by have := hB.lt; simp; omega
        have hfin : ∀ (r : Value) (L : List (Nat × Nat)) (W W2 : World), GRow 241 21 (MkC O w) (fun b => (w.alloc (.cells (av a) 31)).heap.size ≤ b) W r L → Ext (w.alloc (.cells (av a) 31)) W → Mod (· = Y) W W2 → MarkL O W2 r L := fun r L W W2 hr he hm => by
          have h1 : Ext w W := hE0.trans he
          refine hr.mono (fun _ _ _ k => (⟨k.addr, k.aLt, (k.key.ext h1).keep hm (fun q hq e => hq (e ▸ hY))⟩ : MkC O W2 _ _ _)) (fun q _ hq => fun hOq => by have := hO q hOq; simp at hq; omega) (fun q _ _ _ k hq => k.mod hm (fun e => by rw [e] at hq; omega))
        have HLN : out.length ≤ 1048576 := by omega
        cases laid with
        | true =>
          have e3 : out = insG mkS (a, key) false l := by simpa [insG] using hinv2
          go_wp2_with (first | ((with_reducible (refine Veil.out ?_; apply wl_store1 one95)); (case hx => rfl); (case hy => rfl); (case h1 => first | (obtain ⟨q1, q2, q3, _⟩ := GRow.slice hG5; rw [q3]; rfl) | (obtain ⟨q1, q2, q3, _⟩ := GRow.slice hG; rw [q3]; rfl)); (case hB => first | exact hB.ext (hE0.trans hE5) | exact hB.ext (hE0.trans hE)); (case ho => omega); rintro WY hBY hmY))
          refine bodyPost_end (results_none rfl _ _ _) rfl ?_
          first | exact ⟨_, rfl, hBY, by rw [← e3]; exact hfin _ _ _ _ hG hE hmY, (Ext.mod (hE0.trans hE) _).trans hmY⟩ | exact ⟨rfl, _, hBY, by rw [← e3]; exact hfin _ _ _ _ hG hE hmY, (Ext.mod (hE0.trans hE) _).trans hmY⟩
        | false =>
          have e3 : out ++ [(a, key)] = insG mkS (a, key) false l := by simpa [insG] using hinv2
          go_wp2_with (first | ((with_reducible (refine Veil.out ?_; apply wl_loadR rt25)); (case hx => rfl); (case hr => exact HA _ hE); (case hn => exact hsa)) | ((with_reducible (refine Veil.out ?_; apply wl_push sl95 (w.alloc (.cells (av a) 31)) (a, key) (mkR a (.slice ko ks.length kc)))); (case hr => exact hsk); (case hone => exact mkR_one hkone); (case hG => exact hG); (case hE => exact hE); (case hn => with_reducible exact HLN); (case hy => rfl); (case hs => rfl); (case hb => rfl); (case hx => with_reducible exact HXA); (case hRm => with_reducible exact HMV); intro v5 W5 hG5 hE5 hk5) | ((with_reducible (refine Veil.out ?_; apply wl_store1 one95)); (case hx => rfl); (case hy => rfl); (case h1 => first | (obtain ⟨q1, q2, q3, _⟩ := GRow.slice hG5; rw [q3]; rfl) | (obtain ⟨q1, q2, q3, _⟩ := GRow.slice hG; rw [q3]; rfl)); (case hB => first | exact hB.ext (hE0.trans hE5) | exact hB.ext (hE0.trans hE)); (case ho => omega); rintro WY hBY hmY))
          refine bodyPost_end (results_none rfl _ _ _) rfl ?_
          first | exact ⟨_, rfl, hBY, by rw [← e3]; exact hfin _ _ _ _ hG5 hE5 hmY, (Ext.mod (hE0.trans hE5) _).trans hmY⟩ | exact ⟨rfl, _, hBY, by rw [← e3]; exact hfin _ _ _ _ hG5 hE5 hmY, (Ext.mod (hE0.trans hE5) _).trans hmY⟩
end
end Go.Proofs.YgvahwGreat
