import Derived.Test.YgvahwGreatTm
namespace Go.Proofs.YgvahwGreat
open Go.RowKit
set_option linter.unusedSimpArgs false

theorem insF_cons (p x : Nat × Nat) (laid : Bool) (l : List (Nat × Nat)) : insG Prod.fst p laid (x :: l) = (if !laid && decide (p.1 ≤ x.1) then [p] else []) ++ ((if x.1 = p.1 then [] else [x]) ++ insG Prod.fst p (laid || decide (p.1 ≤ x.1)) l) := by
  rw [insG]
theorem SlC.ofRow {O : Nat → Prop} {w : World} {m : Nat × Nat} {u v : Value} (hu : NV O w u m.1) (hv : NV O w v m.2) : ∀ c o, (∀ j z, (#[u, v] : Array Value)[j]? = some z → c (o + j) = z) → SlC O w c o m := fun c o h => by
  have h0 := h 0 u rfl
  have h1 := h 1 v rfl
  rw [Nat.add_zero] at h0
  exact ⟨by rw [h0]; exact hu, by rw [h1]; exact hv⟩
theorem SlC.move {O : Nat → Prop} {w : World} {c c' : Nat → Value} {o : Nat} {m : Nat × Nat} (hc : ∀ j, j < 2 → c' (o + j) = c (o + j)) (h : SlC O w c o m) : SlC O w c' o m :=
  ⟨by have := hc 0 (by omega); rw [Nat.add_zero] at this; rw [this]; exact h.key, by rw [hc 1 (by omega)]; exact h.val⟩
theorem SlC.row {O : Nat → Prop} {w W : World} {c : Nat → Value} {o b n : Nat} {t : TypeId} {m : Nat × Nat} (_h : SlC O w c o m) (hB : Blk W b n t c) (hn : o + 2 ≤ n) : RowIn W b o #[c o, c (o + 1)] := fun i v hv => by
  match i, hv with
  | 0, hv => simp at hv; subst hv; exact hB.cell (by omega)
  | 1, hv => simp at hv; subst hv; exact hB.cell (by omega)
  | (i + 2), hv => simp at hv
theorem alT116 : AlT 125 2 := alT_of (by kernel_rfl)
theorem one106 : OneT 119 := oneT_of (by kernel_rfl) (by kernel_rfl)
theorem bytes116 : Hvah.t125.bytes = 48 := by kernel_rfl
theorem sl106 : SlT 119 125 2 := ⟨⟨Hvah.t125, .agg #[.slice none 0 0, .slice none 0 0], by kernel_rfl, by kernel_rfl, by kernel_rfl, by kernel_rfl, rfl, by rw [bytes116]; decide⟩, by decide, by decide⟩
theorem z108 : zeroOf Hvah.prog 121 = some #[.int .u8 0, .int .u8 0, .int .u8 0, .int .u8 0, .int .u8 0, .int .u8 0, .int .u8 0, .int .u8 0, .int .u8 0, .int .u8 0, .int .u8 0, .int .u8 0, .int .u8 0, .int .u8 0, .int .u8 0, .int .u8 0, .int .u8 0, .int .u8 0, .int .u8 0, .int .u8 0, .slice none 0 0, .slice none 0 0, .slice none 0 0, .slice none 0 0] := by kernel_rfl
/-- An account's cells behind a change of its last. -/
theorem ac_row {a : Nat} (ha : a < 2 ^ 160) (z : Nat → Value) (u1 u2 u3 u4 v : Value) : rowOf (updv (layv z 0 (acR a u1 u2 u3 u4)) 23 v) 0 24 = acR a u1 u2 u3 v := by
  have hs := av_size ha
  refine ext_cf (by rw [rowOf_size, acR_size ha]) (fun i hi => ?_)
  rw [rowOf_size] at hi
  rw [cf_rowOf _ _ _ hi, Nat.zero_add]
  by_cases h : i = 23
  · subst h
    rw [updv_same, acR, cf_append, if_neg (by omega), hs]; rfl
  · rw [updv_ne _ _ h]
    have := layv_in z 0 (acR a u1 u2 u3 u4) (j := i) (by rw [acR_size ha]; exact hi)
    rw [Nat.zero_add] at this
    rw [this, acR, acR, cf_append, cf_append, hs]
    by_cases h20 : i < 20
    · rw [if_pos h20, if_pos h20]
    · rw [if_neg h20, if_neg h20]
      have h3 : i = 20 ∨ i = 21 ∨ i = 22 := by omega
      rcases h3 with rfl | rfl | rfl <;> rfl
section
variable {O : Nat → Prop} {w : World} {Y n : Nat} {t : TypeId} {c : Nat → Value}
theorem SloL.one' {R : (Nat → Value) → Nat → Nat × Nat → Prop} {T : Nat → Prop} {w : World} {v : Value} {l : List (Nat × Nat)} {ty : TypeId} {sz : Nat} (h : GRow ty sz R T w v l) : v.oneCell' = true := by
  obtain ⟨q1, q2, q3, _⟩ := GRow.slice h
  rw [q3]; rfl
set_option maxRecDepth 100000 in
set_option maxHeartbeats 6400000 in
theorem yStore (hB : Blk w Y n t c) (hn : 8 ≤ n) (hO : Small O w) (hY : O Y) (l : List YA) (h : AccL O w (c 0) l) (a : Nat) (ha : a < 2 ^ 160) (kv vv : Value) (key val : Nat) (hkv : NV O w kv key) (hvv : NV O w vv val) (hlen : l.length ≤ 100000) (hsl : ((look YA.addr a l).getD (YA.new a)).slots.length ≤ 90000) :
    Calls Hvah.prog 358 #[.pointer (some ⟨Y, 0, none⟩), .agg (av a), kv, vv] w fun e w' => ∃ v', e = .returned (.tuple #[]) ∧ Blk w' Y n t (updv c 0 v') ∧ AccL O w' v' (insG YA.addr (((look YA.addr a l).getD (YA.new a)).store key val) (((look YA.addr a l).getD (YA.new a)).store key val).void l) ∧ Mod (· = Y) w w' := by
  have hE0 : Ext w (w.alloc (.cells (av a) 31)) := (Ext.refl w).alloc _ _
  have hsa : (av a).size = 20 := av_size ha
  have HA := boxes1 w (av a) 31 _ (Ext.refl _)
  have HAc := yAccount (hB.ext hE0) hn l (AccL.ext h hE0) a ha hlen
  have hxa : ((look YA.addr a l).getD (YA.new a)).addr = a := by
    cases q : look YA.addr a l with
    | none => rfl
    | some y => exact (look_some q).2
  generalize (look YA.addr a l).getD (YA.new a) = X at *
  have HXA0 : Hid (X.addr = a) := hxa
  clear hxa
  have hkv0 := hkv
  obtain ⟨ks, ⟨ko, kc, hke, hk1, hk2', hk3⟩, hk4⟩ := hkv0
  subst hke
  have hvv0 := hvv
  obtain ⟨vs, ⟨vo, vc, hve, hv1, hv2', hv3⟩, hv4⟩ := hvv0
  subst hve
  have HBD := b116 (u := .slice ko ks.length kc) (v := .slice vo vs.length vc) rfl rfl
  clear hk3 hk4 hv3 hv4
  have HZ : ∀ W, Ext w W → Calls Hvah.prog 88 #[.slice vo vs.length vc] W fun e w' => e = .returned (.bool (decide (val = 0))) ∧ Ext W w' := fun W hW => by
    refine (nIsZero O _ _ _ (hvv.ext hW)).mono ?_
    rintro e w1 ⟨rfl, hdr⟩
    exact ⟨rfl, drew_ext hdr⟩
  have hlt : (X.slots.length : Int) ≤ 90000 := by omega
  have HSt : Hid (X.store key val = { X with slots := insG Prod.fst (key, val) (decide (val = 0)) X.slots }) := rfl
  obtain ⟨L0, hL0⟩ : ∃ b, Hid (decide (val = 0) = b) := ⟨_, rfl⟩
  rw [hL0.out] at HZ HSt
  go_enter Hvah.func358, Hvah.ntmps358
  go_upto_region 3 with (first | ((with_reducible (refine Veil.out ?_; apply wl_box)); (case hx => rfl)) | ((with_reducible (refine Veil.out ?_; apply wl_loadR rt25)); (case hx => rfl); (case hr => exact HA); (case hn => exact hsa)) | (go_at_call 53; refine HAc.mono ?_; rintro e w1 ⟨r, rfl, hr, he⟩; obtain ⟨u1, u2, u3, u4, rfl, hp⟩ := hr; rw [HXA0.out]) | ((with_reducible (refine Veil.out ?_; apply wl_allocB z108)); (case hn => rfl); intro B8 W8 he8 hB8 hg8) | ((with_reducible (refine Veil.out ?_; apply wl_storeRow rt108)); (case hx => rfl); (case hy => rfl); (case hr => exact acR_size ha _ _ _ _); (case h1 => exact acR_one hp.nonce.one hp.bal.one hp.code.one hp.slots.one); (case hB => exact hB8); (case hi => decide); intro W9 hB9 hm9))
  have hE1 : Ext w w1 := hE0.trans he
  have hE9 : Ext w1 W9 := Ext.trans_mod he8 hm9 (fun i hi => by have hi2 : i = B8 := hi; rw [hi2]; exact hg8)
  clear he hB8 hm9 HA HAc
  have hEw9 := hE1.trans hE9
  obtain ⟨o, cap, hv, hmax⟩ := GRow.slice hp.slots
  have HRow : ∀ k (hk : k < X.slots.length), ∃ b u z, o = some ⟨b, 0, none⟩ ∧ NV O w1 u (X.slots[k]).1 ∧ NV O w1 z (X.slots[k]).2 ∧ ∀ W, Ext w1 W → RowIn W b (k * 2) #[u, z] := fun k hk => by
    obtain ⟨b, cap', cc, hv', hcap, hcm, hb, hnO, hrow⟩ := GRow.at_ hp.slots (fun q => by rw [q] at hk; cases hk)
    rw [hv] at hv'
    injection hv' with hv1 _ hv2
    have hrk := hrow k hk
    exact ⟨b, _, _, hv1, hrk.key, hrk.val, fun W hW => hrk.row (hb.ext hW) (by have := Nat.mul_le_mul_right 2 (Nat.le_trans hk hcap); omega)⟩
  have k2 : ∀ W, Ext W9 W → W.cell? ⟨B8, 23, none⟩ = some (.slice o X.slots.length cap) := fun W hW => by
    rw [(hB9.ext hW).cell (by decide), ← hv]
    have := layv_in (cf #[.int .u8 0, .int .u8 0, .int .u8 0, .int .u8 0, .int .u8 0, .int .u8 0, .int .u8 0, .int .u8 0, .int .u8 0, .int .u8 0, .int .u8 0, .int .u8 0, .int .u8 0, .int .u8 0, .int .u8 0, .int .u8 0, .int .u8 0, .int .u8 0, .int .u8 0, .int .u8 0, .slice none 0 0, .slice none 0 0, .slice none 0 0, .slice none 0 0]) 0 (acR a u1 u2 u3 u4) (j := 23) (by rw [acR_size ha]; decide)
    rw [Nat.zero_add] at this
    rw [this, acR, cf_append, if_neg (by omega), hsa]; rfl
  have hB8g : w.heap.size ≤ B8 := Nat.le_trans hE1.size hg8
  have HP : ∀ (WA W W2 : World) (G : Value) (L : List (Nat × Nat)), Ext W9 WA → GRow 125 2 (SlC O w1) (fun b => WA.heap.size ≤ b) W G L → Ext WA W → Mod (· = B8) W W2 → Hid (L = insG Prod.fst (key, val) L0 X.slots) → Calls Hvah.prog 136 #[.pointer (some ⟨Y, 0, none⟩), .agg (acR a u1 u2 u3 G)] W2 fun e w' => ∃ v', e = .returned (.tuple #[]) ∧ Blk w' Y n t (updv c 0 v') ∧ AccL O w' v' (insG YA.addr (X.store key val) (X.store key val).void l) ∧ Mod (· = Y) w w' := fun WA W W2 G L hA9 hG hE hM hL => by
    have x1 : Ext w1 W2 := Ext.trans_mod ((hE9.trans hA9).trans hE) hM (fun i hi => by have hi2 : i = B8 := hi; rw [hi2]; exact hg8)
    have x0 : Ext w W2 := hE1.trans x1
    have hs : SloL O W2 G L := by
      refine hG.mono (fun _ _ _ k => (⟨k.key.ext x1, k.val.ext x1⟩ : SlC O W2 _ _ _)) (fun q _ hq => fun hOq => ?_) (fun q _ _ _ k hq => k.mod hM (fun e => ?_))
      · have h1 := hO q hOq
        have h2 := (hEw9.trans hA9).size
        omega
      · have h1 := hB9.lt
        have h2 := hA9.size
        rw [e] at hq; omega
    refine (yPut (hB.ext x0) hn (hO.ext x0) hY l (AccL.ext h x0) (X.store key val) _ ⟨u1, u2, u3, G, ?_, ?_⟩ hlen).mono ?_
    · rw [HSt.out]; show _ = Value.agg (acR X.addr u1 u2 u3 G); rw [HXA0.out]
    · rw [HSt.out]
      exact ⟨hp.aLt, hp.nonce.ext x1, hp.bal.ext x1, hp.code.ext x1, by rw [← hL.out]; exact hs⟩
    · rintro e w' ⟨v', rfl, q1, q2, q3⟩
      exact ⟨v', rfl, q1, q2, (x0.mod _).trans q3⟩
  have HXA : ∀ c o, (∀ j v, (#[.slice ko ks.length kc, .slice vo vs.length vc] : Array Value)[j]? = some v → c (o + j) = v) → SlC O w1 c o (key, val) := SlC.ofRow (m := (key, val)) (hkv.ext hE1) (hvv.ext hE1)
  have HMV : ∀ (c c' : Nat → Value) (o : Nat) (y : Nat × Nat), (∀ j, j < 2 → c' (o + j) = c (o + j)) → SlC O w1 c o y → SlC O w1 c' o y := fun c c' o y q k => SlC.move q k
  clear hv
  go_wp2_with (go_at_call 88; refine (HZ _ hEw9).mono ?_; rintro e WA ⟨rfl, he⟩; have kk := k2 _ he)
  have hEA : Ext w1 WA := hE9.trans he
  go_loopw [9, 10, 22] (fun ov lv ix wr => ∃ k out laid, k ≤ X.slots.length ∧ ix = .int .i64 (k : Nat) ∧ lv = .bool laid ∧ out.length ≤ 2 * k ∧ GRow 125 2 (SlC O w1) (fun b => WA.heap.size ≤ b) wr ov out ∧ Hid (out ++ insG Prod.fst (key, val) laid (X.slots.drop k) = insG Prod.fst (key, val) L0 X.slots) ∧ Ext WA wr) (fun _ _ ix _ => X.slots.length - (intOf ix).toNat)
  case atStart => exact ⟨0, [], L0, by omega, rfl, rfl, by simp, Or.inl ⟨rfl, rfl⟩, by simp [Hid], Ext.refl _⟩
  case round =>
    obtain ⟨k, out, laid, hk, rfl, rfl, hol, hG, hinv, hE⟩ := hrel
    by_cases hlt2 : k < X.slots.length
    · have hki : (k : Int) < X.slots.length := by omega
      obtain ⟨b, u, z, rfl, hu, hz, HR0⟩ := HRow k hlt2
      have HR := HR0 wr (hEA.trans hE)
      have hdr : X.slots.drop k = X.slots[k] :: X.slots.drop (k + 1) := List.drop_eq_getElem_cons hlt2
      have hinv2 := hinv.out
      rw [hdr, insF_cons (key, val) X.slots[k] laid _] at hinv2
      clear HR0 hdr hinv HRow
      generalize X.slots[k] = p at *
      obtain ⟨y, v⟩ := p
      simp only at hu hz HR hinv2
      have HI : Hid (_ = _) := hinv2
      clear hinv2
      have hu1 := hu.one
      have hz1 := hz.one
      have HC1 := fun W (hW : Ext w1 W) => nCmp O u _ y key W (hu.ext hW) ((hkv.ext hE1).ext hW)
      have HXX : ∀ c o, (∀ j q, (#[u, z] : Array Value)[j]? = some q → c (o + j) = q) → SlC O w1 c o (y, v) := SlC.ofRow (m := (y, v)) hu hz
      have HLN : out.length ≤ 1048576 := by omega
      have HLN2 : (out ++ [(key, val)]).length ≤ 1048576 := by rw [List.length_append, List.length_singleton]; omega
      rcases Nat.lt_trichotomy key y with hky | hky | hky
      · cases laid with
        | true =>
          rw [decide_eq_true (p := key ≤ y) (by omega)] at HI
          rw [if_neg (show ¬ y = key by omega)] at HI
          have hcy : ¬ cmpI y key < 0 := fun q => absurd ((cmpI_n y key).1 q) (by omega)
          have hcz : ¬ cmpI y key = 0 := fun q => absurd ((cmpI_z y key).1 q) (by omega)
          have hcz2 : (cmpI y key == 0) = false := by simpa using hcz
          go_wp2_with (first | ((with_reducible (refine Veil.out ?_; apply wl_allocL alT116)); rintro B W1 he1 hth hBl0 hBg) | ((with_reducible (refine Veil.out ?_; apply wl_storeB rt116)); (case hx => rfl); (case hy => rfl); (case hn => rfl); (case hth => exact hth); (case hbl => exact hBl0); (case h1 => exact two_one hu1 hz1); rintro W2 hm2 hRm0 hBl; have hRm : Hid (RowIn W2 B 0 #[u, z]) := hRm0; clear hRm0; have hEr2 : Ext wr W2 := Ext.trans_mod he1 hm2 (fun i hi => by have hi2 : i = B := hi; rw [hi2]; exact hBg); have hG3 := hG.ext hEr2 (fun _ _ _ k => k); have hE3 := hE.trans hEr2; clear hm2 he1 hth hBl0) | ((with_reducible (refine Veil.out ?_; apply wl_loadC one96)); (case hw => rfl); (case hx => rfl); (case hc => exact (two_parts hRm.out).1)) | ((with_reducible (refine Veil.out ?_; apply wl_loadR rt116)); (case hx => rfl); (case hr => first | (with_reducible exact HR) | (with_reducible exact hRm5.out) | (with_reducible exact hRm.out)); (case hn => rfl)) | (go_at_call 130; (with_reducible refine (HC1 _ (hEA.trans hE3)).mono ?_); rintro e w4 ⟨rfl, hdr⟩; have he4 := drew_ext hdr; clear hdr; replace hG3 := hG3.ext he4 (fun _ _ _ k => k); replace hE3 := hE3.trans he4; replace hRm : Hid (RowIn w4 B 0 #[u, z]) := hRm.out.ext hBl he4; replace hBl := Nat.lt_of_lt_of_le hBl he4.size; clear he4) | ((with_reducible (refine Veil.out ?_; apply wl_buildV (hb := HBD))); (case he => (simp only [List.map_toArray, List.map_cons, List.map_nil]; rfl))) | ((with_reducible (refine Veil.out ?_; apply wl_push sl106 WA (y, v) #[u, z])); (case hr => exact rfl); (case hone => exact two_one hu1 hz1); (case hG => exact hG5); (case hE => exact hE5); (case hn => with_reducible exact HLN2); (case hy => rfl); (case hs => rfl); (case hb => rfl); (case hx => with_reducible exact HXX); (case hRm => with_reducible exact HMV); intro v7 W7 hG7 hE7 hk7) | ((with_reducible (refine Veil.out ?_; apply wl_push sl106 WA (key, val) #[.slice ko ks.length kc, .slice vo vs.length vc])); (case hr => exact rfl); (case hone => exact two_one rfl rfl); (case hG => exact hG3); (case hE => exact hE3); (case hn => with_reducible exact HLN); (case hy => rfl); (case hs => rfl); (case hb => rfl); (case hx => with_reducible exact HXA); (case hRm => with_reducible exact HMV); intro v5 W5 hG5 hE5 hk5; have hRm5 : Hid (RowIn W5 B 0 #[u, z]) := hk5 _ _ _ (hG.ne hBg _) hBl hRm.out; clear hRm hG3 hE3) | ((with_reducible (refine Veil.out ?_; apply wl_push sl106 WA (y, v) #[u, z])); (case hr => exact rfl); (case hone => exact two_one hu1 hz1); (case hG => exact hG3); (case hE => exact hE3); (case hn => with_reducible exact HLN); (case hy => rfl); (case hs => rfl); (case hb => rfl); (case hx => with_reducible exact HXX); (case hRm => with_reducible exact HMV); intro v7 W7 hG7 hE7 hk7))
          refine ⟨⟨k + 1, out ++ [(y, v)], true, by omega, int_eq (by omega), rfl, by first | omega | (simp; omega), hG7, ?_, hE7⟩, by simp [intOf]; omega⟩
          have := HI.out
          simpa [Hid] using this
        | false =>
          rw [decide_eq_true (p := key ≤ y) (by omega)] at HI
          rw [if_neg (show ¬ y = key by omega)] at HI
          have hcy : ¬ cmpI y key < 0 := fun q => absurd ((cmpI_n y key).1 q) (by omega)
          have hcz : ¬ cmpI y key = 0 := fun q => absurd ((cmpI_z y key).1 q) (by omega)
          have hcz2 : (cmpI y key == 0) = false := by simpa using hcz
          go_wp2_with (first | ((with_reducible (refine Veil.out ?_; apply wl_allocL alT116)); rintro B W1 he1 hth hBl0 hBg) | ((with_reducible (refine Veil.out ?_; apply wl_storeB rt116)); (case hx => rfl); (case hy => rfl); (case hn => rfl); (case hth => exact hth); (case hbl => exact hBl0); (case h1 => exact two_one hu1 hz1); rintro W2 hm2 hRm0 hBl; have hRm : Hid (RowIn W2 B 0 #[u, z]) := hRm0; clear hRm0; have hEr2 : Ext wr W2 := Ext.trans_mod he1 hm2 (fun i hi => by have hi2 : i = B := hi; rw [hi2]; exact hBg); have hG3 := hG.ext hEr2 (fun _ _ _ k => k); have hE3 := hE.trans hEr2; clear hm2 he1 hth hBl0) | ((with_reducible (refine Veil.out ?_; apply wl_loadC one96)); (case hw => rfl); (case hx => rfl); (case hc => exact (two_parts hRm.out).1)) | ((with_reducible (refine Veil.out ?_; apply wl_loadR rt116)); (case hx => rfl); (case hr => first | (with_reducible exact HR) | (with_reducible exact hRm5.out) | (with_reducible exact hRm.out)); (case hn => rfl)) | (go_at_call 130; (with_reducible refine (HC1 _ (hEA.trans hE3)).mono ?_); rintro e w4 ⟨rfl, hdr⟩; have he4 := drew_ext hdr; clear hdr; replace hG3 := hG3.ext he4 (fun _ _ _ k => k); replace hE3 := hE3.trans he4; replace hRm : Hid (RowIn w4 B 0 #[u, z]) := hRm.out.ext hBl he4; replace hBl := Nat.lt_of_lt_of_le hBl he4.size; clear he4) | ((with_reducible (refine Veil.out ?_; apply wl_buildV (hb := HBD))); (case he => (simp only [List.map_toArray, List.map_cons, List.map_nil]; rfl))) | ((with_reducible (refine Veil.out ?_; apply wl_push sl106 WA (y, v) #[u, z])); (case hr => exact rfl); (case hone => exact two_one hu1 hz1); (case hG => exact hG5); (case hE => exact hE5); (case hn => with_reducible exact HLN2); (case hy => rfl); (case hs => rfl); (case hb => rfl); (case hx => with_reducible exact HXX); (case hRm => with_reducible exact HMV); intro v7 W7 hG7 hE7 hk7) | ((with_reducible (refine Veil.out ?_; apply wl_push sl106 WA (key, val) #[.slice ko ks.length kc, .slice vo vs.length vc])); (case hr => exact rfl); (case hone => exact two_one rfl rfl); (case hG => exact hG3); (case hE => exact hE3); (case hn => with_reducible exact HLN); (case hy => rfl); (case hs => rfl); (case hb => rfl); (case hx => with_reducible exact HXA); (case hRm => with_reducible exact HMV); intro v5 W5 hG5 hE5 hk5; have hRm5 : Hid (RowIn W5 B 0 #[u, z]) := hk5 _ _ _ (hG.ne hBg _) hBl hRm.out; clear hRm hG3 hE3) | ((with_reducible (refine Veil.out ?_; apply wl_push sl106 WA (y, v) #[u, z])); (case hr => exact rfl); (case hone => exact two_one hu1 hz1); (case hG => exact hG3); (case hE => exact hE3); (case hn => with_reducible exact HLN); (case hy => rfl); (case hs => rfl); (case hb => rfl); (case hx => with_reducible exact HXX); (case hRm => with_reducible exact HMV); intro v7 W7 hG7 hE7 hk7))
          refine ⟨⟨k + 1, out ++ [(key, val)] ++ [(y, v)], true, by omega, int_eq (by omega), rfl, by first | omega | (simp; omega), hG7, ?_, hE7⟩, by simp [intOf]; omega⟩
          have := HI.out
          simpa [Hid] using this
      · subst hky
        cases laid with
        | true =>
          rw [decide_eq_true (p := key ≤ key) (by omega)] at HI
          rw [if_pos rfl] at HI
          have hcz : cmpI key key = 0 := (cmpI_z key key).2 rfl
          go_wp2_with (first | ((with_reducible (refine Veil.out ?_; apply wl_allocL alT116)); rintro B W1 he1 hth hBl0 hBg) | ((with_reducible (refine Veil.out ?_; apply wl_storeB rt116)); (case hx => rfl); (case hy => rfl); (case hn => rfl); (case hth => exact hth); (case hbl => exact hBl0); (case h1 => exact two_one hu1 hz1); rintro W2 hm2 hRm0 hBl; have hRm : Hid (RowIn W2 B 0 #[u, z]) := hRm0; clear hRm0; have hEr2 : Ext wr W2 := Ext.trans_mod he1 hm2 (fun i hi => by have hi2 : i = B := hi; rw [hi2]; exact hBg); have hG3 := hG.ext hEr2 (fun _ _ _ k => k); have hE3 := hE.trans hEr2; clear hm2 he1 hth hBl0) | ((with_reducible (refine Veil.out ?_; apply wl_loadC one96)); (case hw => rfl); (case hx => rfl); (case hc => exact (two_parts hRm.out).1)) | ((with_reducible (refine Veil.out ?_; apply wl_loadR rt116)); (case hx => rfl); (case hr => first | (with_reducible exact HR) | (with_reducible exact hRm5.out) | (with_reducible exact hRm.out)); (case hn => rfl)) | (go_at_call 130; (with_reducible refine (HC1 _ (hEA.trans hE3)).mono ?_); rintro e w4 ⟨rfl, hdr⟩; have he4 := drew_ext hdr; clear hdr; replace hG3 := hG3.ext he4 (fun _ _ _ k => k); replace hE3 := hE3.trans he4; replace hRm : Hid (RowIn w4 B 0 #[u, z]) := hRm.out.ext hBl he4; replace hBl := Nat.lt_of_lt_of_le hBl he4.size; clear he4) | ((with_reducible (refine Veil.out ?_; apply wl_buildV (hb := HBD))); (case he => (simp only [List.map_toArray, List.map_cons, List.map_nil]; rfl))) | ((with_reducible (refine Veil.out ?_; apply wl_push sl106 WA (key, v) #[u, z])); (case hr => exact rfl); (case hone => exact two_one hu1 hz1); (case hG => exact hG5); (case hE => exact hE5); (case hn => with_reducible exact HLN2); (case hy => rfl); (case hs => rfl); (case hb => rfl); (case hx => with_reducible exact HXX); (case hRm => with_reducible exact HMV); intro v7 W7 hG7 hE7 hk7) | ((with_reducible (refine Veil.out ?_; apply wl_push sl106 WA (key, val) #[.slice ko ks.length kc, .slice vo vs.length vc])); (case hr => exact rfl); (case hone => exact two_one rfl rfl); (case hG => exact hG3); (case hE => exact hE3); (case hn => with_reducible exact HLN); (case hy => rfl); (case hs => rfl); (case hb => rfl); (case hx => with_reducible exact HXA); (case hRm => with_reducible exact HMV); intro v5 W5 hG5 hE5 hk5; have hRm5 : Hid (RowIn W5 B 0 #[u, z]) := hk5 _ _ _ (hG.ne hBg _) hBl hRm.out; clear hRm hG3 hE3) | ((with_reducible (refine Veil.out ?_; apply wl_push sl106 WA (key, v) #[u, z])); (case hr => exact rfl); (case hone => exact two_one hu1 hz1); (case hG => exact hG3); (case hE => exact hE3); (case hn => with_reducible exact HLN); (case hy => rfl); (case hs => rfl); (case hb => rfl); (case hx => with_reducible exact HXX); (case hRm => with_reducible exact HMV); intro v7 W7 hG7 hE7 hk7))
          refine ⟨⟨k + 1, out, true, by omega, int_eq (by omega), rfl, by first | omega | (simp; omega), hG3, ?_, hE3⟩, by simp [intOf]; omega⟩
          have := HI.out
          simpa [Hid] using this
        | false =>
          rw [decide_eq_true (p := key ≤ key) (by omega)] at HI
          rw [if_pos rfl] at HI
          have hcz : cmpI key key = 0 := (cmpI_z key key).2 rfl
          go_wp2_with (first | ((with_reducible (refine Veil.out ?_; apply wl_allocL alT116)); rintro B W1 he1 hth hBl0 hBg) | ((with_reducible (refine Veil.out ?_; apply wl_storeB rt116)); (case hx => rfl); (case hy => rfl); (case hn => rfl); (case hth => exact hth); (case hbl => exact hBl0); (case h1 => exact two_one hu1 hz1); rintro W2 hm2 hRm0 hBl; have hRm : Hid (RowIn W2 B 0 #[u, z]) := hRm0; clear hRm0; have hEr2 : Ext wr W2 := Ext.trans_mod he1 hm2 (fun i hi => by have hi2 : i = B := hi; rw [hi2]; exact hBg); have hG3 := hG.ext hEr2 (fun _ _ _ k => k); have hE3 := hE.trans hEr2; clear hm2 he1 hth hBl0) | ((with_reducible (refine Veil.out ?_; apply wl_loadC one96)); (case hw => rfl); (case hx => rfl); (case hc => exact (two_parts hRm.out).1)) | ((with_reducible (refine Veil.out ?_; apply wl_loadR rt116)); (case hx => rfl); (case hr => first | (with_reducible exact HR) | (with_reducible exact hRm5.out) | (with_reducible exact hRm.out)); (case hn => rfl)) | (go_at_call 130; (with_reducible refine (HC1 _ (hEA.trans hE3)).mono ?_); rintro e w4 ⟨rfl, hdr⟩; have he4 := drew_ext hdr; clear hdr; replace hG3 := hG3.ext he4 (fun _ _ _ k => k); replace hE3 := hE3.trans he4; replace hRm : Hid (RowIn w4 B 0 #[u, z]) := hRm.out.ext hBl he4; replace hBl := Nat.lt_of_lt_of_le hBl he4.size; clear he4) | ((with_reducible (refine Veil.out ?_; apply wl_buildV (hb := HBD))); (case he => (simp only [List.map_toArray, List.map_cons, List.map_nil]; rfl))) | ((with_reducible (refine Veil.out ?_; apply wl_push sl106 WA (key, v) #[u, z])); (case hr => exact rfl); (case hone => exact two_one hu1 hz1); (case hG => exact hG5); (case hE => exact hE5); (case hn => with_reducible exact HLN2); (case hy => rfl); (case hs => rfl); (case hb => rfl); (case hx => with_reducible exact HXX); (case hRm => with_reducible exact HMV); intro v7 W7 hG7 hE7 hk7) | ((with_reducible (refine Veil.out ?_; apply wl_push sl106 WA (key, val) #[.slice ko ks.length kc, .slice vo vs.length vc])); (case hr => exact rfl); (case hone => exact two_one rfl rfl); (case hG => exact hG3); (case hE => exact hE3); (case hn => with_reducible exact HLN); (case hy => rfl); (case hs => rfl); (case hb => rfl); (case hx => with_reducible exact HXA); (case hRm => with_reducible exact HMV); intro v5 W5 hG5 hE5 hk5; have hRm5 : Hid (RowIn W5 B 0 #[u, z]) := hk5 _ _ _ (hG.ne hBg _) hBl hRm.out; clear hRm hG3 hE3) | ((with_reducible (refine Veil.out ?_; apply wl_push sl106 WA (key, v) #[u, z])); (case hr => exact rfl); (case hone => exact two_one hu1 hz1); (case hG => exact hG3); (case hE => exact hE3); (case hn => with_reducible exact HLN); (case hy => rfl); (case hs => rfl); (case hb => rfl); (case hx => with_reducible exact HXX); (case hRm => with_reducible exact HMV); intro v7 W7 hG7 hE7 hk7))
          refine ⟨⟨k + 1, out ++ [(key, val)], true, by omega, int_eq (by omega), rfl, by first | omega | (simp; omega), hG5, ?_, hE5⟩, by simp [intOf]; omega⟩
          have := HI.out
          simpa [Hid] using this
      · cases laid with
        | true =>
          rw [decide_eq_false (p := key ≤ y) (by omega)] at HI
          rw [if_neg (show ¬ y = key by omega)] at HI
          have hcy : cmpI y key < 0 := (cmpI_n y key).2 (by omega)
          have hcz : ¬ cmpI y key = 0 := fun q => absurd ((cmpI_z y key).1 q) (by omega)
          have hcz2 : (cmpI y key == 0) = false := by simpa using hcz
          go_wp2_with (first | ((with_reducible (refine Veil.out ?_; apply wl_allocL alT116)); rintro B W1 he1 hth hBl0 hBg) | ((with_reducible (refine Veil.out ?_; apply wl_storeB rt116)); (case hx => rfl); (case hy => rfl); (case hn => rfl); (case hth => exact hth); (case hbl => exact hBl0); (case h1 => exact two_one hu1 hz1); rintro W2 hm2 hRm0 hBl; have hRm : Hid (RowIn W2 B 0 #[u, z]) := hRm0; clear hRm0; have hEr2 : Ext wr W2 := Ext.trans_mod he1 hm2 (fun i hi => by have hi2 : i = B := hi; rw [hi2]; exact hBg); have hG3 := hG.ext hEr2 (fun _ _ _ k => k); have hE3 := hE.trans hEr2; clear hm2 he1 hth hBl0) | ((with_reducible (refine Veil.out ?_; apply wl_loadC one96)); (case hw => rfl); (case hx => rfl); (case hc => exact (two_parts hRm.out).1)) | ((with_reducible (refine Veil.out ?_; apply wl_loadR rt116)); (case hx => rfl); (case hr => first | (with_reducible exact HR) | (with_reducible exact hRm5.out) | (with_reducible exact hRm.out)); (case hn => rfl)) | (go_at_call 130; (with_reducible refine (HC1 _ (hEA.trans hE3)).mono ?_); rintro e w4 ⟨rfl, hdr⟩; have he4 := drew_ext hdr; clear hdr; replace hG3 := hG3.ext he4 (fun _ _ _ k => k); replace hE3 := hE3.trans he4; replace hRm : Hid (RowIn w4 B 0 #[u, z]) := hRm.out.ext hBl he4; replace hBl := Nat.lt_of_lt_of_le hBl he4.size; clear he4) | ((with_reducible (refine Veil.out ?_; apply wl_buildV (hb := HBD))); (case he => (simp only [List.map_toArray, List.map_cons, List.map_nil]; rfl))) | ((with_reducible (refine Veil.out ?_; apply wl_push sl106 WA (y, v) #[u, z])); (case hr => exact rfl); (case hone => exact two_one hu1 hz1); (case hG => exact hG5); (case hE => exact hE5); (case hn => with_reducible exact HLN2); (case hy => rfl); (case hs => rfl); (case hb => rfl); (case hx => with_reducible exact HXX); (case hRm => with_reducible exact HMV); intro v7 W7 hG7 hE7 hk7) | ((with_reducible (refine Veil.out ?_; apply wl_push sl106 WA (key, val) #[.slice ko ks.length kc, .slice vo vs.length vc])); (case hr => exact rfl); (case hone => exact two_one rfl rfl); (case hG => exact hG3); (case hE => exact hE3); (case hn => with_reducible exact HLN); (case hy => rfl); (case hs => rfl); (case hb => rfl); (case hx => with_reducible exact HXA); (case hRm => with_reducible exact HMV); intro v5 W5 hG5 hE5 hk5; have hRm5 : Hid (RowIn W5 B 0 #[u, z]) := hk5 _ _ _ (hG.ne hBg _) hBl hRm.out; clear hRm hG3 hE3) | ((with_reducible (refine Veil.out ?_; apply wl_push sl106 WA (y, v) #[u, z])); (case hr => exact rfl); (case hone => exact two_one hu1 hz1); (case hG => exact hG3); (case hE => exact hE3); (case hn => with_reducible exact HLN); (case hy => rfl); (case hs => rfl); (case hb => rfl); (case hx => with_reducible exact HXX); (case hRm => with_reducible exact HMV); intro v7 W7 hG7 hE7 hk7))
          refine ⟨⟨k + 1, out ++ [(y, v)], true, by omega, int_eq (by omega), rfl, by first | omega | (simp; omega), hG7, ?_, hE7⟩, by simp [intOf]; omega⟩
          have := HI.out
          simpa [Hid] using this
        | false =>
          rw [decide_eq_false (p := key ≤ y) (by omega)] at HI
          rw [if_neg (show ¬ y = key by omega)] at HI
          have hcy : cmpI y key < 0 := (cmpI_n y key).2 (by omega)
          have hcz : ¬ cmpI y key = 0 := fun q => absurd ((cmpI_z y key).1 q) (by omega)
          have hcz2 : (cmpI y key == 0) = false := by simpa using hcz
          go_wp2_with (first | ((with_reducible (refine Veil.out ?_; apply wl_allocL alT116)); rintro B W1 he1 hth hBl0 hBg) | ((with_reducible (refine Veil.out ?_; apply wl_storeB rt116)); (case hx => rfl); (case hy => rfl); (case hn => rfl); (case hth => exact hth); (case hbl => exact hBl0); (case h1 => exact two_one hu1 hz1); rintro W2 hm2 hRm0 hBl; have hRm : Hid (RowIn W2 B 0 #[u, z]) := hRm0; clear hRm0; have hEr2 : Ext wr W2 := Ext.trans_mod he1 hm2 (fun i hi => by have hi2 : i = B := hi; rw [hi2]; exact hBg); have hG3 := hG.ext hEr2 (fun _ _ _ k => k); have hE3 := hE.trans hEr2; clear hm2 he1 hth hBl0) | ((with_reducible (refine Veil.out ?_; apply wl_loadC one96)); (case hw => rfl); (case hx => rfl); (case hc => exact (two_parts hRm.out).1)) | ((with_reducible (refine Veil.out ?_; apply wl_loadR rt116)); (case hx => rfl); (case hr => first | (with_reducible exact HR) | (with_reducible exact hRm5.out) | (with_reducible exact hRm.out)); (case hn => rfl)) | (go_at_call 130; (with_reducible refine (HC1 _ (hEA.trans hE3)).mono ?_); rintro e w4 ⟨rfl, hdr⟩; have he4 := drew_ext hdr; clear hdr; replace hG3 := hG3.ext he4 (fun _ _ _ k => k); replace hE3 := hE3.trans he4; replace hRm : Hid (RowIn w4 B 0 #[u, z]) := hRm.out.ext hBl he4; replace hBl := Nat.lt_of_lt_of_le hBl he4.size; clear he4) | ((with_reducible (refine Veil.out ?_; apply wl_buildV (hb := HBD))); (case he => (simp only [List.map_toArray, List.map_cons, List.map_nil]; rfl))) | ((with_reducible (refine Veil.out ?_; apply wl_push sl106 WA (y, v) #[u, z])); (case hr => exact rfl); (case hone => exact two_one hu1 hz1); (case hG => exact hG5); (case hE => exact hE5); (case hn => with_reducible exact HLN2); (case hy => rfl); (case hs => rfl); (case hb => rfl); (case hx => with_reducible exact HXX); (case hRm => with_reducible exact HMV); intro v7 W7 hG7 hE7 hk7) | ((with_reducible (refine Veil.out ?_; apply wl_push sl106 WA (key, val) #[.slice ko ks.length kc, .slice vo vs.length vc])); (case hr => exact rfl); (case hone => exact two_one rfl rfl); (case hG => exact hG3); (case hE => exact hE3); (case hn => with_reducible exact HLN); (case hy => rfl); (case hs => rfl); (case hb => rfl); (case hx => with_reducible exact HXA); (case hRm => with_reducible exact HMV); intro v5 W5 hG5 hE5 hk5; have hRm5 : Hid (RowIn W5 B 0 #[u, z]) := hk5 _ _ _ (hG.ne hBg _) hBl hRm.out; clear hRm hG3 hE3) | ((with_reducible (refine Veil.out ?_; apply wl_push sl106 WA (y, v) #[u, z])); (case hr => exact rfl); (case hone => exact two_one hu1 hz1); (case hG => exact hG3); (case hE => exact hE3); (case hn => with_reducible exact HLN); (case hy => rfl); (case hs => rfl); (case hb => rfl); (case hx => with_reducible exact HXX); (case hRm => with_reducible exact HMV); intro v7 W7 hG7 hE7 hk7))
          refine ⟨⟨k + 1, out ++ [(y, v)], false, by omega, int_eq (by omega), rfl, by first | omega | (simp; omega), hG7, ?_, hE7⟩, by simp [intOf]; omega⟩
          have := HI.out
          simpa [Hid] using this
    · have hkn : k = X.slots.length := by omega
      have hki : ¬ (k : Int) < X.slots.length := by omega
      have hinv2 := hinv.out
      rw [List.drop_of_length_le (by omega)] at hinv2
      have HLN : out.length ≤ 1048576 := by omega
      cases laid with
      | true =>
        have e3 : Hid (out = insG Prod.fst (key, val) L0 X.slots) := by simpa [insG, Hid] using hinv2
        clear hinv2 hinv
        go_wp2_with (first | ((with_reducible (refine Veil.out ?_; apply wl_storeC one106)); (case hx => rfl); (case hy => rfl); (case h1 => exact SloL.one' hG); (case hB => exact hB9.ext (he.trans hE)); (case hi => decide); rintro WY hBY hmY) | ((with_reducible (refine Veil.out ?_; apply wl_loadRow rt108)); (case hx => rfl); (case hB => exact hBY); (case hi => decide); rw [ac_row ha]) | (go_at_call 136; refine (HP WA _ _ _ _ he hG hE hmY e3).mono ?_; rintro e W9 ⟨v9, rfl, hfin⟩))
        go_end0
        exact ⟨v9, rfl, hfin⟩
      | false =>
        have e3 : Hid (out ++ [(key, val)] = insG Prod.fst (key, val) L0 X.slots) := by simpa [insG, Hid] using hinv2
        clear hinv2 hinv
        go_wp2_with (first | ((with_reducible (refine Veil.out ?_; apply wl_buildV (hb := HBD))); (case he => (simp only [List.map_toArray, List.map_cons, List.map_nil]; rfl))) | ((with_reducible (refine Veil.out ?_; apply wl_push sl106 WA (key, val) #[.slice ko ks.length kc, .slice vo vs.length vc])); (case hr => exact rfl); (case hone => exact two_one rfl rfl); (case hG => exact hG); (case hE => exact hE); (case hn => with_reducible exact HLN); (case hy => rfl); (case hs => rfl); (case hb => rfl); (case hx => with_reducible exact HXA); (case hRm => with_reducible exact HMV); intro v5 W5 hG5 hE5 hk5) | ((with_reducible (refine Veil.out ?_; apply wl_storeC one106)); (case hx => rfl); (case hy => rfl); (case h1 => exact SloL.one' hG5); (case hB => exact hB9.ext (he.trans hE5)); (case hi => decide); rintro WY hBY hmY) | ((with_reducible (refine Veil.out ?_; apply wl_loadRow rt108)); (case hx => rfl); (case hB => exact hBY); (case hi => decide); rw [ac_row ha]) | (go_at_call 136; refine (HP WA _ _ _ _ he hG5 hE5 hmY e3).mono ?_; rintro e W9 ⟨v9, rfl, hfin⟩))
        go_end0
        exact ⟨v9, rfl, hfin⟩
end
end Go.Proofs.YgvahwGreat
