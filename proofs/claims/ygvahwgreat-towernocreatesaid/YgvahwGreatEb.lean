import Derived.Test.YgvahwGreatEa
import Derived.Test.YgvahwGreatOd84
namespace Go.Proofs.YgvahwGreat
open Go.RowKit
set_option linter.unusedSimpArgs false

theorem warmList_take (A : AW) (l : List (Nat × List Nat)) (i : Nat) (hi : i < l.length) : A.warmList (l.take (i + 1)) = (l[i]).2.foldl (fun w k => w.warmSlot (l[i]).1 k) ((A.warmList (l.take i)).warm (l[i]).1) := by
  unfold AW.warmList
  rw [List.take_succ_eq_append_getElem hi, List.foldl_append]
  rfl
theorem foldl_take {α β : Type} (f : β → α → β) (x : β) (l : List α) (i : Nat) (hi : i < l.length) : (l.take (i + 1)).foldl f x = f ((l.take i).foldl f x) l[i] := by
  rw [List.take_succ_eq_append_getElem hi, List.foldl_append]
  rfl
theorem keysN_drop (l : List (Nat × List Nat)) (i : Nat) (hi : i < l.length) : keysN (l.drop i) = (l[i].2).length + keysN (l.drop (i + 1)) := by
  unfold keysN
  rw [List.drop_eq_getElem_cons hi, List.map_cons, List.foldr_cons]
theorem slot_warm_self {A : AW} {a k : Nat} (h : A.warmS a k = true) : A.warmSlot a k = A := AW.warmSlot_self h
def zAcc : Array Value := #[.int .u8 0, .int .u8 0, .int .u8 0, .int .u8 0, .int .u8 0, .int .u8 0, .int .u8 0, .int .u8 0, .int .u8 0, .int .u8 0, .int .u8 0, .int .u8 0, .int .u8 0, .int .u8 0, .int .u8 0, .int .u8 0, .int .u8 0, .int .u8 0, .int .u8 0, .int .u8 0, .slice none 0 0]
theorem zAccE : zeroOf Hvah.prog 153 = some zAcc := z144
theorem zAccS : zAcc.size = 21 := rfl
section
variable {own : Nat → Nat} {w : World} {g : Nat} {c : Nat → Value} {V : EV} {st : ASt} {sn stale : List Nat} {n : Nat} {v : Value} {l : List (Nat × List Nat)}
set_option maxRecDepth 100000 in
set_option maxHeartbeats 6400000 in
theorem eWarmListG (h : MRep own w g c V st sn stale) (hv : EL 21 (AcC (Mu own) w) (Mu own) w v l) (hl : l.length ≤ 16) (hk : keysN l ≤ 64) (hr : Room V (n + (l.length + keysN l))) : Calls Hvah.prog 110 #[.pointer (some ⟨g, 2435, none⟩), v] w fun e w' => e = .returned (.tuple #[]) ∧ ∃ own' c' V', MRep own' w' g c' V' { st with now := st.now.warmList l } sn stale ∧ VStep own w c own' w' c' ∧ Room V' n ∧ V.Grew V' (l.length + keysN l) (l.length + keysN l) (keysN l) 0 0 0 := by
  obtain ⟨vo, vc, hve, hv1, hv2⟩ := hv.slice
  subst hve
  obtain ⟨na, hna⟩ : ∃ z, Hid (l.length = z) := ⟨_, rfl⟩
  have hnn : (na : Int) ≤ 16 := by have := hna.out; omega
  rw [show (Value.slice vo l.length vc) = .slice vo na vc by rw [hna.out]]
  have hv' : EL 21 (AcC (Mu own) w) (Mu own) w (.slice vo na vc) l := by rw [← hna.out]; exact hv
  clear hv
  go_enter Hvah.func110, Hvah.ntmps110
  go_upto_region 1 with (fail)
  try simp only [Act.put]
  go_loopw [11] (fun iv wr => ∃ (i : Nat) (own1 : Nat → Nat) (c1 : Nat → Value) (V1 : EV), iv = .int .i64 (i : Nat) ∧ i ≤ na ∧ MRep own1 wr g c1 V1 { st with now := st.now.warmList (l.take i) } sn stale ∧ VStep own w c own1 wr c1 ∧ Hid (Room V1 (n + ((l.length - i) + keysN (l.drop i)))) ∧ Hid (V.Grew V1 (i + keysN (l.take i)) (i + keysN (l.take i)) (keysN (l.take i)) 0 0 0)) (fun iv _ => na - (intOf iv).toNat)
  case atStart => exact ⟨0, own, c, V, rfl, Nat.zero_le _, h, VStep.ext (Ext.refl _), (by rw [Nat.sub_zero, List.drop_zero]; exact hr : Room V (n + ((l.length - 0) + keysN (l.drop 0)))), (EV.Grew.refl V).le (Nat.zero_le _) (Nat.zero_le _) (Nat.zero_le _) (Nat.zero_le _) (Nat.zero_le _) (Nat.zero_le _)⟩
  case round =>
    obtain ⟨i, own1, c1, V1, rfl, hi, h1, k1, hr1, hg1⟩ := hrel
    rcases Nat.lt_or_ge i na with hlt | hge
    · have z1 : (i : Int) < na := by omega
      have hil : i < l.length := by have := hna.out; omega
      have hw1 := k1.el hv' (R' := AcC (Mu own1) wr) (fun _ _ _ q => ⟨q.addr, q.aLt, k1.kl q.keys⟩)
      rcases hw1 with ⟨q, _⟩ | ⟨b, off, cap, cs, hve, _, _, hOb, hb, hcell, hrow⟩
      · rw [q] at hil; simp at hil
      injection hve with hv1 hv2 hv3
      clear hv2
      subst hv1
      subst hv3
      have hri := hrow i hil
      have hR : RowIn wr b (off + i * 21) (rowOf cs (i * 21) 21) := el_row hcell hil
      have hwt := warmList_take st.now l i hil
      have hr2 : Room V1 (n + ((l.length - (i + 1)) + keysN (l.drop (i + 1))) + (l[i]'hil).2.length + 1) := by
        have q := hr1.out
        rw [keysN_drop l i hil] at q
        exact q.le (by omega)
      have hkl : (l[i]'hil).2.length ≤ 64 := by
        have := keysN_take l i hil
        have := keysN_le l (i + 1)
        omega
      have hkt : Hid (keysN (l.take (i + 1)) = keysN (l.take i) + (l[i]'hil).2.length) := keysN_take l i hil
      obtain ⟨G, hG⟩ : ∃ z, Hid (keysN (l.take i) = z) := ⟨_, rfl⟩
      rw [hG.out] at hg1 hkt
      obtain ⟨N1, hN1⟩ : ∃ z, Hid (n + ((l.length - (i + 1)) + keysN (l.drop (i + 1))) = z) := ⟨_, rfl⟩
      rw [hN1.out] at hr2
      obtain ⟨A1, hA1⟩ : ∃ z, Hid (st.now.warmList (l.take i) = z) := ⟨_, rfl⟩
      obtain ⟨A2, hA2⟩ : ∃ z, Hid (st.now.warmList (l.take (i + 1)) = z) := ⟨_, rfl⟩
      rw [hA1.out] at h1 hwt
      rw [hA2.out] at hwt
      have hones : Ones (rowOf cs (i * 21) 21) := ones_of (fun q hq => by
        rw [rowOf_size] at hq
        rw [cf_rowOf _ _ _ hq]
        rcases (show q < 20 ∨ q = 20 by omega) with hh | rfl
        · exact aat_one hri.addr hri.aLt q hh
        · exact hri.keys.one')
      have hlay : ∀ j, j < 21 → layv (cf zAcc) 0 (rowOf cs (i * 21) 21) j = cs (i * 21 + j) := fun j hj => lay_get j hj
      have ha := hri.aLt
      have haA : AAt (layv (cf zAcc) 0 (rowOf cs (i * 21) 21)) 0 (l[i]'hil).1 := fun j u hu => by
        have hj := (Array.getElem?_eq_some_iff.1 hu).1
        rw [av_size ha] at hj
        rw [Nat.zero_add, hlay j (by omega)]
        exact hri.addr j u hu
      have hkv := hri.keys
      have hk20 : layv (cf zAcc) 0 (rowOf cs (i * 21) 21) 20 = cs (i * 21 + 20) := hlay 20 (by decide)
      generalize (l[i]'hil).1 = a at *
      generalize hks : (l[i]'hil).2 = ks at *
      clear hks hri hrow hcell hlay
      obtain ⟨i1, hi1⟩ : ∃ z : Nat, Hid ((i + 1 : Nat) = z) := ⟨_, rfl⟩
      have j1 : IntKind.i64.wrap ((i : Int) + 1) = (i1 : Int) := by rw [IntKind.wrap_i64, ← hi1.out]; omega
      obtain ⟨ko, kc, hke, hk1, hk2⟩ := hkv.slice
      obtain ⟨kn, hkn⟩ : ∃ z, Hid (ks.length = z) := ⟨_, rfl⟩
      have hknn : (kn : Int) ≤ 64 := by have := hkn.out; omega
      rw [hkn.out] at hke
      rw [hke] at hkv hk20
      go_upto_region 3 with (first | ((with_reducible (refine Veil.out ?_; apply wl_loadR rt144 b (off + i * 21) (rowOf cs (i * 21) 21) (rowOf_size _ _ _))); (case hx => rfl); (case hr => exact hR)) | ((with_reducible (refine Veil.out ?_; apply wl_allocB zAccE)); (case hn => exact zAccS); rintro L W4 e4 b4 g4) | ((with_reducible (refine Veil.out ?_; apply wl_storeRow rt144)); (case hx => rfl); (case hy => rfl); (case hr => exact rowOf_size _ _ _); (case h1 => exact hones); (case hB => exact b4); (case hi => decide); rintro W5 b5 m5))
      have eA : Ext wr W5 := Ext.trans_mod e4 m5 (fun q hq => by have hq2 : q = L := hq; rw [hq2]; exact g4)
      generalize layv (cf zAcc) 0 (rowOf cs (i * 21) 21) = cL at b5 haA hk20
      have HW := eWarmG (h1.ext eA) hr2 ha
      have hL0 : own1 L = 0 := h1.v.fresh _ g4
      have hLlt := b5.lt
      clear b4 m5 e4 hR hones hr1
      go_upto_region 5 with (first
        | ((with_reducible (refine Veil.out ?_; apply wl_loadA)); (case hx => rfl); (case hB => exact b5); (case hA => exact haA); (case hs => exact ha); (case ho => decide))
        | (go_at_call 109; refine HW.mono ?_; rintro e w6 ⟨rfl, own6, c6, V6, h6, k6, hr6, hg6⟩; have b6 := b5.mod k6.mod (fun q => q.1.1 hL0))
        | ((with_reducible (refine Veil.out ?_; apply wl_loadB one29i)); (case hx => rfl); (case hB => exact b6); (case hi => decide); rw [hk20]))
      have hL6 : own6 L = 0 := by rw [k6.keep L hLlt]; exact hL0
      have kk6 : VStep own w c own6 w6 c6 := k1.trans ((VStep.ext eA).trans k6)
      have hkv6 : KL (Mu own6) w6 (.slice ko kn kc) ks := k6.kl (hkv.ext eA)
      clear hkv b5
      have hg7 : Hid (V.Grew V6 (i + G + 1) (i + G + 1) G 0 0 0) := hg1.out.trans hg6
      clear hg1 hg6
      try simp only [Act.put]
      go_loopw [22] (fun iv wr => ∃ (j : Nat) (own2 : Nat → Nat) (c2 : Nat → Value) (V2 : EV), iv = .int .i64 (j : Nat) ∧ j ≤ kn ∧ MRep own2 wr g c2 V2 { st with now := (ks.take j).foldl (fun w k => w.warmSlot a k) (A1.warm a) } sn stale ∧ VStep own w c own2 wr c2 ∧ Hid (Room V2 (N1 + (ks.length - j))) ∧ Hid (V.Grew V2 (i + G + 1 + j) (i + G + 1 + j) (G + j) 0 0 0) ∧ Blk wr L 21 153 cL ∧ own2 L = 0 ∧ KL (Mu own2) wr (.slice ko kn kc) ks) (fun iv _ => kn - (intOf iv).toNat)
      case atStart => exact ⟨0, own6, c6, V6, rfl, Nat.zero_le _, h6, kk6, (by rw [Nat.sub_zero]; exact hr6 : Room V6 (N1 + (ks.length - 0))), hg7, b6, hL6, hkv6⟩
      case round =>
      clear h6 kk6 hr6 b6 hL6 hkv6 k6 h1 k1 hb hOb hg7
      obtain ⟨j, own2, c2, V2, rfl, hj, h2, k2, hr2', hg2, bL, hL2, hkv2⟩ := hrel
      rcases Nat.lt_or_ge j kn with hltj | hgej
      · have z2 : (j : Int) < kn := by omega
        have hjl : j < ks.length := by have := hkn.out; omega
        rcases hkv2 with ⟨q, _⟩ | ⟨kb, kof, kcap, hve, _, _, hOk, hkb, hkrow⟩
        · rw [q] at hjl; simp at hjl
        injection hve with hv1 hv2 hv3
        clear hv2
        subst hv1
        subst hv3
        obtain ⟨hxl, hRk⟩ := hkrow j hjl
        have hft := foldl_take (fun (w : AW) k => w.warmSlot a k) (A1.warm a) ks j hjl
        have hr3 : Room V2 (N1 + (ks.length - (j + 1)) + 1) := hr2'.out.le (by omega)
        obtain ⟨N2, hN2⟩ : ∃ z, Hid (N1 + (ks.length - (j + 1)) = z) := ⟨_, rfl⟩
        rw [hN2.out] at hr3
        obtain ⟨F1, hF1⟩ : ∃ z, Hid ((ks.take j).foldl (fun w k => w.warmSlot a k) (A1.warm a) = z) := ⟨_, rfl⟩
        obtain ⟨F2, hF2⟩ : ∃ z, Hid ((ks.take (j + 1)).foldl (fun w k => w.warmSlot a k) (A1.warm a) = z) := ⟨_, rfl⟩
        rw [hF1.out] at h2 hft
        rw [hF2.out] at hft
        have hWL : Hid (KL (Mu own2) wr (.slice (some ⟨kb, kof, none⟩) kn kc) ks) := Or.inr ⟨kb, kof, kc, by rw [hkn.out], by assumption, by assumption, hOk, hkb, hkrow⟩
        generalize ks[j] = x at *
        clear hkrow hr2'
        have hft' : Hid (F2 = F1.warmSlot a x) := hft
        clear hft
        obtain ⟨j1', hj1⟩ : ∃ z : Nat, Hid ((j + 1 : Nat) = z) := ⟨_, rfl⟩
        have jj : IntKind.i64.wrap ((j : Int) + 1) = (j1' : Int) := by rw [IntKind.wrap_i64, ← hj1.out]; omega
        have HI := fun W (hW : Ext wr W) => vIsWarmSlot (h2.v.ext hW) ha hxl
        have hab : (V2.sl a x).warm = F1.warmS a x := by have := h2.abs; exact congrFun (congrFun (congrArg AW.warmS this) a) x
        rw [hab] at HI
        have HS := fun W (hW : Ext wr W) => mWarmSlot (h2.ext hW) hr3 a ha x hxl
        cases hwm : F1.warmS a x
        · rw [hwm] at HI
          go_wp2_with (first
            | ((with_reducible (refine Veil.out ?_; apply wl_loadR rt28 kb (kof + j * 32) (bw x) (bwS hxl))); (case hx => rfl); (case hr => exact hRk))
            | ((with_reducible (refine Veil.out ?_; apply wl_allocBB)); rintro B7 W7 c7 e7 b7 _ g7)
            | ((with_reducible (refine Veil.out ?_; apply wl_storeBB)); (case hx => rfl); (case hy => rfl); (case hv => exact hxl); (case hB => exact b7); (case hi => decide); rintro W8 c8 b8 a8 _ m8; have e8 : Ext wr W8 := Ext.trans_mod e7 m8 (fun q hq => by have hq2 : q = B7 := hq; rw [hq2]; exact g7))
            | ((with_reducible (refine Veil.out ?_; apply wl_loadRow rt28)); (case hx => rfl); (case hB => exact b8); (case hi => decide); rw [rowOf_bw a8 hxl])
            | (go_at_call 92; refine (uFromB hxl _).mono ?_; rintro e w9 ⟨rfl, e9⟩)
            | ((with_reducible (refine Veil.out ?_; apply wl_allocW)); rintro B10 W10 c10 e10 b10 _ g10)
            | ((with_reducible (refine Veil.out ?_; apply wl_storeWB)); (case hx => rfl); (case hy => rfl); (case hB => exact b10); (case hi => decide); rintro W11 c11 b11 a11 _ m11; have e11 : Ext wr W11 := Ext.trans_mod (e8.trans (e9.trans e10)) m11 (fun q hq => by have hq2 : q = B10 := hq; rw [hq2]; exact Nat.le_trans (e8.trans e9).size g10))
            | ((with_reducible (refine Veil.out ?_; apply wl_loadA)); (case hx => rfl); (case hB => exact bL.ext (by first | exact e11 | exact e11.trans e12)); (case hA => exact haA); (case hs => exact ha); (case ho => decide))
            | ((with_reducible (refine Veil.out ?_; apply wl_loadWB)); (case hx => rfl); (case hB => first | exact b11 | exact b11.ext e12); (case hW => exact a11); (case hi => decide))
            | (go_at_call 183; refine (HI _ e11).mono ?_; rintro e w12 ⟨rfl, e12⟩)
            | (go_at_call 184; refine (HS _ (e11.trans e12)).mono ?_; rintro e w13 ⟨rfl, own3, c3, h3, k3⟩))
          go_roundw
          case rel =>
            have q1 := hj1.out
            have eT := e11.trans e12
            have kT : VStep own2 wr c2 own3 w13 c3 := (VStep.ext eT).trans k3
            refine ⟨j1', own3, c3, V2.warmS a x, rfl, by omega, ?_, k2.trans kT, ?_, by rw [← q1]; exact hg2.out.trans (grew_opS _ _ _ _ _), (bL.ext eT).mod k3.mod (fun q => q.1.1 hL2), by rw [kT.keep L bL.lt]; exact hL2, kT.kl hWL.out⟩
            · rw [← q1, hF2.out, hft'.out]; exact h3
            · show Room _ (N1 + (ks.length - j1'))
              rw [← q1, hN2.out]; exact Room.opS hr3
          case measure => have q1 := hj1.out; simp [intOf]; omega
        · rw [hwm] at HI
          go_wp2_with (first
            | ((with_reducible (refine Veil.out ?_; apply wl_loadR rt28 kb (kof + j * 32) (bw x) (bwS hxl))); (case hx => rfl); (case hr => exact hRk))
            | ((with_reducible (refine Veil.out ?_; apply wl_allocBB)); rintro B7 W7 c7 e7 b7 _ g7)
            | ((with_reducible (refine Veil.out ?_; apply wl_storeBB)); (case hx => rfl); (case hy => rfl); (case hv => exact hxl); (case hB => exact b7); (case hi => decide); rintro W8 c8 b8 a8 _ m8; have e8 : Ext wr W8 := Ext.trans_mod e7 m8 (fun q hq => by have hq2 : q = B7 := hq; rw [hq2]; exact g7))
            | ((with_reducible (refine Veil.out ?_; apply wl_loadRow rt28)); (case hx => rfl); (case hB => exact b8); (case hi => decide); rw [rowOf_bw a8 hxl])
            | (go_at_call 92; refine (uFromB hxl _).mono ?_; rintro e w9 ⟨rfl, e9⟩)
            | ((with_reducible (refine Veil.out ?_; apply wl_allocW)); rintro B10 W10 c10 e10 b10 _ g10)
            | ((with_reducible (refine Veil.out ?_; apply wl_storeWB)); (case hx => rfl); (case hy => rfl); (case hB => exact b10); (case hi => decide); rintro W11 c11 b11 a11 _ m11; have e11 : Ext wr W11 := Ext.trans_mod (e8.trans (e9.trans e10)) m11 (fun q hq => by have hq2 : q = B10 := hq; rw [hq2]; exact Nat.le_trans (e8.trans e9).size g10))
            | ((with_reducible (refine Veil.out ?_; apply wl_loadA)); (case hx => rfl); (case hB => exact bL.ext e11); (case hA => exact haA); (case hs => exact ha); (case ho => decide))
            | ((with_reducible (refine Veil.out ?_; apply wl_loadWB)); (case hx => rfl); (case hB => exact b11); (case hW => exact a11); (case hi => decide))
            | (go_at_call 183; refine (HI _ e11).mono ?_; rintro e w12 ⟨rfl, e12⟩))
          go_roundw
          case rel =>
            have q1 := hj1.out
            have eT := e11.trans e12
            have kT : VStep own2 wr c2 own2 w12 c2 := VStep.ext eT
            refine ⟨j1', own2, c2, V2, rfl, by omega, ?_, k2.trans kT, ?_, hg2.out.le (by omega) (by omega) (by omega) (by decide) (by decide) (by decide), bL.ext eT, hL2, kT.kl hWL.out⟩
            · rw [← q1, hF2.out, hft'.out, AW.warmSlot_self hwm]; exact h2.ext eT
            · show Room _ (N1 + (ks.length - j1'))
              rw [← q1, hN2.out]; exact hr3.le (by omega)
          case measure => have q1 := hj1.out; simp [intOf]; omega
      · have z2 : ¬ (j : Int) < kn := by omega
        go_wp2
        go_roundw
        case rel =>
          have q1 := hi1.out
          have q2 := hkn.out
          have q3 := hN1.out
          refine ⟨i1, own2, c2, V2, rfl, by omega, ?_, k2, ?_, ?_⟩
          · rw [← q1, hA2.out, hwt]
            rw [List.take_of_length_le (by omega)] at h2
            exact h2
          · show Room V2 (n + ((l.length - i1) + keysN (l.drop i1)))
            rw [← q1, q3]; exact hr2'.out.le (by omega)
          · have q4 := hkt.out
            rw [← q1]
            exact hg2.out.le (by omega) (by omega) (by omega) (by decide) (by decide) (by decide)
        case measure => have q1 := hi1.out; simp [intOf]; omega
    · have z1 : ¬ (i : Int) < na := by omega
      have q1 := hna.out
      rw [List.take_of_length_le (by omega)] at h1
      have hr1' : Hid (Room V1 n) := hr1.out.le (by omega)
      have hg1' : Hid (V.Grew V1 (l.length + keysN l) (l.length + keysN l) (keysN l) 0 0 0) := hg1.out.le (by have := keysN_le l i; omega) (by have := keysN_le l i; omega) (keysN_le l i) (by decide) (by decide) (by decide)
      clear hg1
      clear q1
      go_wp2
      go_end0
      exact ⟨rfl, own1, c1, V1, h1, k1, hr1'.out, hg1'.out⟩
theorem eWarmList (h : MRep own w g c V st sn stale) (hv : EL 21 (AcC (Mu own) w) (Mu own) w v l) (hl : l.length ≤ 16) (hk : keysN l ≤ 64) (hr : Room V (n + (l.length + keysN l))) : Calls Hvah.prog 110 #[.pointer (some ⟨g, 2435, none⟩), v] w fun e w' => e = .returned (.tuple #[]) ∧ ∃ own' c' V', MRep own' w' g c' V' { st with now := st.now.warmList l } sn stale ∧ VStep own w c own' w' c' ∧ Room V' n := by
  refine (eWarmListG h hv hl hk hr).mono ?_
  rintro e w' ⟨h1, own', c', V', h2, h3, h4, _⟩
  exact ⟨h1, own', c', V', h2, h3, h4⟩
end
end Go.Proofs.YgvahwGreat
