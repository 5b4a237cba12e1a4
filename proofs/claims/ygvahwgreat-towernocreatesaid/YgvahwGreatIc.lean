import Derived.Test.YgvahwGreatIb
namespace Go.Proofs.YgvahwGreat
open Go.RowKit
set_option linter.unusedSimpArgs false
theorem foldr_add_end (m : List Nat) (z : Nat) : (m ++ [z]).foldr (· + ·) 0 = m.foldr (· + ·) 0 + z := by
  induction m with
  | nil => simp
  | cons a m ih => simp only [List.cons_append, List.foldr_cons, ih]; omega
theorem dataCost_take (l : List Nat) (i : Nat) (hi : i < l.length) : dataCost (l.take (i + 1)) = dataCost (l.take i) + (if l[i] = 0 then 4 else 16) := by
  unfold dataCost
  rw [List.take_succ_eq_append_getElem hi, List.map_append, List.map_cons, List.map_nil, foldr_add_end]
theorem dataCost_le : ∀ (l : List Nat), dataCost l ≤ 16 * l.length
  | [] => by simp [dataCost]
  | a :: l => by
    have := dataCost_le l
    unfold dataCost at *
    rw [List.map_cons, List.foldr_cons, List.length_cons]
    split <;> omega
theorem accessCost_take (l : List (Nat × List Nat)) (i : Nat) (hi : i < l.length) : accessCost (l.take (i + 1)) = accessCost (l.take i) + (2400 + 1900 * (l[i].2).length) := by
  unfold accessCost
  rw [List.take_succ_eq_append_getElem hi, List.map_append, List.map_cons, List.map_nil, foldr_add_end]
theorem accessCost_eq : ∀ (l : List (Nat × List Nat)), accessCost l = 2400 * l.length + 1900 * keysN l
  | [] => by simp [accessCost, keysN]
  | a :: l => by
    have := accessCost_eq l
    unfold accessCost keysN at *
    rw [List.map_cons, List.foldr_cons, List.length_cons, List.map_cons, List.foldr_cons]
    omega
section
variable {O : Nat → Prop} {w : World} {r : Array Value} {t : ATx}
set_option maxRecDepth 100000 in
set_option maxHeartbeats 6400000 in
theorem mIntrinsic (hr : r.size = 174) (h : TxC O w (cf r) t) (hd : t.data.length ≤ 1024) (hl : t.access.length ≤ 16) (hk : keysN t.access ≤ 64) : Calls Hvah.prog 103 #[.agg r] w fun x w' => x = .returned (.int .u64 (t.intrinsic : Nat)) ∧ Ext w w' := by
  obtain ⟨dp, dc, hdv, hd1, hd2, hbs⟩ := h.data
  have hdc := dataCost_le t.data
  have hac := accessCost_eq t.access
  have hcr := h.create
  have hacc := h.access
  obtain ⟨ao, ac, hav, ha1, ha2⟩ := hacc.slice
  unfold ATx.intrinsic wordsA
  generalize hT : t.create = cr at *
  generalize hDe : t.data = D at *
  generalize hAe : t.access = A at *
  clear hT hDe hAe h
  obtain ⟨n, hn⟩ : ∃ n, Hid (D.length = n) := ⟨_, rfl⟩
  obtain ⟨na, hna⟩ : ∃ n, Hid (A.length = n) := ⟨_, rfl⟩
  obtain ⟨dC, hdC⟩ : ∃ n, Hid (dataCost D = n) := ⟨_, rfl⟩
  obtain ⟨aC, haC⟩ : ∃ n, Hid (accessCost A = n) := ⟨_, rfl⟩
  rw [hn.out] at hdv hd1 hd hdc ⊢
  rw [hna.out] at hav ha1 hl
  rw [hdC.out] at hdc ⊢
  rw [haC.out]
  clear hac
  have hdi : (n : Int) ≤ 1024 := by omega
  have hli : (na : Int) ≤ 16 := by omega
  go_enter Hvah.func103, Hvah.ntmps103
  go_upto_region 3 with (first
    | ((with_reducible (refine Veil.out ?_; apply wl_boxB)); (case hx => rfl); (case hn => exact hr); rintro B W1 e1 b1 g1)
    | ((with_reducible (refine Veil.out ?_; apply wl_loadB one32i)); (case hx => rfl); (case hB => exact b1); (case hi => decide); rw [hdv]))
  try simp only [Act.put]
  go_loopw [3, 11] (fun gv iv wr => ∃ (i G : Nat), gv = .int .u64 (G : Nat) ∧ iv = .int .i64 (i : Nat) ∧ i ≤ n ∧ G ≤ 100000 ∧ Hid (21000 + dataCost (D.take i) = G) ∧ Ext w wr ∧ Ext W1 wr) (fun _ iv _ => n - (intOf iv).toNat)
  case atStart => exact ⟨0, 21000, rfl, rfl, Nat.zero_le _, by decide, (by simp [dataCost] : 21000 + dataCost (D.take 0) = 21000), e1, Ext.refl _⟩
  case round =>
    obtain ⟨i, G, rfl, rfl, hi, hG, hGG, he, he1⟩ := hrel
    rcases Nat.lt_or_ge i n with hlt | hge
    · have z1 : (i : Int) < n := by omega
      have hil : i < D.length := by have := hn.out; omega
      obtain ⟨b, off, rfl, hbO, hbl, hcell⟩ := hbs.spot (fun q => by rw [q] at hil; simp at hil)
      have hc := (he.cell (p := ⟨b, off + i, none⟩) hbl).trans (hcell i hil)
      have hlt2 := hbs.lt D[i] (List.getElem_mem hil)
      have hst := dataCost_take D i hil
      have hG2 : 21000 + dataCost (D.take (i+1)) ≤ 21000 + 16 * n := by
        have q := dataCost_le (D.take (i+1))
        rw [List.length_take] at q
        have := hn.out
        omega
      have hgg := hGG.out
      generalize D[i] = d at *
      clear hcell hbs
      obtain ⟨i1, hi1⟩ : ∃ z : Nat, Hid ((i + 1 : Nat) = z) := ⟨_, rfl⟩
      have j1 : IntKind.i64.wrap ((i : Int) + 1) = (i1 : Int) := by rw [IntKind.wrap_i64, ← hi1.out]; omega
      obtain ⟨G4, hG4⟩ : ∃ z : Nat, Hid ((G + 4 : Nat) = z) := ⟨_, rfl⟩
      have j2 : IntKind.u64.wrap ((G : Int) + 4) = (G4 : Int) := by rw [IntKind.wrap_u64, ← hG4.out]; omega
      obtain ⟨G6, hG6⟩ : ∃ z : Nat, Hid ((G4 + 12 : Nat) = z) := ⟨_, rfl⟩
      have j3 : IntKind.u64.wrap ((G4 : Int) + 12) = (G6 : Int) := by have := hG4.out; rw [IntKind.wrap_u64, ← hG6.out]; omega
      rcases Nat.eq_zero_or_pos d with hd0 | hd0
      · have zd : (d : Int) = 0 := by omega
        rw [if_pos hd0] at hst
        rw [hst] at hG2
        clear hd0
        go_wp2
        go_roundw
        case rel =>
          have q1 := hi1.out; have q2 := hG4.out
          refine ⟨i1, G4, rfl, rfl, by omega, by omega, ?_, he, he1⟩
          show 21000 + dataCost (D.take i1) = G4
          rw [← q1, hst]; omega
        case measure => have q1 := hi1.out; simp [intOf]; omega
      · have zd : ¬ (d : Int) = 0 := by omega
        rw [if_neg (by omega)] at hst
        rw [hst] at hG2
        clear hd0
        go_wp2
        go_roundw
        case rel =>
          have q1 := hi1.out; have q2 := hG4.out; have q3 := hG6.out
          refine ⟨i1, G6, rfl, rfl, by omega, by omega, ?_, he, he1⟩
          show 21000 + dataCost (D.take i1) = G6
          rw [← q1, hst]; omega
        case measure => have q1 := hi1.out; simp [intOf]; omega
    · have z1 : ¬ (i : Int) < n := by omega
      obtain ⟨hGe⟩ : Nonempty (Hid (21000 + dC = G)) := ⟨by
        have q1 := hn.out
        have q2 := hGG.out
        rw [List.take_of_length_le (by omega), hdC.out] at q2
        exact q2⟩
      clear hGG hbs
      go_upto_region 10 with (first
        | ((with_reducible (refine Veil.out ?_; apply wl_loadB one33i)); (case hx => rfl); (case hB => exact b1.ext he1); (case hi => decide); rw [hav]))
      try simp only [Act.put]
      go_loopw [3, 25] (fun gv iv wr => ∃ (i G : Nat), gv = .int .u64 (G : Nat) ∧ iv = .int .i64 (i : Nat) ∧ i ≤ na ∧ G ≤ 400000 ∧ Hid (21000 + dC + accessCost (A.take i) = G) ∧ Ext w wr ∧ Ext W1 wr) (fun _ iv _ => na - (intOf iv).toNat)
      case atStart => exact ⟨0, G, rfl, rfl, Nat.zero_le _, by omega, (by simp [accessCost, hGe.out] : 21000 + dC + accessCost (A.take 0) = G), he, he1⟩
      case round =>
        obtain ⟨i2, H, rfl, rfl, hi2, hH, hHH, hf, hf1⟩ := hrel
        rcases Nat.lt_or_ge i2 na with hlt | hge2
        · have z2 : (i2 : Int) < na := by omega
          have hil : i2 < A.length := by have := hna.out; omega
          rcases hacc with ⟨rfl, _⟩ | ⟨b, off, cap, cs, hv, hcap, hc2, hO, hb, hcell, hrow⟩
          · simp at hil
          rw [hav] at hv
          injection hv with hv1 hv2 hv3
          clear hv2 hv3
          rw [hv1] at hav
          subst hv1
          have hri := hrow i2 hil
          have hR : RowIn wr b (off + i2 * 21) (rowOf cs (i2 * 21) 21) := fun q u hu => (hf.cell (p := ⟨b, off + i2 * 21 + q, none⟩) hb).trans (el_row (l := A) hcell hil q u hu)
          have hst := accessCost_take A i2 hil
          have hkle := keysN_le A (i2 + 1)
          have hbd := accessCost_eq (A.take (i2 + 1))
          rw [List.length_take] at hbd
          have hHo := hHH.out
          obtain ⟨ok, ck, hkv, hk1, hk2⟩ := hri.keys.slice
          have hm64 : (A[i2].2).length ≤ 64 := by
            have := keysN_take A i2 hil
            omega
          have hones : Ones (rowOf cs (i2 * 21) 21) := ones_of (fun q hq => by
            rw [rowOf_size] at hq
            rw [cf_rowOf _ _ _ hq]
            rcases (show q < 20 ∨ q = 20 by omega) with h | rfl
            · exact aat_one hri.addr hri.aLt q h
            · rw [hkv]; rfl)
          generalize (A[i2].2).length = m at *
          obtain ⟨i1, hi1⟩ : ∃ z : Nat, Hid ((i2 + 1 : Nat) = z) := ⟨_, rfl⟩
          have j1 : IntKind.i64.wrap ((i2 : Int) + 1) = (i1 : Int) := by rw [IntKind.wrap_i64, ← hi1.out]; omega
          have j0 : IntKind.u64.wrap (m : Int) = (m : Int) := by rw [IntKind.wrap_u64]; omega
          obtain ⟨x1, hx1⟩ : ∃ z : Nat, Hid ((1900 * m : Nat) = z) := ⟨_, rfl⟩
          have j2 : IntKind.u64.wrap ((1900 : Int) * m) = (x1 : Int) := by rw [IntKind.wrap_u64, ← hx1.out]; omega
          obtain ⟨x2, hx2⟩ : ∃ z : Nat, Hid ((2400 + x1 : Nat) = z) := ⟨_, rfl⟩
          have j3 : IntKind.u64.wrap ((2400 : Int) + x1) = (x2 : Int) := by have := hx1.out; rw [IntKind.wrap_u64, ← hx2.out]; omega
          obtain ⟨H1, hH1⟩ : ∃ z : Nat, Hid ((H + x2 : Nat) = z) := ⟨_, rfl⟩
          have j4 : IntKind.u64.wrap ((H : Int) + x2) = (H1 : Int) := by have := hx1.out; have := hx2.out; rw [IntKind.wrap_u64, ← hH1.out]; omega
          have hfin : 21000 + dC + accessCost (A.take (i2 + 1)) ≤ 400000 := by
            have : keysN (A.take (i2 + 1)) ≤ 64 := Nat.le_trans hkle hk
            omega
          obtain ⟨hst'⟩ : Nonempty (Hid (accessCost (A.take (i2 + 1)) = accessCost (A.take i2) + (2400 + 1900 * m))) := ⟨hst⟩
          obtain ⟨hfin'⟩ : Nonempty (Hid (21000 + dC + accessCost (A.take (i2 + 1)) ≤ 400000)) := ⟨hfin⟩
          clear hst hfin hHo hbd hkle
          go_upto_region 12 with (first | ((with_reducible (refine Veil.out ?_; apply wl_loadR rt144 b (off + i2 * 21) (rowOf cs (i2 * 21) 21) (rowOf_size _ _ _))); (case hx => rfl); (case hr => exact hR)) | ((with_reducible (refine Veil.out ?_; apply wl_allocB z144)); (case hn => rfl); rintro L W3 e3 b3 g3) | ((with_reducible (refine Veil.out ?_; apply wl_storeRow rt144)); (case hx => rfl); (case hy => rfl); (case hr => exact rowOf_size _ _ _); (case h1 => exact hones); (case hB => exact b3); (case hi => decide); rintro W4 b4 m4))
          have hE4 : Ext w W4 := Ext.trans_mod (hf.trans e3) m4 (fun q hq => by have hq2 : q = L := hq; rw [hq2]; exact Nat.le_trans hf.size g3)
          have hE5 : Ext W1 W4 := Ext.trans_mod (hf1.trans e3) m4 (fun q hq => by have hq2 : q = L := hq; rw [hq2]; exact Nat.le_trans hf1.size g3)
          have hL20 : layv (cf #[.int .u8 0, .int .u8 0, .int .u8 0, .int .u8 0, .int .u8 0, .int .u8 0, .int .u8 0, .int .u8 0, .int .u8 0, .int .u8 0, .int .u8 0, .int .u8 0, .int .u8 0, .int .u8 0, .int .u8 0, .int .u8 0, .int .u8 0, .int .u8 0, .int .u8 0, .int .u8 0, .slice none 0 0]) 0 (rowOf cs (i2 * 21) 21) 20 = .slice ok m ck := by
            have := layv_in (cf #[.int .u8 0, .int .u8 0, .int .u8 0, .int .u8 0, .int .u8 0, .int .u8 0, .int .u8 0, .int .u8 0, .int .u8 0, .int .u8 0, .int .u8 0, .int .u8 0, .int .u8 0, .int .u8 0, .int .u8 0, .int .u8 0, .int .u8 0, .int .u8 0, .int .u8 0, .int .u8 0, .slice none 0 0]) 0 (rowOf cs (i2 * 21) 21) (j := 20) (by rw [rowOf_size]; decide)
            rw [Nat.zero_add] at this
            rw [this, cf_rowOf _ _ _ (by decide), hkv]
          generalize layv (cf #[.int .u8 0, .int .u8 0, .int .u8 0, .int .u8 0, .int .u8 0, .int .u8 0, .int .u8 0, .int .u8 0, .int .u8 0, .int .u8 0, .int .u8 0, .int .u8 0, .int .u8 0, .int .u8 0, .int .u8 0, .int .u8 0, .int .u8 0, .int .u8 0, .int .u8 0, .int .u8 0, .slice none 0 0]) 0 (rowOf cs (i2 * 21) 21) = cL at b4 hL20
          clear b3 hR hones hrow hcell hri hkv
          go_wp2_with (first
            | ((with_reducible (refine Veil.out ?_; apply wl_loadB one29i)); (case hx => rfl); (case hB => exact b4); (case hi => decide); rw [hL20]))
          go_roundw
          case rel =>
            have q1 := hi1.out; have q2 := hx1.out; have q3 := hx2.out; have q4 := hH1.out; have q5 := hst'.out; have q6 := hHH.out; have q7 := hfin'.out
            refine ⟨i1, H1, rfl, rfl, by omega, by omega, ?_, hE4, hE5⟩
            show 21000 + dC + accessCost (A.take i1) = H1
            rw [← q1]; omega
          case measure => have q1 := hi1.out; simp [intOf]; omega
        · have z2 : ¬ (i2 : Int) < na := by omega
          obtain ⟨hHe⟩ : Nonempty (Hid (21000 + dC + aC = H)) := ⟨by
            have q1 := hna.out
            have q2 := hHH.out
            rw [List.take_of_length_le (by omega), haC.out] at q2
            exact q2⟩
          clear hHH hGe
          cases cr
          · go_wp2_with (first
              | ((with_reducible (refine Veil.out ?_; apply wl_loadB one4i)); (case hx => rfl); (case hB => exact b1.ext hf1); (case hi => decide); rw [hcr]))
            go_ret
            exact ⟨by have := hHe.out; rw [← this]; simp, hf⟩
          · obtain ⟨wd, hwd⟩ : ∃ z : Nat, Hid (((n + 31) / 32 : Nat) = z) := ⟨_, rfl⟩
            have j0 : IntKind.u64.wrap (n : Int) = (n : Int) := by rw [IntKind.wrap_u64]; omega
            obtain ⟨x1, hx1⟩ : ∃ z : Nat, Hid ((2 * wd : Nat) = z) := ⟨_, rfl⟩
            have j2 : IntKind.u64.wrap ((2 : Int) * wd) = (x1 : Int) := by have := hwd.out; rw [IntKind.wrap_u64, ← hx1.out]; omega
            obtain ⟨x2, hx2⟩ : ∃ z : Nat, Hid ((32000 + x1 : Nat) = z) := ⟨_, rfl⟩
            have j3 : IntKind.u64.wrap ((32000 : Int) + x1) = (x2 : Int) := by have := hwd.out; have := hx1.out; rw [IntKind.wrap_u64, ← hx2.out]; omega
            obtain ⟨H1, hH1⟩ : ∃ z : Nat, Hid ((H + x2 : Nat) = z) := ⟨_, rfl⟩
            have j4 : IntKind.u64.wrap ((H : Int) + x2) = (H1 : Int) := by have := hwd.out; have := hx1.out; have := hx2.out; rw [IntKind.wrap_u64, ← hH1.out]; omega
            go_wp2_with (first
              | ((with_reducible (refine Veil.out ?_; apply wl_loadB one4i)); (case hx => rfl); (case hB => exact b1.ext hf1); (case hi => decide); rw [hcr])
              | ((with_reducible (refine Veil.out ?_; apply wl_loadB one32i)); (case hx => rfl); (case hB => exact b1.ext hf1); (case hi => decide); rw [hdv])
              | (go_at_call 176; refine (mWords n (by omega) _).mono ?_; rintro e w1 ⟨rfl, hww⟩; replace hww := hww.symm; subst hww; rw [hwd.out]))
            go_ret
            exact ⟨by have := hHe.out; have := hwd.out; have := hx1.out; have := hx2.out; have := hH1.out; simp; omega, hf⟩
end
end Go.Proofs.YgvahwGreat
