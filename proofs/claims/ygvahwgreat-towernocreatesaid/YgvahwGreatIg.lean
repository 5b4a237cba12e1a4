import Derived.Test.YgvahwGreatIf
namespace Go.Proofs.YgvahwGreat
open Go.RowKit
set_option linter.unusedSimpArgs false

/-- The sum of the balances. -/
def sumI (l : List IAcct) : Nat := (l.map (·.bal)).foldr (· + ·) 0
/-- An input world. -/
def worldOKI (l : List IAcct) : Bool := decide (l.length ≤ 8) && slotsOKI (l.map fun a => (a.addr, 1)) && l.all IAcct.ok && decide (sumI l < P256)
theorem foldr_add_end' (m : List Nat) (z : Nat) : (m ++ [z]).foldr (· + ·) 0 = m.foldr (· + ·) 0 + z := by
  induction m with
  | nil => simp
  | cons a m ih => simp only [List.cons_append, List.foldr_cons, ih]; omega
theorem sumI_take (l : List IAcct) (i : Nat) (hi : i < l.length) : sumI (l.take (i + 1)) = sumI (l.take i) + (l[i]).bal := by
  unfold sumI
  rw [List.take_succ_eq_append_getElem hi, List.map_append, List.map_cons, List.map_nil, foldr_add_end']
theorem sumI_le (l : List IAcct) : ∀ i, sumI (l.take i) ≤ sumI l := by
  induction l with
  | nil => intro i; simp
  | cons a l ih =>
    intro i
    cases i with
    | zero => simp [sumI]
    | succ i => have := ih i; simp only [sumI, List.take_succ_cons, List.map_cons, List.foldr_cons] at *; omega
theorem worldOKI_iff (l : List IAcct) : worldOKI l = true ↔ l.length ≤ 8 ∧ (∀ (i : Nat) (h : i + 1 < l.length), (l[i]).addr < (l[i + 1]).addr) ∧ (∀ (i : Nat) (h : i < l.length), (l[i]).ok = true) ∧ sumI l < P256 := by
  unfold worldOKI
  rw [Bool.and_eq_true, Bool.and_eq_true, Bool.and_eq_true, decide_eq_true_iff, decide_eq_true_iff, slotsOKI_iff, List.all_eq_true]
  have e1 : (∀ x ∈ l, x.ok = true) ↔ ∀ (i : Nat) (h : i < l.length), (l[i]).ok = true := by
    constructor
    · intro h i hi; exact h _ (List.getElem_mem hi)
    · intro h x hx
      obtain ⟨i, hi, rfl⟩ := List.getElem_of_mem hx
      exact h i hi
  rw [e1]
  simp [and_assoc]
theorem worldOKI_false {l : List IAcct} (h : ¬ (l.length ≤ 8 ∧ (∀ (i : Nat) (h : i + 1 < l.length), (l[i]).addr < (l[i + 1]).addr) ∧ (∀ (i : Nat) (h : i < l.length), (l[i]).ok = true) ∧ sumI l < P256)) : worldOKI l = false := by
  cases hq : worldOKI l
  · rfl
  · exact absurd ((worldOKI_iff l).1 hq) h
section
variable {O : Nat → Prop} {w : World} {v : Value} {l : List IAcct}
set_option maxRecDepth 100000 in
set_option maxHeartbeats 6400000 in
theorem oWorldOK (h : EL 55 (IAcC O w) O w v l) : Calls Hvah.prog 40 #[v] w fun e w' => e = .returned (.bool (worldOKI l)) ∧ Ext w w' := by
  obtain ⟨vo, vc, hv, hv1, hv2⟩ := h.slice
  subst hv
  have hP0 : 0 < P256 := by rw [P256_eq]; decide
  obtain ⟨n, hn⟩ : ∃ n, Hid (l.length = n) := ⟨_, rfl⟩
  have hnn : (n : Int) ≤ 9223372036854775807 := by have := hn.out; omega
  rw [hn.out] at hv1
  rw [show (Value.slice vo l.length vc) = .slice vo n vc by rw [hn.out]]
  rcases Nat.lt_or_ge 8 n with h8 | h8
  · have z8 : (8 : Int) < n := by omega
    have hz : Hid (worldOKI l = false) := worldOKI_false (fun z => by have := z.1; have := hn.out; omega)
    go_enter Hvah.func40, Hvah.ntmps40
    go_wp2
    go_ret
    exact ⟨by rw [hz.out]; rfl, Ext.refl _⟩
  · have z8 : ¬ (8 : Int) < n := by omega
    go_enter Hvah.func40, Hvah.ntmps40
    go_upto_region 5 with (first | ((with_reducible (refine Veil.out ?_; apply wl_allocBB)); rintro S W2 c2 e2 b2 a2 gS))
    try simp only [Act.put]
    go_loopw [10] (fun iv wr => ∃ (i x : Nat) (cS : Nat → Value), iv = .int .i64 (i : Nat) ∧ i ≤ n ∧ Hid (sumI (l.take i) = x) ∧ Hid (∀ (k : Nat) (_ : k + 1 < i) (h : k + 1 < l.length), (l[k]).addr < (l[k + 1]).addr) ∧ Hid (∀ (k : Nat) (_ : k < i) (h : k < l.length), (l[k]).ok = true) ∧ x < P256 ∧ Blk wr S 32 33 cS ∧ BAt cS 0 x ∧ Ext w wr) (fun iv _ => n - (intOf iv).toNat)
    case atStart => exact ⟨0, 0, c2, rfl, Nat.zero_le _, (by simp [sumI] : sumI (l.take 0) = 0), (fun k hk _ => absurd hk (Nat.not_lt_zero _) : ∀ (k : Nat) (_ : k + 1 < 0) (h : k + 1 < l.length), (l[k]).addr < (l[k + 1]).addr), (fun k hk _ => absurd hk (Nat.not_lt_zero _) : ∀ (k : Nat) (_ : k < 0) (h : k < l.length), (l[k]).ok = true), hP0, b2, a2, e2⟩
    case round =>
    clear b2 a2
    obtain ⟨i, x, cS, rfl, hi, hx, hasc, hok, hxl, bS, hxB, he⟩ := hrel
    rcases Nat.lt_or_ge i n with hlt | hge
    · have z1 : (i : Int) < n := by omega
      have hil : i < l.length := by have := hn.out; omega
      rcases h with ⟨rfl, _⟩ | ⟨b, off, cap, cs, hv, hcap, hc2', hOb, hb, hcell, hrow⟩
      · simp at hil
      injection hv with hv1 hv2 hv3
      clear hv2
      subst hv1
      subst hv3
      have hri := hrow i hil
      obtain ⟨i1, hi1⟩ : ∃ z : Nat, Hid ((i + 1 : Nat) = z) := ⟨_, rfl⟩
      have j1 : IntKind.i64.wrap ((i : Int) + 1) = (i1 : Int) := by rw [IntKind.wrap_i64, ← hi1.out]; omega
      have hA : ∀ (q : Nat) (hq : q < l.length), RowIn wr b (off + q * 55) (bcells (beL 20 (l[q]).addr)).toArray := fun q hq j u hu => by
        have hu' : (av (l[q]).addr)[j]? = some u := hu
        have hj := (Array.getElem?_eq_some_iff.1 hu').1
        have hrq := hrow q hq
        rw [av_size hrq.aLt] at hj
        rw [show off + q * 55 + j = off + (q * 55 + j) by omega, (he.cell (p := ⟨b, off + (q * 55 + j), none⟩) hb).trans (hcell _ (by omega)), hrq.addr j u hu']
      have hal : ∀ (q : Nat) (hq : q < l.length), (l[q]).addr < 2 ^ 160 := fun q hq => (hrow q hq).aLt
      have hbl' : b < wr.heap.size := Nat.lt_of_lt_of_le hb he.size
      have hasc0 : i = 0 → Hid (∀ (k : Nat) (_ : k + 1 < i + 1) (h : k + 1 < l.length), (l[k]).addr < (l[k + 1]).addr) := fun hi0 k hk _ => absurd hk (by omega)
      rcases Nat.eq_zero_or_pos i with hi0 | hi0
      · have hasc' := hasc0 hi0
        clear hA hal hasc hasc0
        have zi : decide ((0 : Int) < (i : Int)) = false := decide_eq_false (by omega)
        have zi' : Hid (i = 0) := hi0
        clear hi0
        go_upto_region 7 with (fail)
        refine w_ext ?_
        rintro W0 hW0
        refine wp_region_held_drew (S := fun w' => Ext W0 w') (by kernel_rfl) (Ext.refl _).drew (fun hHeld => ?_)
        have HH : Hid (Ext W0 _) := hHeld
        clear hHeld
        refine wpAnyH_take (i := 0) (v := ?_) rfl (by kernel_rfl) (by kernel_rfl) (by kernel_rfl) (fun _ _ _ h => h) (Or.inl ⟨by rfl, ?_⟩) HH.out ?_
        rotate_left
        · intro w hSw; go_simp; try with_reducible rfl
        change wpAnyH _ _ _ _ _ _ _ (Act.put _ (some 13) _) _
        simp only [Act.put, List.setIfInBounds_toArray, List.set_cons_zero, List.set_cons_succ]
        refine wpAnyH_take (i := 1) (v := .bool false) rfl (by kernel_rfl) (by kernel_rfl) (by kernel_rfl) (fun _ _ _ h => h) (Or.inl ⟨by rfl, ?_⟩) HH.out ?_
        · intro w hSw; go_simp; have := zi'.out; first | rfl | omega | done
        change wpAnyH _ _ _ _ _ _ _ (Act.put _ (some 14) _) _
        simp only [Act.put, List.setIfInBounds_toArray, List.set_cons_zero, List.set_cons_succ]
        refine wpAnyH_take (i := 2) (v := ?_) rfl (by kernel_rfl) (by kernel_rfl) (by kernel_rfl) (fun _ _ _ h => h) (Or.inl ⟨by rfl, ?_⟩) HH.out ?_
        rotate_left
        · intro w hSw; go_simp; try with_reducible rfl
        change wpAnyH _ _ _ _ _ _ _ (Act.put _ (some 15) _) _
        simp only [Act.put, List.setIfInBounds_toArray, List.set_cons_zero, List.set_cons_succ]
        refine wpAnyH_take (i := 3) (v := undef) rfl (by kernel_rfl) (by kernel_rfl) (by kernel_rfl) (fun _ _ _ h => h) (Or.inr ⟨by rfl, rfl⟩) HH.out ?_
        change wpAnyH _ _ _ _ _ _ _ (Act.put _ (some 16) _) _
        simp only [Act.put, List.setIfInBounds_toArray, List.set_cons_zero, List.set_cons_succ]
        refine wpAnyH_take (i := 4) (v := undef) rfl (by kernel_rfl) (by kernel_rfl) (by kernel_rfl) (fun _ _ _ h => h) (Or.inr ⟨by rfl, rfl⟩) HH.out ?_
        change wpAnyH _ _ _ _ _ _ _ (Act.put _ (some 17) _) _
        simp only [Act.put, List.setIfInBounds_toArray, List.set_cons_zero, List.set_cons_succ]
        refine wpAnyH_take (i := 5) (v := undef) rfl (by kernel_rfl) (by kernel_rfl) (by kernel_rfl) (fun _ _ _ h => h) (Or.inr ⟨by rfl, rfl⟩) HH.out ?_
        change wpAnyH _ _ _ _ _ _ _ (Act.put _ (some 18) _) _
        simp only [Act.put, List.setIfInBounds_toArray, List.set_cons_zero, List.set_cons_succ]
        refine wpAnyH_take (i := 6) (v := undef) rfl (by kernel_rfl) (by kernel_rfl) (by kernel_rfl) (fun _ _ _ h => h) (Or.inr ⟨by rfl, rfl⟩) HH.out ?_
        change wpAnyH _ _ _ _ _ _ _ (Act.put _ (some 19) _) _
        simp only [Act.put, List.setIfInBounds_toArray, List.set_cons_zero, List.set_cons_succ]
        refine wpAnyH_take (i := 7) (v := undef) rfl (by kernel_rfl) (by kernel_rfl) (by kernel_rfl) (fun _ _ _ h => h) (Or.inr ⟨by rfl, rfl⟩) HH.out ?_
        change wpAnyH _ _ _ _ _ _ _ (Act.put _ (some 20) _) _
        simp only [Act.put, List.setIfInBounds_toArray, List.set_cons_zero, List.set_cons_succ]
        refine wpAnyH_take (i := 8) (v := undef) rfl (by kernel_rfl) (by kernel_rfl) (by kernel_rfl) (fun _ _ _ h => h) (Or.inr ⟨by rfl, rfl⟩) HH.out ?_
        change wpAnyH _ _ _ _ _ _ _ (Act.put _ (some 21) _) _
        simp only [Act.put, List.setIfInBounds_toArray, List.set_cons_zero, List.set_cons_succ]
        refine wpAnyH_take (i := 9) (v := undef) rfl (by kernel_rfl) (by kernel_rfl) (by kernel_rfl) (fun _ _ _ h => h) (Or.inr ⟨by rfl, rfl⟩) HH.out ?_
        change wpAnyH _ _ _ _ _ _ _ (Act.put _ (some 22) _) _
        simp only [Act.put, List.setIfInBounds_toArray, List.set_cons_zero, List.set_cons_succ]
        refine wpAnyH_take (i := 10) (v := undef) rfl (by kernel_rfl) (by kernel_rfl) (by kernel_rfl) (fun _ _ _ h => h) (Or.inr ⟨by rfl, rfl⟩) HH.out ?_
        change wpAnyH _ _ _ _ _ _ _ (Act.put _ (some 23) _) _
        simp only [Act.put, List.setIfInBounds_toArray, List.set_cons_zero, List.set_cons_succ]
        refine wpAnyH_take (i := 11) (v := undef) rfl (by kernel_rfl) (by kernel_rfl) (by kernel_rfl) (fun _ _ _ h => h) (Or.inr ⟨by rfl, rfl⟩) HH.out ?_
        change wpAnyH _ _ _ _ _ _ _ (Act.put _ (some 24) _) _
        simp only [Act.put, List.setIfInBounds_toArray, List.set_cons_zero, List.set_cons_succ]
        refine wpAnyH_take (i := 12) (v := undef) rfl (by kernel_rfl) (by kernel_rfl) (by kernel_rfl) (fun _ _ _ h => h) (Or.inr ⟨by rfl, rfl⟩) HH.out ?_
        change wpAnyH _ _ _ _ _ _ _ (Act.put _ (some 25) _) _
        simp only [Act.put, List.setIfInBounds_toArray, List.set_cons_zero, List.set_cons_succ]
        refine wpAnyH_take (i := 13) (v := undef) rfl (by kernel_rfl) (by kernel_rfl) (by kernel_rfl) (fun _ _ _ h => h) (Or.inr ⟨by rfl, rfl⟩) HH.out ?_
        change wpAnyH _ _ _ _ _ _ _ (Act.put _ (some 26) _) _
        simp only [Act.put, List.setIfInBounds_toArray, List.set_cons_zero, List.set_cons_succ]
        refine wpAnyH_take (i := 14) (v := undef) rfl (by kernel_rfl) (by kernel_rfl) (by kernel_rfl) (fun _ _ _ h => h) (Or.inr ⟨by rfl, rfl⟩) HH.out ?_
        change wpAnyH _ _ _ _ _ _ _ (Act.put _ (some 27) _) _
        simp only [Act.put, List.setIfInBounds_toArray, List.set_cons_zero, List.set_cons_succ]
        refine wpAnyH_take (i := 15) (v := undef) rfl (by kernel_rfl) (by kernel_rfl) (by kernel_rfl) (fun _ _ _ h => h) (Or.inr ⟨by rfl, rfl⟩) HH.out ?_
        change wpAnyH _ _ _ _ _ _ _ (Act.put _ (some 28) _) _
        simp only [Act.put, List.setIfInBounds_toArray, List.set_cons_zero, List.set_cons_succ]
        refine wpAnyH_take (i := 16) (v := undef) rfl (by kernel_rfl) (by kernel_rfl) (by kernel_rfl) (fun _ _ _ h => h) (Or.inr ⟨by rfl, rfl⟩) HH.out ?_
        change wpAnyH _ _ _ _ _ _ _ (Act.put _ (some 29) _) _
        simp only [Act.put, List.setIfInBounds_toArray, List.set_cons_zero, List.set_cons_succ]
        refine wpAnyH_take (i := 17) (v := ?_) rfl (by kernel_rfl) (by kernel_rfl) (by kernel_rfl) (fun _ _ _ h => h) (Or.inl ⟨by rfl, ?_⟩) HH.out ?_
        rotate_left
        · intro w hSw; go_simp; try with_reducible rfl
        change wpAnyH _ _ _ _ _ _ _ (Act.put _ (some 30) _) _
        simp only [Act.put, List.setIfInBounds_toArray, List.set_cons_zero, List.set_cons_succ]
        refine wpAnyH_done (by kernel_rfl) ?_ _
        have HH9 := HH.out
        have eT : Ext wr _ := hW0.trans HH9
        refine w_ext ?_
        rintro W5 hW5
        have eT5 : Ext wr W5 := eT.trans hW5
        have e5 : Ext w W5 := he.trans eT5
        have bS5 := bS.ext eT5
        have HA := oAccountOK (O := O) (w := W5) (b := b) (o := off + i * 55) (p := i * 55) (c := cs) (fun j hj => by rw [Nat.add_assoc]; exact (e5.cell (p := ⟨b, off + (i * 55 + j), none⟩) hb).trans (hcell _ (by omega))) (hri.ext e5)
        have hRb : RowIn W5 b (off + i * 55 + 21) (bw (l[i]'hil).bal) := fun j u hu => by
          have hj := (Array.getElem?_eq_some_iff.1 hu).1
          rw [bwS hri.bLt] at hj
          rw [show off + i * 55 + 21 + j = off + (i * 55 + (21 + j)) by omega]
          rw [(e5.cell (p := ⟨b, off + (i * 55 + (21 + j)), none⟩) hb).trans (hcell _ (by omega)), ← Nat.add_assoc, hri.bal j u hu]
        have hbl := hri.bLt
        have hwf : (l[i]'hil).ok = false → Hid (worldOKI l = false) := fun q => worldOKI_false (fun z => by rw [z.2.2.1 i hil] at q; exact absurd q (by decide))
        have hok1 := fun (q : (l[i]'hil).ok = true) => (show Hid (∀ (k : Nat) (_ : k < i + 1) (h : k < l.length), (l[k]).ok = true) from fun k hk h => by
          rcases Nat.lt_or_ge k i with q2 | q2
          · exact hok.out k q2 h
          · obtain rfl : k = i := by omega
            exact q)
        have hst := sumI_take l i hil
        have hsl := sumI_le l (i + 1)
        rw [hst, hx.out] at hsl
        rw [hx.out] at hst
        have hwf2 : ¬ x + (l[i]'hil).bal < P256 → Hid (worldOKI l = false) := fun q => worldOKI_false (fun z => by have := z.2.2.2; omega)
        have hst' : Hid (sumI (l.take (i + 1)) = x + (l[i]'hil).bal) := hst
        clear hst hsl hok hx hcell hrow hri bS
        generalize (l[i]'hil).ok = okb at *
        generalize (l[i]'hil).bal = y at *
        have hb5 : b < W5.heap.size := Nat.lt_of_lt_of_le hb e5.size
        have hbS : ¬ b = S := fun q => by rw [q] at hb; omega
        cases okb
        · have hz := hwf rfl
          clear hwf hwf2 hok1
          go_wp2_with (first | (go_at_call 94; refine HA.mono ?_; rintro e w1 ⟨rfl, h86⟩))
          go_ret
          exact ⟨by rw [hz.out]; rfl, e5.trans h86⟩
        · have hok' := hok1 rfl
          clear hwf hok1
          have HT := fun W (hW : Ext W5 W) => oAddTo (bS5.ext hW) hxB hxl hbl (RowIn.ext hRb hb5 hW) (Nat.lt_of_lt_of_le hb5 hW.size) hbS
          rcases Nat.lt_or_ge (x + y) P256 with hxy | hxy
          · rw [decide_eq_true hxy] at HT
            have hxy' : Hid (x + y < P256) := hxy
            rw [Nat.mod_eq_of_lt hxy] at HT
            clear hwf2 hxy
            go_wp2_with (first | (go_at_call 94; refine HA.mono ?_; rintro e w1 ⟨rfl, h86⟩) | (go_at_call 95; refine (HT _ h86).mono ?_; rintro e w2 ⟨c2, rfl, b2, a2, m2⟩))
            go_roundw
            case rel =>
              have q1 := hi1.out
              have hm : Ext w w2 := Ext.trans_mod (e5.trans h86) m2 (fun q hq => by have hq2 : q = S := hq; rw [hq2]; exact gS)
              refine ⟨i1, x + y, c2, rfl, by omega, ?_, ?_, ?_, hxy'.out, b2, a2, hm⟩
              · rw [← q1]; exact hst'
              · rw [← q1]; exact hasc'
              · rw [← q1]; exact hok'
            case measure => have q1 := hi1.out; simp [intOf]; omega
          · have hz := hwf2 (by omega)
            rw [decide_eq_false (by omega)] at HT
            clear hwf2 hxy
            go_wp2_with (first | (go_at_call 94; refine HA.mono ?_; rintro e w1 ⟨rfl, h86⟩) | (go_at_call 95; refine (HT _ h86).mono ?_; rintro e w2 ⟨c2, rfl, b2, a2, m2⟩))
            go_ret
            have hm : Ext w w2 := Ext.trans_mod (e5.trans h86) m2 (fun q hq => by have hq2 : q = S := hq; rw [hq2]; exact gS)
            exact ⟨by rw [hz.out]; rfl, hm⟩
      · obtain ⟨k, hk⟩ : ∃ k, Hid (i = k + 1) := ⟨i - 1, by show i = i - 1 + 1; omega⟩
        have zi : (0 : Int) < i := by omega
        have hkS : k < l.length := by have := hk.out; omega
        have jk : IntKind.i64.wrap ((i : Int) - 1) = (k : Int) := by have := hk.out; rw [IntKind.wrap_i64]; omega
        have zk : (k : Int) < n := by have := hk.out; omega
        have zk0 : (0 : Int) ≤ k := by omega
        have hKi := hA i hil
        have hKk := hA k hkS
        have lki := hal i hil
        have lkk := hal k hkS
        have hle := less_sN (beL 20 (l[k]'hkS).addr) (beL 20 (l[i]'hil).addr) (by rw [len20 lkk, len20 lki]) (digits_beL 20 _) (digits_beL 20 _)
        rw [bev_beL, bev_beL] at hle
        have hk1 : ∀ (q : (l[k]'hkS).addr < (l[i]'hil).addr) (m : Nat) (_ : m + 1 < i + 1) (h : m + 1 < l.length), (l[m]).addr < (l[m + 1]).addr := fun q m hm h => by
          rcases Nat.lt_or_ge (m + 1) i with q2 | q2
          · exact hasc.out m q2 h
          · have q3 : i = m + 1 := by omega
            have q4 : k = m := by have := hk.out; omega
            subst q4
            subst q3
            exact q
        have hkf : ¬ (l[k]'hkS).addr < (l[i]'hil).addr → Hid (worldOKI l = false) := fun q => worldOKI_false (fun z => by
          have q3 := hk.out
          subst q3
          exact absurd (z.2.1 k hil) q)
        generalize (l[k]'hkS).addr = ka at hKk lkk hle hk1 hkf
        generalize (l[i]'hil).addr = kb at hKi lki hle hk1 hkf
        have hC1 := fun W (hW : Ext wr W) => row_str (cap := 20) (len20 lkk) (RowIn.ext hKk hbl' hW)
        have hC2 := fun W (hW : Ext wr W) => row_str (cap := 20) (len20 lki) (RowIn.ext hKi hbl' hW)
        obtain ⟨sa, hsa⟩ : ∃ z, Hid (sN (beL 20 ka) = z) := ⟨_, rfl⟩
        obtain ⟨sb2, hsb⟩ : ∃ z, Hid (sN (beL 20 kb) = z) := ⟨_, rfl⟩
        rw [hsa.out, hsb.out] at hle
        rw [hsa.out] at hC1
        rw [hsb.out] at hC2
        clear hA hal hasc hasc0 hi0 hKi hKk
        rcases Nat.lt_or_ge ka kb with hab | hab
        · rw [decide_eq_true hab] at hle
          have hasc' : Hid (∀ (m : Nat) (_ : m + 1 < i + 1) (h : m + 1 < l.length), (l[m]).addr < (l[m + 1]).addr) := hk1 hab
          clear hk1 hkf hab
          go_upto_region 7 with (fail)
          refine w_ext ?_
          rintro W0 hW0
          refine wp_region_held_drew (S := fun w' => Ext W0 w') (by kernel_rfl) (Ext.refl _).drew (fun hHeld => ?_)
          have HH : Hid (Ext W0 _) := hHeld
          clear hHeld
          refine wpAnyH_take (i := 0) (v := ?_) rfl (by kernel_rfl) (by kernel_rfl) (by kernel_rfl) (fun _ _ _ h => h) (Or.inl ⟨by rfl, ?_⟩) HH.out ?_
          rotate_left
          · intro w hSw; go_simp; try with_reducible rfl
          change wpAnyH _ _ _ _ _ _ _ (Act.put _ (some 13) _) _
          simp only [Act.put, List.setIfInBounds_toArray, List.set_cons_zero, List.set_cons_succ]
          refine wpAnyH_take (i := 1) (v := .bool true) rfl (by kernel_rfl) (by kernel_rfl) (by kernel_rfl) (fun _ _ _ h => h) (Or.inl ⟨by rfl, ?_⟩) HH.out ?_
          · intro w hSw; go_simp; first | rfl | omega | done
          change wpAnyH _ _ _ _ _ _ _ (Act.put _ (some 14) _) _
          simp only [Act.put, List.setIfInBounds_toArray, List.set_cons_zero, List.set_cons_succ]
          refine wpAnyH_take (i := 2) (v := ?_) rfl (by kernel_rfl) (by kernel_rfl) (by kernel_rfl) (fun _ _ _ h => h) (Or.inl ⟨by rfl, ?_⟩) HH.out ?_
          rotate_left
          · intro w hSw; go_simp; try with_reducible rfl
          change wpAnyH _ _ _ _ _ _ _ (Act.put _ (some 15) _) _
          simp only [Act.put, List.setIfInBounds_toArray, List.set_cons_zero, List.set_cons_succ]
          refine wpAnyH_take (i := 3) (v := ?_) rfl (by kernel_rfl) (by kernel_rfl) (by kernel_rfl) (fun _ _ _ h => h) (Or.inl ⟨by rfl, ?_⟩) HH.out ?_
          rotate_left
          · intro w hSw; go_simp; try with_reducible rfl
          change wpAnyH _ _ _ _ _ _ _ (Act.put _ (some 16) _) _
          simp only [Act.put, List.setIfInBounds_toArray, List.set_cons_zero, List.set_cons_succ]
          refine wpAnyH_take (i := 4) (v := ?_) rfl (by kernel_rfl) (by kernel_rfl) (by kernel_rfl) (fun _ _ _ h => h) (Or.inl ⟨by rfl, ?_⟩) HH.out ?_
          rotate_left
          · intro w hSw; go_simp; try with_reducible rfl
          change wpAnyH _ _ _ _ _ _ _ (Act.put _ (some 17) _) _
          simp only [Act.put, List.setIfInBounds_toArray, List.set_cons_zero, List.set_cons_succ]
          refine wpAnyH_take (i := 5) (v := ?_) rfl (by kernel_rfl) (by kernel_rfl) (by kernel_rfl) (fun _ _ _ h => h) (Or.inl ⟨by rfl, ?_⟩) HH.out ?_
          rotate_left
          · intro w hSw; go_simp; try with_reducible rfl
          change wpAnyH _ _ _ _ _ _ _ (Act.put _ (some 18) _) _
          simp only [Act.put, List.setIfInBounds_toArray, List.set_cons_zero, List.set_cons_succ]
          refine wpAnyH_take (i := 6) (v := ?_) rfl (by kernel_rfl) (by kernel_rfl) (by kernel_rfl) (fun _ _ _ h => h) (Or.inl ⟨by rfl, ?_⟩) HH.out ?_
          rotate_left
          · intro w hSw; go_simp; try with_reducible rfl
          change wpAnyH _ _ _ _ _ _ _ (Act.put _ (some 19) _) _
          simp only [Act.put, List.setIfInBounds_toArray, List.set_cons_zero, List.set_cons_succ]
          refine wpAnyH_take (i := 7) (v := ?_) rfl (by kernel_rfl) (by kernel_rfl) (by kernel_rfl) (fun _ _ _ h => h) (Or.inl ⟨by rfl, ?_⟩) HH.out ?_
          rotate_left
          · intro w hSw; go_simp; try with_reducible rfl
          change wpAnyH _ _ _ _ _ _ _ (Act.put _ (some 20) _) _
          simp only [Act.put, List.setIfInBounds_toArray, List.set_cons_zero, List.set_cons_succ]
          refine wpAnyH_take (i := 8) (v := ?_) rfl (by kernel_rfl) (by kernel_rfl) (by kernel_rfl) (fun _ _ _ h => h) (Or.inl ⟨by rfl, ?_⟩) HH.out ?_
          rotate_left
          · intro w hSw; go_simp; try with_reducible rfl
          change wpAnyH _ _ _ _ _ _ _ (Act.put _ (some 21) _) _
          simp only [Act.put, List.setIfInBounds_toArray, List.set_cons_zero, List.set_cons_succ]
          refine wpAnyH_take (i := 9) (v := .string sa) rfl (by kernel_rfl) (by kernel_rfl) (by kernel_rfl) (fun _ _ _ h => h) (Or.inl ⟨by rfl, ?_⟩) HH.out ?_
          · intro w hSw; have q1 := hC1 w (hW0.trans hSw); go_simp; first | rfl | done
          change wpAnyH _ _ _ _ _ _ _ (Act.put _ (some 22) _) _
          simp only [Act.put, List.setIfInBounds_toArray, List.set_cons_zero, List.set_cons_succ]
          refine wpAnyH_take (i := 10) (v := ?_) rfl (by kernel_rfl) (by kernel_rfl) (by kernel_rfl) (fun _ _ _ h => h) (Or.inl ⟨by rfl, ?_⟩) HH.out ?_
          rotate_left
          · intro w hSw; go_simp; try with_reducible rfl
          change wpAnyH _ _ _ _ _ _ _ (Act.put _ (some 23) _) _
          simp only [Act.put, List.setIfInBounds_toArray, List.set_cons_zero, List.set_cons_succ]
          refine wpAnyH_take (i := 11) (v := ?_) rfl (by kernel_rfl) (by kernel_rfl) (by kernel_rfl) (fun _ _ _ h => h) (Or.inl ⟨by rfl, ?_⟩) HH.out ?_
          rotate_left
          · intro w hSw; go_simp; try with_reducible rfl
          change wpAnyH _ _ _ _ _ _ _ (Act.put _ (some 24) _) _
          simp only [Act.put, List.setIfInBounds_toArray, List.set_cons_zero, List.set_cons_succ]
          refine wpAnyH_take (i := 12) (v := ?_) rfl (by kernel_rfl) (by kernel_rfl) (by kernel_rfl) (fun _ _ _ h => h) (Or.inl ⟨by rfl, ?_⟩) HH.out ?_
          rotate_left
          · intro w hSw; go_simp; try with_reducible rfl
          change wpAnyH _ _ _ _ _ _ _ (Act.put _ (some 25) _) _
          simp only [Act.put, List.setIfInBounds_toArray, List.set_cons_zero, List.set_cons_succ]
          refine wpAnyH_take (i := 13) (v := ?_) rfl (by kernel_rfl) (by kernel_rfl) (by kernel_rfl) (fun _ _ _ h => h) (Or.inl ⟨by rfl, ?_⟩) HH.out ?_
          rotate_left
          · intro w hSw; go_simp; try with_reducible rfl
          change wpAnyH _ _ _ _ _ _ _ (Act.put _ (some 26) _) _
          simp only [Act.put, List.setIfInBounds_toArray, List.set_cons_zero, List.set_cons_succ]
          refine wpAnyH_take (i := 14) (v := ?_) rfl (by kernel_rfl) (by kernel_rfl) (by kernel_rfl) (fun _ _ _ h => h) (Or.inl ⟨by rfl, ?_⟩) HH.out ?_
          rotate_left
          · intro w hSw; go_simp; try with_reducible rfl
          change wpAnyH _ _ _ _ _ _ _ (Act.put _ (some 27) _) _
          simp only [Act.put, List.setIfInBounds_toArray, List.set_cons_zero, List.set_cons_succ]
          refine wpAnyH_take (i := 15) (v := .string sb2) rfl (by kernel_rfl) (by kernel_rfl) (by kernel_rfl) (fun _ _ _ h => h) (Or.inl ⟨by rfl, ?_⟩) HH.out ?_
          · intro w hSw; have q2 := hC2 w (hW0.trans hSw); go_simp; first | rfl | done
          change wpAnyH _ _ _ _ _ _ _ (Act.put _ (some 28) _) _
          simp only [Act.put, List.setIfInBounds_toArray, List.set_cons_zero, List.set_cons_succ]
          refine wpAnyH_take (i := 16) (v := .bool false) rfl (by kernel_rfl) (by kernel_rfl) (by kernel_rfl) (fun _ _ _ h => h) (Or.inl ⟨by rfl, ?_⟩) HH.out ?_
          · intro w hSw; go_simp; first | rfl | simp [hle] | done
          change wpAnyH _ _ _ _ _ _ _ (Act.put _ (some 29) _) _
          simp only [Act.put, List.setIfInBounds_toArray, List.set_cons_zero, List.set_cons_succ]
          refine wpAnyH_take (i := 17) (v := ?_) rfl (by kernel_rfl) (by kernel_rfl) (by kernel_rfl) (fun _ _ _ h => h) (Or.inl ⟨by rfl, ?_⟩) HH.out ?_
          rotate_left
          · intro w hSw; go_simp; try with_reducible rfl
          change wpAnyH _ _ _ _ _ _ _ (Act.put _ (some 30) _) _
          simp only [Act.put, List.setIfInBounds_toArray, List.set_cons_zero, List.set_cons_succ]
          refine wpAnyH_done (by kernel_rfl) ?_ _
          have HH9 := HH.out
          have eT : Ext wr _ := hW0.trans HH9
          refine w_ext ?_
          rintro W5 hW5
          have eT5 : Ext wr W5 := eT.trans hW5
          have e5 : Ext w W5 := he.trans eT5
          have bS5 := bS.ext eT5
          have HA := oAccountOK (O := O) (w := W5) (b := b) (o := off + i * 55) (p := i * 55) (c := cs) (fun j hj => by rw [Nat.add_assoc]; exact (e5.cell (p := ⟨b, off + (i * 55 + j), none⟩) hb).trans (hcell _ (by omega))) (hri.ext e5)
          have hRb : RowIn W5 b (off + i * 55 + 21) (bw (l[i]'hil).bal) := fun j u hu => by
            have hj := (Array.getElem?_eq_some_iff.1 hu).1
            rw [bwS hri.bLt] at hj
            rw [show off + i * 55 + 21 + j = off + (i * 55 + (21 + j)) by omega]
            rw [(e5.cell (p := ⟨b, off + (i * 55 + (21 + j)), none⟩) hb).trans (hcell _ (by omega)), ← Nat.add_assoc, hri.bal j u hu]
          have hbl := hri.bLt
          have hwf : (l[i]'hil).ok = false → Hid (worldOKI l = false) := fun q => worldOKI_false (fun z => by rw [z.2.2.1 i hil] at q; exact absurd q (by decide))
          have hok1 := fun (q : (l[i]'hil).ok = true) => (show Hid (∀ (k : Nat) (_ : k < i + 1) (h : k < l.length), (l[k]).ok = true) from fun k hk h => by
            rcases Nat.lt_or_ge k i with q2 | q2
            · exact hok.out k q2 h
            · obtain rfl : k = i := by omega
              exact q)
          have hst := sumI_take l i hil
          have hsl := sumI_le l (i + 1)
          rw [hst, hx.out] at hsl
          rw [hx.out] at hst
          have hwf2 : ¬ x + (l[i]'hil).bal < P256 → Hid (worldOKI l = false) := fun q => worldOKI_false (fun z => by have := z.2.2.2; omega)
          have hst' : Hid (sumI (l.take (i + 1)) = x + (l[i]'hil).bal) := hst
          clear hst hsl hok hx hcell hrow hri bS
          generalize (l[i]'hil).ok = okb at *
          generalize (l[i]'hil).bal = y at *
          have hb5 : b < W5.heap.size := Nat.lt_of_lt_of_le hb e5.size
          have hbS : ¬ b = S := fun q => by rw [q] at hb; omega
          cases okb
          · have hz := hwf rfl
            clear hwf hwf2 hok1
            go_wp2_with (first | (go_at_call 94; refine HA.mono ?_; rintro e w1 ⟨rfl, h86⟩))
            go_ret
            exact ⟨by rw [hz.out]; rfl, e5.trans h86⟩
          · have hok' := hok1 rfl
            clear hwf hok1
            have HT := fun W (hW : Ext W5 W) => oAddTo (bS5.ext hW) hxB hxl hbl (RowIn.ext hRb hb5 hW) (Nat.lt_of_lt_of_le hb5 hW.size) hbS
            rcases Nat.lt_or_ge (x + y) P256 with hxy | hxy
            · rw [decide_eq_true hxy] at HT
              have hxy' : Hid (x + y < P256) := hxy
              rw [Nat.mod_eq_of_lt hxy] at HT
              clear hwf2 hxy
              go_wp2_with (first | (go_at_call 94; refine HA.mono ?_; rintro e w1 ⟨rfl, h86⟩) | (go_at_call 95; refine (HT _ h86).mono ?_; rintro e w2 ⟨c2, rfl, b2, a2, m2⟩))
              go_roundw
              case rel =>
                have q1 := hi1.out
                have hm : Ext w w2 := Ext.trans_mod (e5.trans h86) m2 (fun q hq => by have hq2 : q = S := hq; rw [hq2]; exact gS)
                refine ⟨i1, x + y, c2, rfl, by omega, ?_, ?_, ?_, hxy'.out, b2, a2, hm⟩
                · rw [← q1]; exact hst'
                · rw [← q1]; exact hasc'
                · rw [← q1]; exact hok'
              case measure => have q1 := hi1.out; simp [intOf]; omega
            · have hz := hwf2 (by omega)
              rw [decide_eq_false (by omega)] at HT
              clear hwf2 hxy
              go_wp2_with (first | (go_at_call 94; refine HA.mono ?_; rintro e w1 ⟨rfl, h86⟩) | (go_at_call 95; refine (HT _ h86).mono ?_; rintro e w2 ⟨c2, rfl, b2, a2, m2⟩))
              go_ret
              have hm : Ext w w2 := Ext.trans_mod (e5.trans h86) m2 (fun q hq => by have hq2 : q = S := hq; rw [hq2]; exact gS)
              exact ⟨by rw [hz.out]; rfl, hm⟩
        · rw [decide_eq_false (by omega)] at hle
          have hz := hkf (by omega)
          clear hk1 hkf hab
          go_upto_region 7 with (fail)
          refine w_ext ?_
          rintro W0 hW0
          refine wp_region_held_drew (S := fun w' => Ext W0 w') (by kernel_rfl) (Ext.refl _).drew (fun hHeld => ?_)
          have HH : Hid (Ext W0 _) := hHeld
          clear hHeld
          refine wpAnyH_take (i := 0) (v := ?_) rfl (by kernel_rfl) (by kernel_rfl) (by kernel_rfl) (fun _ _ _ h => h) (Or.inl ⟨by rfl, ?_⟩) HH.out ?_
          rotate_left
          · intro w hSw; go_simp; try with_reducible rfl
          change wpAnyH _ _ _ _ _ _ _ (Act.put _ (some 13) _) _
          simp only [Act.put, List.setIfInBounds_toArray, List.set_cons_zero, List.set_cons_succ]
          refine wpAnyH_take (i := 1) (v := .bool true) rfl (by kernel_rfl) (by kernel_rfl) (by kernel_rfl) (fun _ _ _ h => h) (Or.inl ⟨by rfl, ?_⟩) HH.out ?_
          · intro w hSw; go_simp; first | rfl | omega | done
          change wpAnyH _ _ _ _ _ _ _ (Act.put _ (some 14) _) _
          simp only [Act.put, List.setIfInBounds_toArray, List.set_cons_zero, List.set_cons_succ]
          refine wpAnyH_take (i := 2) (v := ?_) rfl (by kernel_rfl) (by kernel_rfl) (by kernel_rfl) (fun _ _ _ h => h) (Or.inl ⟨by rfl, ?_⟩) HH.out ?_
          rotate_left
          · intro w hSw; go_simp; try with_reducible rfl
          change wpAnyH _ _ _ _ _ _ _ (Act.put _ (some 15) _) _
          simp only [Act.put, List.setIfInBounds_toArray, List.set_cons_zero, List.set_cons_succ]
          refine wpAnyH_take (i := 3) (v := ?_) rfl (by kernel_rfl) (by kernel_rfl) (by kernel_rfl) (fun _ _ _ h => h) (Or.inl ⟨by rfl, ?_⟩) HH.out ?_
          rotate_left
          · intro w hSw; go_simp; try with_reducible rfl
          change wpAnyH _ _ _ _ _ _ _ (Act.put _ (some 16) _) _
          simp only [Act.put, List.setIfInBounds_toArray, List.set_cons_zero, List.set_cons_succ]
          refine wpAnyH_take (i := 4) (v := ?_) rfl (by kernel_rfl) (by kernel_rfl) (by kernel_rfl) (fun _ _ _ h => h) (Or.inl ⟨by rfl, ?_⟩) HH.out ?_
          rotate_left
          · intro w hSw; go_simp; try with_reducible rfl
          change wpAnyH _ _ _ _ _ _ _ (Act.put _ (some 17) _) _
          simp only [Act.put, List.setIfInBounds_toArray, List.set_cons_zero, List.set_cons_succ]
          refine wpAnyH_take (i := 5) (v := ?_) rfl (by kernel_rfl) (by kernel_rfl) (by kernel_rfl) (fun _ _ _ h => h) (Or.inl ⟨by rfl, ?_⟩) HH.out ?_
          rotate_left
          · intro w hSw; go_simp; try with_reducible rfl
          change wpAnyH _ _ _ _ _ _ _ (Act.put _ (some 18) _) _
          simp only [Act.put, List.setIfInBounds_toArray, List.set_cons_zero, List.set_cons_succ]
          refine wpAnyH_take (i := 6) (v := ?_) rfl (by kernel_rfl) (by kernel_rfl) (by kernel_rfl) (fun _ _ _ h => h) (Or.inl ⟨by rfl, ?_⟩) HH.out ?_
          rotate_left
          · intro w hSw; go_simp; try with_reducible rfl
          change wpAnyH _ _ _ _ _ _ _ (Act.put _ (some 19) _) _
          simp only [Act.put, List.setIfInBounds_toArray, List.set_cons_zero, List.set_cons_succ]
          refine wpAnyH_take (i := 7) (v := ?_) rfl (by kernel_rfl) (by kernel_rfl) (by kernel_rfl) (fun _ _ _ h => h) (Or.inl ⟨by rfl, ?_⟩) HH.out ?_
          rotate_left
          · intro w hSw; go_simp; try with_reducible rfl
          change wpAnyH _ _ _ _ _ _ _ (Act.put _ (some 20) _) _
          simp only [Act.put, List.setIfInBounds_toArray, List.set_cons_zero, List.set_cons_succ]
          refine wpAnyH_take (i := 8) (v := ?_) rfl (by kernel_rfl) (by kernel_rfl) (by kernel_rfl) (fun _ _ _ h => h) (Or.inl ⟨by rfl, ?_⟩) HH.out ?_
          rotate_left
          · intro w hSw; go_simp; try with_reducible rfl
          change wpAnyH _ _ _ _ _ _ _ (Act.put _ (some 21) _) _
          simp only [Act.put, List.setIfInBounds_toArray, List.set_cons_zero, List.set_cons_succ]
          refine wpAnyH_take (i := 9) (v := .string sa) rfl (by kernel_rfl) (by kernel_rfl) (by kernel_rfl) (fun _ _ _ h => h) (Or.inl ⟨by rfl, ?_⟩) HH.out ?_
          · intro w hSw; have q1 := hC1 w (hW0.trans hSw); go_simp; first | rfl | done
          change wpAnyH _ _ _ _ _ _ _ (Act.put _ (some 22) _) _
          simp only [Act.put, List.setIfInBounds_toArray, List.set_cons_zero, List.set_cons_succ]
          refine wpAnyH_take (i := 10) (v := ?_) rfl (by kernel_rfl) (by kernel_rfl) (by kernel_rfl) (fun _ _ _ h => h) (Or.inl ⟨by rfl, ?_⟩) HH.out ?_
          rotate_left
          · intro w hSw; go_simp; try with_reducible rfl
          change wpAnyH _ _ _ _ _ _ _ (Act.put _ (some 23) _) _
          simp only [Act.put, List.setIfInBounds_toArray, List.set_cons_zero, List.set_cons_succ]
          refine wpAnyH_take (i := 11) (v := ?_) rfl (by kernel_rfl) (by kernel_rfl) (by kernel_rfl) (fun _ _ _ h => h) (Or.inl ⟨by rfl, ?_⟩) HH.out ?_
          rotate_left
          · intro w hSw; go_simp; try with_reducible rfl
          change wpAnyH _ _ _ _ _ _ _ (Act.put _ (some 24) _) _
          simp only [Act.put, List.setIfInBounds_toArray, List.set_cons_zero, List.set_cons_succ]
          refine wpAnyH_take (i := 12) (v := ?_) rfl (by kernel_rfl) (by kernel_rfl) (by kernel_rfl) (fun _ _ _ h => h) (Or.inl ⟨by rfl, ?_⟩) HH.out ?_
          rotate_left
          · intro w hSw; go_simp; try with_reducible rfl
          change wpAnyH _ _ _ _ _ _ _ (Act.put _ (some 25) _) _
          simp only [Act.put, List.setIfInBounds_toArray, List.set_cons_zero, List.set_cons_succ]
          refine wpAnyH_take (i := 13) (v := ?_) rfl (by kernel_rfl) (by kernel_rfl) (by kernel_rfl) (fun _ _ _ h => h) (Or.inl ⟨by rfl, ?_⟩) HH.out ?_
          rotate_left
          · intro w hSw; go_simp; try with_reducible rfl
          change wpAnyH _ _ _ _ _ _ _ (Act.put _ (some 26) _) _
          simp only [Act.put, List.setIfInBounds_toArray, List.set_cons_zero, List.set_cons_succ]
          refine wpAnyH_take (i := 14) (v := ?_) rfl (by kernel_rfl) (by kernel_rfl) (by kernel_rfl) (fun _ _ _ h => h) (Or.inl ⟨by rfl, ?_⟩) HH.out ?_
          rotate_left
          · intro w hSw; go_simp; try with_reducible rfl
          change wpAnyH _ _ _ _ _ _ _ (Act.put _ (some 27) _) _
          simp only [Act.put, List.setIfInBounds_toArray, List.set_cons_zero, List.set_cons_succ]
          refine wpAnyH_take (i := 15) (v := .string sb2) rfl (by kernel_rfl) (by kernel_rfl) (by kernel_rfl) (fun _ _ _ h => h) (Or.inl ⟨by rfl, ?_⟩) HH.out ?_
          · intro w hSw; have q2 := hC2 w (hW0.trans hSw); go_simp; first | rfl | done
          change wpAnyH _ _ _ _ _ _ _ (Act.put _ (some 28) _) _
          simp only [Act.put, List.setIfInBounds_toArray, List.set_cons_zero, List.set_cons_succ]
          refine wpAnyH_take (i := 16) (v := .bool true) rfl (by kernel_rfl) (by kernel_rfl) (by kernel_rfl) (fun _ _ _ h => h) (Or.inl ⟨by rfl, ?_⟩) HH.out ?_
          · intro w hSw; go_simp; first | rfl | simp [hle] | done
          change wpAnyH _ _ _ _ _ _ _ (Act.put _ (some 29) _) _
          simp only [Act.put, List.setIfInBounds_toArray, List.set_cons_zero, List.set_cons_succ]
          refine wpAnyH_take (i := 17) (v := ?_) rfl (by kernel_rfl) (by kernel_rfl) (by kernel_rfl) (fun _ _ _ h => h) (Or.inl ⟨by rfl, ?_⟩) HH.out ?_
          rotate_left
          · intro w hSw; go_simp; try with_reducible rfl
          change wpAnyH _ _ _ _ _ _ _ (Act.put _ (some 30) _) _
          simp only [Act.put, List.setIfInBounds_toArray, List.set_cons_zero, List.set_cons_succ]
          refine wpAnyH_done (by kernel_rfl) ?_ _
          go_wp2
          go_ret
          exact ⟨by rw [hz.out]; rfl, he.trans (hW0.trans HH.out)⟩
    · have z1 : ¬ (i : Int) < n := by omega
      have hz : Hid (worldOKI l = true) := (worldOKI_iff l).2 ⟨by have := hn.out; omega, fun k h => hasc.out k (by have := hn.out; omega) h, fun k h => hok.out k (by have := hn.out; omega) h, by
        have q1 := hn.out
        have q2 := hx.out
        rw [List.take_of_length_le (by omega)] at q2
        rw [q2]; exact hxl⟩
      go_wp2
      go_ret
      exact ⟨by rw [hz.out]; rfl, he⟩
end
end Go.Proofs.YgvahwGreat
