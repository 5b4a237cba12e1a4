import Derived.Test.YgvahwGreatNatG
namespace Go.Proofs.YgvahwGreat
open Go.RowKit

theorem div_bit (x q : Nat) : x / 2 ^ q = 2 * (x / 2 ^ (q + 1)) + x / 2 ^ q % 2 := by
  rw [Nat.pow_succ, ← Nat.div_div_eq_div_mul]
  omega

theorem divmod_lo (X y c : Nat) (hc : c ≤ 1) (h : 2 * (X % y) + c < y) : (2 * X + c) / y = 2 * (X / y) ∧ (2 * X + c) % y = 2 * (X % y) + c := by
  have hX := Nat.div_add_mod X y
  refine (Nat.div_mod_unique (by omega)).2 ⟨?_, h⟩
  rw [Nat.mul_left_comm]; omega
theorem divmod_hi (X y c : Nat) (hc : c ≤ 1) (hy : 0 < y) (h : y ≤ 2 * (X % y) + c) : (2 * X + c) / y = 2 * (X / y) + 1 ∧ (2 * X + c) % y = 2 * (X % y) + c - y := by
  have hX := Nat.div_add_mod X y
  have hl := Nat.mod_lt X hy
  refine (Nat.div_mod_unique hy).2 ⟨?_, by omega⟩
  rw [Nat.mul_add, Nat.mul_left_comm]; omega

theorem or_bit_fin : ∀ (d : Fin 256) (m : Fin 8), d.val.testBit m.val = false → d.val ||| 2 ^ m.val = d.val + 2 ^ m.val ∧ d.val + 2 ^ m.val < 256 := by decide +kernel
theorem or_bit (d m : Nat) (hd : d < 256) (hm : m < 8) (h : d.testBit m = false) : d ||| 2 ^ m = d + 2 ^ m ∧ d + 2 ^ m < 256 := or_bit_fin ⟨d, hd⟩ ⟨m, hm⟩ h
theorem dbl_fin : ∀ (d : Fin 256) (c : Fin 2), (d.val * 2 % 256) ||| c.val = (2 * d.val + c.val) % 256 ∧ d.val / 128 = (2 * d.val + c.val) / 256 := by decide +kernel
theorem dbl_byte (d c : Nat) (hd : d < 256) (hc : c ≤ 1) : (d * 2 % 256) ||| c = (2 * d + c) % 256 ∧ d / 128 = (2 * d + c) / 256 := dbl_fin ⟨d, hd⟩ ⟨c, by omega⟩

theorem dbl_step (V R P c d : Nat) (h : V + P * c = R) : V + P * ((2 * d + c) % 256) + P * 256 * ((2 * d + c) / 256) = R + 2 * (P * d) := by
  have := carry_step P (2 * d + c)
  rw [Nat.mul_add, Nat.mul_left_comm] at this
  omega

/-- No bit of a multiple of 2^(q+1) is set at q. -/
theorem mul_pow_bit (Q q : Nat) : (Q * 2 ^ (q + 1)).testBit q = false := by
  rw [Nat.testBit_mul_two_pow]; simp; omega

set_option maxHeartbeats 800000 in
theorem divmod_zero (O : Nat → Prop) (v u : Value) (x : Nat) (w : World) (h : NV O w v x) (g : NV O w u 0) :
    Calls Hvah.prog 164 #[v, u] w fun e w' => e = .returned (.tuple #[.slice none 0 0, .slice none 0 0, .bool false]) ∧ w' = w := by
  have hz : digs 0 = [] := rfl
  go_enter Hvah.func164, Hvah.ntmps164
  go_wp2_with (first
    | (go_at_call 97; refine (trim_nv O v x w h).mono ?_; rintro e w' ⟨o, rfl, hbs, hle, rfl⟩)
    | (go_at_call 97; refine (trim_nv O u 0 _ g).mono ?_; rintro e w' ⟨o2, rfl, hbs2, hle2, rfl⟩))
  go_ret3
  exact ⟨rfl, rfl⟩

theorem take_row' (g n m : Nat) (A B : List Nat) (o : Option Addr) (cB : Nat) (w : World) (hn : A.length = n) (hm : B.length = m) (hrow : w.heap[g]? = some (.cells (bcells A).toArray 5 (0, 0))) (dA : Digits A) (hA : n ≤ 140737488355328)
    (hB : BS (· = g) w o B) (hBA : m ≤ n) :
    Calls Hvah.prog 225 #[.slice (some ⟨g, 0, none⟩) n n, .slice o m cB] w fun e w' => ∃ (A' : List Nat) (c : Nat), e = .returned (.int .u16 c) ∧ c ≤ 1 ∧ A'.length = n ∧ Digits A' ∧
      val A' + val B = val A + 256 ^ n * c ∧ w'.heap[g]? = some (.cells (bcells A').toArray 5 (0, 0)) ∧ Upd g w w' := by
  subst hn hm
  exact take_row g A B o cB w hrow dA hA hB hBA

set_option maxHeartbeats 6400000 in
/-- nat.DivMod. -/
theorem divmod_nv (O : Nat → Prop) (v u : Value) (x y : Nat) (w : World) (hO : ∀ b, O b → b < w.heap.size) (h : NV O w v x) (g : NV O w u y) (hy : 0 < y) (hx : (digs x).length ≤ 1000000) (hyl : (digs y).length ≤ 1000000) :
    Calls Hvah.prog 164 #[v, u] w fun e w' => ∃ q r, e = .returned (.tuple #[q, r, .bool true]) ∧ NL O w' q (digs (x / y)) ∧ NL O w' r (digs (x % y)) ∧ Ext w w' := by
  have HX : Hid (val (digs x) = x) := val_digs x
  have HY : Hid (val (digs y) = y) := val_digs y
  have dx := digits_digs x
  have dy := digits_digs y
  have hyp : 0 < (digs y).length := by rw [digs_pos y (by omega)]; simp
  have h0 := h
  have g0 := g
  go_enter Hvah.func164, Hvah.ntmps164
  go_wp2_with (first
    | (go_at_call 97; refine (trim_nv (OG w.heap.size) v x w (h.og (Ext.refl _))).mono ?_; rintro e w' ⟨o, rfl, hbs, hle, rfl⟩)
    | (go_at_call 97; refine (trim_nv _ u y _ (g.og (Ext.refl _))).mono ?_; rintro e w' ⟨o2, rfl, hbs2, hle2, rfl⟩)
    | (at_make; refine wl_make_bytes Hvah.underlying109 (digs x).length rfl rfl hle ?_)
    | (at_make; refine wl_make_bytes Hvah.underlying109 ((digs y).length + 1) rfl rfl (by omega) ?_))
  go_loopw [9] (fun iv wr => ∃ (i : Nat) (qs rs : List Nat), i ≤ 8 * (digs x).length ∧ iv = .int .i64 i ∧ qs.length = (digs x).length ∧ rs.length = (digs y).length + 1 ∧ Digits qs ∧ Digits rs ∧
      Hid (val qs = (x / 2 ^ i / y) * 2 ^ i) ∧ Hid (val rs = x / 2 ^ i % y) ∧ wr.heap[w'.heap.size]? = some (.cells (bcells qs).toArray 5 (0, 0)) ∧ wr.heap[w'.heap.size + 1]? = some (.cells (bcells rs).toArray 5 (0, 0)) ∧ Ext w' wr)
    (fun i _ => (intOf i).toNat)
  case atStart =>
    have hx0 : x / 2 ^ (8 * (digs x).length) = 0 := by
      apply Nat.div_eq_of_lt
      rw [Nat.pow_mul]
      exact (digs_length_le x _).1 (Nat.le_refl _)
    refine ⟨8 * (digs x).length, List.replicate (digs x).length 0, List.replicate ((digs y).length + 1) 0, Nat.le_refl _, int_eq (by omega), by simp, by simp, ?_, ?_, ?_, ?_, ?_, ?_, ((Ext.refl _).alloc _ _).alloc _ _⟩
    · intro d hd; rw [List.eq_of_mem_replicate hd]; decide
    · intro d hd; rw [List.eq_of_mem_replicate hd]; decide
    · unfold Hid; rw [hx0, val_replicate_zero]; simp
    · unfold Hid; rw [hx0, val_replicate_zero]; simp
    · rw [Below.heap_alloc _ _ _ (by simp), heap_new]; rfl
    · rw [show w'.heap.size + 1 = (w'.alloc (.cells (zrow (digs x).length) 5)).heap.size by simp, heap_new]; rfl
  case round =>
    obtain ⟨i, qs, rs, hi, rfl, hql, hrl, hqd, hrd, hqv, hrv, hrow1, hrow2, hext⟩ := hrel
    by_cases hi0 : 0 < i
    · obtain ⟨q, rfl⟩ : ∃ q, i = q + 1 := ⟨i - 1, by omega⟩
      have hat : q / 8 < (digs x).length := by omega
      have hbx := hbs.keep (Ext.refl _) hext
      obtain ⟨b, off, rfl, hO1, hb1, hcell⟩ := hbx.spot (by intro e; rw [e] at hat; simp at hat)
      have c1 := hcell (q / 8) hat
      have bd := dx _ (List.getElem_mem hat)
      have HT : Hid ((bits .and .u8 (((digs x)[q / 8] : Int) / 2 ^ (q % 8)) 1) = ((x / 2 ^ q % 2 : Nat) : Int)) := by
        unfold Hid
        have h1 := testBit_val (digs x) dx q
        rw [HX.out] at h1
        have h2 : dig (digs x) (q / 8) = (digs x)[q / 8] := by simp [dig, hat]
        rw [h2] at h1
        generalize (digs x)[q / 8] = d at *
        have e1 : ((d : Int) / 2 ^ (q % 8)) = ((d / 2 ^ (q % 8) : Nat) : Int) := by simp
        have hle : d / 2 ^ (q % 8) ≤ d := Nat.div_le_self _ _
        rw [e1, show (1 : Int) = ((1 : Nat) : Int) from rfl, u8_and_nat _ 1 (by omega) (by omega), Nat.and_one_is_mod]
        rw [Nat.testBit_eq_decide_div_mod_eq, Nat.testBit_eq_decide_div_mod_eq] at h1
        have a1 := Nat.mod_two_eq_zero_or_one (x / 2 ^ q)
        have a2 := Nat.mod_two_eq_zero_or_one (d / 2 ^ (q % 8))
        rcases a1 with a1 | a1 <;> rcases a2 with a2 | a2 <;> rw [a1, a2] at h1 ⊢ <;> simp at h1
      have hcb : x / 2 ^ q % 2 ≤ 1 := by omega
      have HB : Hid (_ = _) := div_bit x q
      generalize (digs x)[q / 8] = d at *
      generalize hcbb : x / 2 ^ q % 2 = cb at *
      clear hcell hcbb
      go_wp2
      go_loopw [12, 52] (fun cy kv wi => ∃ (k c : Nat) (xs : List Nat), k ≤ rs.length ∧ kv = .int .i64 k ∧ cy = .int .u8 c ∧ c ≤ 1 ∧ xs.length = k ∧ Digits xs ∧ Hid (val xs + 256 ^ k * c = 2 * val (rs.take k) + cb) ∧
          wi.heap[w'.heap.size + 1]? = some (.cells (bcells (xs ++ rs.drop k)).toArray 5 (0, 0)) ∧ wi.heap[w'.heap.size]? = some (.cells (bcells qs).toArray 5 (0, 0)) ∧ Ext w' wi)
        (fun _ i _ => rs.length - (intOf i).toNat)
      case atStart => exact ⟨0, cb, [], Nat.zero_le _, rfl, int_eq HT.out, hcb, rfl, digits_nil, by simp [Hid, val], by simpa using hrow2, hrow1, hext⟩
      case round =>
        obtain ⟨k, c, xs, hk, rfl, rfl, hc, hxl, hxd, hxv, hr2, hr1, hex2⟩ := hrel
        by_cases hkl : k < rs.length
        · have hdrop := List.drop_eq_getElem_cons hkl
          rw [hdrop] at hr2
          have cr := cell_row hr2 k (by simp; omega)
          rw [show (xs ++ rs[k] :: List.drop (k + 1) rs)[k]'(by simp; omega) = rs[k] by simp [List.getElem_append_right, hxl]] at cr
          have fr := frozen_row hr2 k
          have b3 := hrd _ (List.getElem_mem hkl)
          have T3 : Hid (_ = _) := val_take_succ rs k hkl
          have HS : Hid (∀ e, (wr.setCell ⟨w'.heap.size + 1, k, none⟩ (.int .u8 (e : Nat))).heap[w'.heap.size + 1]? = some (.cells (bcells ((xs ++ [e]) ++ rs.drop (k + 1))).toArray 5 (0, 0))) := fun e => by
            rw [heap_setByte hr2 k e, set_mid xs _ k e _ hxl]
          generalize rs[k] = e at *
          have hdb := dbl_byte e c b3 hc
          have HO : Hid (bits .or .u8 ((e : Int) * 2 % 256) (c : Int) = (((2 * e + c) % 256 : Nat) : Int)) := by
            unfold Hid
            rw [show ((e : Int) * 2 % 256) = ((e * 2 % 256 : Nat) : Int) by omega, u8_or_nat _ _ (by omega) (by omega), hdb.1]
          have H128 : Hid ((e : Int) / 128 = (((2 * e + c) / 256 : Nat) : Int)) := by unfold Hid; rw [← hdb.2]; omega
          clear hdrop hr2 hdb
          go_wp2
          refine ⟨⟨k + 1, (2 * e + c) / 256, xs ++ [(2 * e + c) % 256], by omega, int_eq (by omega), int_eq H128.out, by omega, by simp [hxl], digits_snoc hxd (Nat.mod_lt _ (by decide)), ?_, ?_, ?_, hex2.setCell (by simp) _⟩, by simp [intOf]; omega⟩
          · unfold Hid
            rw [T3.out, val_snoc, hxl, Nat.pow_succ, dbl_step _ _ _ _ _ hxv.out]; omega
          · rw [HO.out]; exact HS.out _
          · rw [Below.heap_setCell _ _ _ _ (by simp)]; exact hr1
        · have : k = rs.length := by omega
          subst this
          rw [List.drop_length, List.append_nil] at hr2
          have hrem : val xs = 2 * (x / 2 ^ (q + 1) % y) + cb ∧ c = 0 := by
            have h1 := hxv.out
            rw [List.take_of_length_le (Nat.le_refl _), hrv.out] at h1
            have h2 := Nat.mod_lt (x / 2 ^ (q + 1)) hy
            have h3 : y < 256 ^ (digs y).length := (digs_length_le y _).1 (Nat.le_refl _)
            have h4 : c = 0 := by
              rcases (show c = 0 ∨ c = 1 by omega) with hh | hh
              · exact hh
              · rw [hh, hrl, Nat.pow_succ] at h1; omega
            rw [h4] at h1
            exact ⟨by simpa using h1, h4⟩
          obtain ⟨hrem, hc0⟩ := hrem
          have hby := hbs2.keep (Ext.refl _) hex2
          have hby2 := hby.sub (O' := (· = w'.heap.size + 1)) (fun b hb => by unfold OG; omega)
          have hb0 := hby.sub (O' := fun _ => False) (fun b hb => hb.elim)
          have nvR : NV (fun _ => False) wr (.slice (some ⟨w'.heap.size + 1, 0, none⟩) ((digs y).length + 1) ((digs y).length + 1)) (val xs) :=
            ⟨xs, NL.row hr2 hxd (fun hb => hb.elim) (by omega) (by omega), rfl⟩
          have nvB : NV (fun _ => False) wr (.slice o2 (digs y).length (digs y).length) y := ⟨digs y, ⟨o2, _, rfl, Nat.le_refl _, hle2, hb0⟩, HY.out⟩
          have hb' := HB.out
          by_cases hR : val xs < y
          · have hcmp : cmpI (val xs) y = -1 := by simp [cmpI, hR]
            have hdm := divmod_lo (x / 2 ^ (q + 1)) y cb hcb (by rw [← hrem]; exact hR)
            rw [← hb'] at hdm
            have HQ : Hid (val qs = x / 2 ^ q / y * 2 ^ q) := by unfold Hid; rw [hdm.1, hqv.out, Nat.pow_succ, ← Nat.mul_assoc, Nat.mul_right_comm, Nat.mul_comm 2]
            have HR : Hid (val xs = x / 2 ^ q % y) := by unfold Hid; rw [hdm.2]; exact hrem
            clear hdm hb' hrem
            go_wp2_with (go_at_call 130; refine (cmp_nv _ _ _ (val xs) y wr nvR nvB).mono ?_; rintro e w2 ⟨rfl, n, rfl⟩)
            exact ⟨⟨q, qs, xs, by omega, int_eq (by omega), hql, by omega, hqd, hxd, HQ, HR, hr1, hr2, hex2.drewN _⟩, by simp [intOf]⟩
          · have hcmp := cmpI_ge (val xs) y (by omega)
            obtain ⟨hc1, hc2⟩ := hcmp
            have hdm := divmod_hi (x / 2 ^ (q + 1)) y cb hcb hy (by rw [← hrem]; omega)
            rw [← hb'] at hdm
            have haq : q / 8 < qs.length := by omega
            have cq := cell_row hr1 (q / 8) haq
            have fq := frozen_row hr1 (q / 8)
            have bq := hqd _ (List.getElem_mem haq)
            have tq : (qs[q / 8]).testBit (q % 8) = false := by
              have h1 := testBit_val qs hqd q
              rw [hqv.out, mul_pow_bit, show dig qs (q / 8) = qs[q / 8] by simp [dig, haq]] at h1
              exact h1.symm
            have ob := or_bit _ _ bq (Nat.mod_lt _ (by decide)) tq
            have vq := val_set qs (q / 8) (qs[q / 8] + 2 ^ (q % 8)) haq
            have HQ : Hid (val (qs.set (q / 8) (qs[q / 8] + 2 ^ (q % 8))) = x / 2 ^ q / y * 2 ^ q) := by
              unfold Hid
              have e1 : 256 ^ (q / 8) * 2 ^ (q % 8) = 2 ^ q := by
                rw [show (256 : Nat) = 2 ^ 8 by decide, ← Nat.pow_mul, ← Nat.pow_add]; congr 1; omega
              rw [Nat.mul_add, e1] at vq
              rw [hdm.1, Nat.add_mul, Nat.one_mul]
              have e2 : val qs = 2 * (x / 2 ^ (q + 1) / y) * 2 ^ q := by rw [hqv.out, Nat.pow_succ, ← Nat.mul_assoc, Nat.mul_right_comm, Nat.mul_comm 2]
              rw [← e2]; omega
            have HRm : Hid (x / 2 ^ q % y = val xs - y) := by unfold Hid; rw [hdm.2, hrem]
            have hq1 : (2 : Int) ^ (q % 8) % 256 = ((2 ^ (q % 8) : Nat) : Int) := by
              have h4 : ((2 ^ (q % 8) : Nat) : Int) = (2 : Int) ^ (q % 8) := Int.natCast_pow 2 (q % 8)
              rw [← h4]
              have := ob.2
              clear h4 HQ vq tq cq
              generalize (2 ^ (q % 8) : Nat) = z at *
              omega
            have HO : Hid (bits .or .u8 (qs[q / 8] : Int) ((2 : Int) ^ (q % 8)) = ((qs[q / 8] + 2 ^ (q % 8) : Nat) : Int)) := by
              unfold Hid; rw [show (2 : Int) ^ (q % 8) = ((2 ^ (q % 8) : Nat) : Int) from (Int.natCast_pow 2 (q % 8)).symm, u8_or_nat _ _ bq (by omega), ob.1]
            have hob := ob.2
            generalize qs[q / 8] + 2 ^ (q % 8) = nq at *
            have HREM : Hid (_ = _) := hrem
            clear hdm hb' vq tq ob hrem
            go_wp2_with (first
              | (go_at_call 130; refine (cmp_nv _ _ _ (val xs) y wr nvR nvB).mono ?_; rintro e w2 ⟨rfl, n, rfl⟩)
              | (go_at_call 225; refine (take_row' (w'.heap.size + 1) ((digs y).length + 1) (digs y).length xs (digs y) o2 _ (wr.drewN n) (by omega) rfl hr2 hxd (by omega) ⟨hby2.lt, hby2.spot⟩ (by omega)).mono ?_; rintro e w2 ⟨A', c', rfl, hcc, hAl, hAd, hAv, hrow3, hupd⟩; have hq2 := hupd.block w'.heap.size (by omega); have cq2 := hupd.cell (p := ⟨w'.heap.size, q / 8, none⟩) (show w'.heap.size ≠ w'.heap.size + 1 by omega); have fq2 := hupd.frozen ⟨w'.heap.size, q / 8, none⟩))
            have hval : val A' = val xs - y := by
              have hl := val_lt A' hAd
              rw [hAl] at hl
              have hlx := val_lt xs hxd
              rw [HY.out] at hAv
              rcases (show c' = 0 ∨ c' = 1 by omega) with e | e
              · rw [e] at hAv; omega
              · rw [e] at hAv; omega
            have hq3 := hq2.trans hr1
            refine ⟨⟨q, qs.set (q / 8) nq, A', by omega, rfl, by simpa using hql, hAl, digits_set hqd hob, hAd, HQ, by unfold Hid; rw [hval, HRm.out], ?_, ?_, ((hex2.drewN _).upd hupd (by omega)).setCell (Nat.le_refl _) _⟩, by simp [intOf]⟩
            · rw [HO.out]; exact heap_setByte hq3 _ _
            · rw [Below.heap_setCell _ _ _ _ (by simp)]; exact hrow3
    · have : i = 0 := by omega
      subst this
      have e0 : x / 2 ^ 0 = x := by simp
      have nvQ : NV O wr (.slice (some ⟨w'.heap.size, 0, none⟩) (digs x).length (digs x).length) (x / y) :=
        ⟨qs, NL.row hrow1 hqd (fun hb => by have := hO _ hb; omega) hql hle, by rw [hqv.out, e0]; simp⟩
      have nvR : NV O wr (.slice (some ⟨w'.heap.size + 1, 0, none⟩) ((digs y).length + 1) ((digs y).length + 1)) (x % y) :=
        ⟨rs, NL.row hrow2 hrd (fun hb => by have := hO _ hb; omega) hrl (by omega), by rw [hrv.out, e0]⟩
      go_wp2_with (first
        | (go_at_call_of 98 (Value.slice (some ⟨w'.heap.size, 0, none⟩) (digs x).length (digs x).length); refine (clip_nl O _ (x / y) _ nvQ).mono ?_; rintro e w2 ⟨r1, rfl, hr1, rfl⟩)
        | (go_at_call 98; refine (clip_nl O _ (x % y) _ nvR).mono ?_; rintro e w2 ⟨r2, rfl, hr2, rfl⟩))
      go_ret3
      exact ⟨_, _, rfl, hr1, hr2, hext⟩

end Go.Proofs.YgvahwGreat
