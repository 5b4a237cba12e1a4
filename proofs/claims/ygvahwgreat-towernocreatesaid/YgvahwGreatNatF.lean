import Derived.Test.YgvahwGreatNatE
namespace Go.Proofs.YgvahwGreat
open Go.RowKit

theorem val_set (l : List Nat) (p d : Nat) (h : p < l.length) : val (l.set p d) + 256 ^ p * l[p] = val l + 256 ^ p * d := by
  induction l generalizing p with
  | nil => simp at h
  | cons e l ih =>
    cases p with
    | zero => simp [val]; omega
    | succ p =>
      have := ih p (by simpa using h)
      simp only [List.set_cons_succ, val, List.getElem_cons_succ, Nat.pow_succ]
      have e1 : 256 ^ p * 256 * l[p]'(by simpa using h) = 256 * (256 ^ p * l[p]'(by simpa using h)) := by rw [Nat.mul_comm (256 ^ p) 256, Nat.mul_assoc]
      have e2 : 256 ^ p * 256 * d = 256 * (256 ^ p * d) := by rw [Nat.mul_comm (256 ^ p) 256, Nat.mul_assoc]
      rw [e1, e2]; omega

theorem digits_set {l : List Nat} {p d : Nat} (h : Digits l) (hd : d < 256) : Digits (l.set p d) := by
  intro e he
  rcases List.mem_or_eq_of_mem_set he with he | rfl
  · exact h e he
  · exact hd

/-- One inner round of Mul. -/
theorem mul_step (V y P c a b T : Nat) (h : V + P * c = T) : ∀ V', V' + P * y = V + P * ((c + (a * b + y)) % 256) → V' + P * 256 * ((c + (a * b + y)) / 256) = T + P * (a * b) := by
  intro V' hV'
  have := carry_step P (c + (a * b + y))
  rw [Nat.mul_add, Nat.mul_add] at this
  omega

set_option maxHeartbeats 3200000 in
/-- nat.Mul. -/
theorem mul_nv (O : Nat → Prop) (v u : Value) (x y : Nat) (w : World) (hO : ∀ b, O b → b < w.heap.size) (h : NV O w v x) (g : NV O w u y) (hx : (digs x).length + (digs y).length ≤ 140737488355328) :
    Calls Hvah.prog 60 #[v, u] w fun e w' => ∃ r, e = .returned r ∧ NL O w' r (digs (x * y)) ∧ Ext w w' := by
  have HX : Hid (val (digs x) = x) := val_digs x
  have HY : Hid (val (digs y) = y) := val_digs y
  have dx := digits_digs x
  have dy := digits_digs y
  go_enter Hvah.func60, Hvah.ntmps60
  go_wp2_with (first
    | (go_at_call 97; refine (trim_nv O v x w h).mono ?_; rintro e w' ⟨o, rfl, hbs, hle, rfl⟩)
    | (go_at_call 97; refine (trim_nv O u y _ g).mono ?_; rintro e w' ⟨o2, rfl, hbs2, hle2, rfl⟩)
    | (at_make; refine wl_make_bytes Hvah.underlying109 ((digs x).length + (digs y).length) rfl rfl hx ?_))
  generalize digs x = A at *
  generalize digs y = B at *
  go_loopw [23] (fun i wr => ∃ (k : Nat) (ys : List Nat), k ≤ A.length ∧ i = .int .i64 k ∧ ys.length = A.length + B.length ∧ Digits ys ∧ Hid (val ys = val (A.take k) * val B) ∧ (∀ j (h : j < ys.length), k + B.length ≤ j → ys[j] = 0) ∧
      wr.heap[w'.heap.size]? = some (.cells (bcells ys).toArray 5 (0, 0)) ∧ Ext w' wr)
    (fun i _ => A.length - (intOf i).toNat)
  case atStart => exact ⟨0, List.replicate (A.length + B.length) 0, Nat.zero_le _, rfl, by simp, by intro d hd; rw [List.eq_of_mem_replicate hd]; decide, by simp [Hid, val, val_replicate_zero], by intro j h _; simp, by rw [heap_new]; rfl, (Ext.refl _).alloc _ _⟩
  case round =>
    obtain ⟨k, ys, hk, rfl, hyl, hyd, hv, hz, hrow, hext⟩ := hrel
    by_cases hlt : k < A.length
    · obtain ⟨b, off, rfl, hO1, hb1, hcell⟩ := hbs.spot (by intro e; rw [e] at hlt; simp at hlt)
      have c1 := (hext.cell (p := ⟨b, off + k, none⟩) hb1).trans (hcell k hlt)
      have b1 := dx _ (List.getElem_mem hlt)
      have T1 : Hid (_ = _) := val_take_succ A k hlt
      generalize A[k] = a at *
      clear hcell
      go_wp2
      go_loopw [8, 30] (fun cy i wi => ∃ (j c : Nat) (zs : List Nat), j ≤ B.length ∧ i = .int .i64 j ∧ cy = .int .u32 c ∧ c < 256 ∧ zs.length = A.length + B.length ∧ Digits zs ∧ Hid (val zs + 256 ^ (k + j) * c = val (A.take k) * val B + 256 ^ k * (a * val (B.take j))) ∧
          (∀ j (h : j < zs.length), k + B.length ≤ j → zs[j] = 0) ∧ wi.heap[w'.heap.size]? = some (.cells (bcells zs).toArray 5 (0, 0)) ∧ Ext w' wi)
        (fun _ i _ => B.length - (intOf i).toNat)
      case atStart => exact ⟨0, 0, ys, Nat.zero_le _, rfl, rfl, by omega, hyl, hyd, by simp [Hid, val]; exact hv.out, hz, hrow, hext⟩
      case round =>
        obtain ⟨j, c, zs, hj, rfl, rfl, hc, hzl, hzd, hzv, hzz, hrow2, hext2⟩ := hrel
        by_cases hjl : j < B.length
        · obtain ⟨b2, off2, rfl, hO2, hb2, hcell2⟩ := hbs2.spot (by intro e; rw [e] at hjl; simp at hjl)
          have c2 := (hext2.cell (p := ⟨b2, off2 + j, none⟩) hb2).trans (hcell2 j hjl)
          have b2 := dy _ (List.getElem_mem hjl)
          have T2 : Hid (_ = _) := val_take_succ B j hjl
          have hp : k + j < zs.length := by omega
          have cr := cell_row hrow2 (k + j) hp
          have fr := frozen_row hrow2 (k + j)
          have b3 := hzd _ (List.getElem_mem hp)
          have VS := fun d => val_set zs (k + j) d hp
          have HS : Hid (∀ d, (_ : Nat) = _) := VS
          generalize B[j] = d at *
          have hdd : a * d ≤ 255 * 255 := Nat.mul_le_mul (by omega) (by omega)
          clear hcell2 VS
          go_wp2
          have hcast : ((c : Int) + ((a : Int) * d + zs[k + j])) = ((c + (a * d + zs[k + j]) : Nat) : Int) := by simp
          have hs1 : (c + (a * d + zs[k + j])) / 256 < 256 := by omega
          refine ⟨⟨j + 1, (c + (a * d + zs[k + j])) / 256, zs.set (k + j) ((c + (a * d + zs[k + j])) % 256), by omega, int_eq (by omega), int_eq (by rw [hcast]; rfl), hs1, by simpa using hzl, digits_set hzd (Nat.mod_lt _ (by decide)), ?_, ?_, ?_, hext2.setCell (Nat.le_refl _) _⟩, by simp [intOf]; omega⟩
          · unfold Hid
            have := mul_step _ zs[k + j] (256 ^ (k + j)) c a d _ hzv.out _ (HS.out _)
            have hr : val (List.take k A) * val B + 256 ^ k * (a * val (List.take (j + 1) B)) = (val (List.take k A) * val B + 256 ^ k * (a * val (List.take j B))) + 256 ^ (k + j) * (a * d) := by
              rw [T2.out, Nat.mul_add a, Nat.mul_add (256 ^ k), Nat.add_assoc]
              congr 2
              rw [Nat.pow_add, Nat.mul_assoc, Nat.mul_left_comm a]
            rw [hr]
            show _ + 256 ^ (k + j + 1) * _ = _
            rw [Nat.pow_succ]
            exact this
          · intro i hi hik
            rw [List.getElem_set_ne (by omega)]
            exact hzz i (by simpa using hi) hik
          · rw [hcast, show (((c + (a * d + zs[k + j]) : Nat) : Int) % 256) = ((((c + (a * d + zs[k + j])) % 256 : Nat)) : Int) from rfl]
            exact heap_setByte hrow2 _ _
        · have : j = B.length := by omega
          subst this
          have hp : k + B.length < zs.length := by omega
          have cr := cell_row hrow2 (k + B.length) hp
          have fr := frozen_row hrow2 (k + B.length)
          have hz0 := hzz _ hp (Nat.le_refl _)
          have VS := val_set zs (k + B.length) c hp
          rw [hz0] at VS cr
          have HS : Hid (val (zs.set (k + B.length) c) + 256 ^ (k + B.length) * 0 = val zs + 256 ^ (k + B.length) * c) := VS
          have HR := heap_setByte hrow2 (k + B.length) c
          have E1 : Hid ((c : Int) % 256 = c) := by unfold Hid; omega
          clear VS hz0
          go_wp2
          refine ⟨⟨k + 1, zs.set (k + B.length) c, by omega, int_eq (by omega), by simpa using hzl, digits_set hzd hc, ?_, ?_, ?_, hext2.setCell (Nat.le_refl _) _⟩, by simp [intOf]; omega⟩
          · unfold Hid
            have h1 := HS.out
            have h2 := hzv.out
            rw [List.take_of_length_le (Nat.le_refl _)] at h2
            rw [T1.out, Nat.add_mul, Nat.mul_assoc]
            omega
          · intro i hi hik
            rw [List.getElem_set_ne (by omega)]
            exact hzz i (by simpa using hi) (by omega)
          · first | exact HR | (rw [E1.out]; exact HR)
    · have : k = A.length := by omega
      subst this
      have hnv : NV O wr (.slice (some ⟨w'.heap.size, 0, none⟩) (A.length + B.length) (A.length + B.length)) (x * y) := by
        refine ⟨ys, NL.row (t := 5) hrow hyd (fun hb => by have := hO _ hb; omega) hyl hx, ?_⟩
        have := hv.out
        rw [List.take_of_length_le (Nat.le_refl _), HX.out, HY.out] at this; exact this
      go_wp2_with (go_at_call 98; refine (clip_nl O _ (x * y) _ hnv).mono ?_; rintro e w2 ⟨r, rfl, hr, rfl⟩)
      go_ret
      exact ⟨_, rfl, hr, hext⟩

end Go.Proofs.YgvahwGreat
