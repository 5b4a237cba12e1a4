import Derived.Test.YgvahwGreatBase
namespace Go.Proofs.YgvahwGreat
open Go.RowKit

set_option maxHeartbeats 400000 in
theorem trim_bs (O : Nat → Prop) (o : Option Addr) (c : Nat) (l : List Nat) (w : World) (hc : l.length ≤ c) (hm : c ≤ 140737488355328) (hb : BS O w o l) :
    Calls Hvah.prog 97 #[.slice o l.length c] w fun e w' => e = .returned (.slice o (trimL l).length (trimL l).length) ∧ w' = w := by
  go_enter Hvah.func97, Hvah.ntmps97
  go_wp2
  go_loop [3] (fun i => ∃ k : Nat, k ≤ l.length ∧ i = .int .i64 k ∧ ∀ j (h : j < l.length), k ≤ j → l[j] = 0) (fun i => (intOf i).toNat)
  case atStart => exact ⟨l.length, Nat.le_refl _, rfl, fun j h hj => by omega⟩
  case round =>
    obtain ⟨k, hk, rfl, hz⟩ := hrel
    by_cases h0 : 0 < k
    · have hne : l ≠ [] := by intro e; subst e; simp at hk; omega
      obtain ⟨b, off, rfl, hO, hbs, hcell⟩ := hb.spot hne
      obtain ⟨q, rfl⟩ : ∃ q, k = q + 1 := ⟨k - 1, by omega⟩
      have hlt : q < l.length := by omega
      have hx := hcell q hlt
      generalize hd : l[q] = d at hx
      clear hcell
      have HD : Hid (l[q] = d) := hd
      clear hd
      go_wp2
      · refine ⟨⟨q, by omega, rfl, fun j h hj => ?_⟩, by simp [intOf]⟩
        have hd0 : d = 0 := by simpa using ‹((d : Int) == 0) = true›
        by_cases hq : j = q
        · subst hq; rw [HD.out, hd0]
        · exact hz j h (by omega)
      · have h0 : d ≠ 0 := by simpa using ‹((d : Int) == 0) = false›
        have := trimL_length_of l (q + 1) (by omega) hz (fun _ => ⟨by omega, by simp only [Nat.add_sub_cancel]; rw [HD.out]; exact h0⟩)
        go_ret
        exact ⟨by rw [this]; rfl, rfl⟩
    · have : k = 0 := by omega
      subst this
      go_wp2
      have := trimL_length_of l 0 (by omega) hz (fun h => by omega)
      go_ret
      exact ⟨by rw [this]; rfl, rfl⟩

/-- trim, by what the digits make. -/
theorem trim_nl (O : Nat → Prop) (v : Value) (l : List Nat) (w : World) (h : NL O w v l) :
    Calls Hvah.prog 97 #[v] w fun e w' => ∃ o, e = .returned (.slice o (digs (val l)).length (digs (val l)).length) ∧ BS O w o (digs (val l)) ∧ (digs (val l)).length ≤ 140737488355328 ∧ w' = w := by
  obtain ⟨o, c, rfl, h2, h3, h4⟩ := h
  refine (trim_bs O o c l w h2 h3 h4).mono ?_
  rintro e w' ⟨rfl, rfl⟩
  have ht := trimL_eq_digs l h4.lt
  have hl := trimL_length_le l
  rw [ht] at hl
  exact ⟨o, by rw [ht], by rw [← ht, trimL_eq_take]; exact h4.take _, by omega, rfl⟩

theorem trim_nv (O : Nat → Prop) (v : Value) (x : Nat) (w : World) (h : NV O w v x) :
    Calls Hvah.prog 97 #[v] w fun e w' => ∃ o, e = .returned (.slice o (digs x).length (digs x).length) ∧ BS O w o (digs x) ∧ (digs x).length ≤ 140737488355328 ∧ w' = w := by
  obtain ⟨l, h1, rfl⟩ := h
  exact trim_nl O v l w h1

set_option maxHeartbeats 400000 in
theorem clip_nl (O : Nat → Prop) (v : Value) (x : Nat) (w : World) (h : NV O w v x) :
    Calls Hvah.prog 98 #[v] w fun e w' => ∃ u, e = .returned u ∧ NL O w u (digs x) ∧ w' = w := by
  go_enter Hvah.func98, Hvah.ntmps98
  go_wp2_with (go_at_call 97; refine (trim_nv O v x w h).mono ?_; rintro e w' ⟨o, rfl, hbs, hle, rfl⟩)
  · have hz : digs x = [] := by
      have : (digs x).length = 0 := by simpa using ‹(((digs x).length : Int) == 0) = true›
      exact List.length_eq_zero_iff.1 this
    go_ret
    exact ⟨_, rfl, by rw [hz]; exact NL.nil, rfl⟩
  · go_ret
    exact ⟨_, rfl, ⟨o, _, rfl, Nat.le_refl _, hle, hbs⟩, rfl⟩

set_option maxHeartbeats 400000 in
theorem norm_zero (O : Nat → Prop) (v : Value) (w : World) (h : NV O w v 0) :
    Calls Hvah.prog 132 #[v] w fun e w' => e = .returned (.slice none 0 0) ∧ w' = w := by
  have hz : digs 0 = [] := rfl
  go_enter Hvah.func132, Hvah.ntmps132
  go_wp2_with (go_at_call 97; refine (trim_nv O v 0 w h).mono ?_; rintro e w' ⟨o, rfl, hbs, hle, rfl⟩)
  go_ret
  exact ⟨rfl, rfl⟩

set_option maxHeartbeats 400000 in
theorem norm_row (O : Nat → Prop) (v : Value) (x : Nat) (w : World) (hx : x ≠ 0) (h : NV O w v x) :
    Calls Hvah.prog 132 #[v] w fun e w' => e = .returned (.slice (some ⟨w.heap.size, 0, none⟩) (digs x).length (digs x).length) ∧ (digs x).length ≤ 140737488355328 ∧
      w'.heap[w.heap.size]? = some (.cells (bcells (digs x)).toArray 5 (0, 0)) ∧ Ext w w' := by
  have hp : 0 < (digs x).length := by rw [digs_pos x hx]; simp
  have hne : digs x ≠ [] := by intro e; rw [e] at hp; simp at hp
  go_enter Hvah.func132, Hvah.ntmps132
  go_wp2_with (first
    | (go_at_call 97; refine (trim_nv O v x w h).mono ?_; rintro e w' ⟨o, rfl, hbs, hle, rfl⟩)
    | (at_make; refine wl_make_bytes Hvah.underlying109 _ rfl rfl hle ?_)
    | ((with_reducible (refine Veil.out ?_; apply wl_copy_bytes Hvah.underlying109 (L := List.replicate (digs x).length 0) (t := 5) (l := digs x))); (case hd => rfl); (case hs => rfl); (case hg => exact heap_new _ _); (case hl => simp); (case hsrc => exact (hbs.ext ((Ext.refl _).alloc _ _)).src hne); (case hfit => simp)))
  go_ret
  refine ⟨rfl, hle, ?_, ((Ext.refl _).alloc _ _).setRow (Nat.le_refl _) _⟩
  rw [setRow_heap _ _ _ _ _ _ (heap_new _ _)]

theorem norm_nl (O : Nat → Prop) (v : Value) (x : Nat) (w : World) (hO : ∀ b, O b → b < w.heap.size) (h : NV O w v x) :
    Calls Hvah.prog 132 #[v] w fun e w' => ∃ u, e = .returned u ∧ NL O w' u (digs x) ∧ Ext w w' := by
  by_cases hx : x = 0
  · subst hx
    refine (norm_zero O v w h).mono ?_
    rintro e w' ⟨rfl, rfl⟩
    exact ⟨_, rfl, NL.nil, Ext.refl _⟩
  · refine (norm_row O v x w hx h).mono ?_
    rintro e w' ⟨rfl, hle, hr, he⟩
    exact ⟨_, rfl, NL.row hr (digits_digs x) (fun hb => by have := hO _ hb; omega) rfl hle, he⟩

/-- How two lists of digits of one length stand, from the top down. -/
theorem cmp_step (A B : List Nat) (k : Nat) (ha : k < A.length) (hb : k < B.length) (h : val (A.drop (k + 1)) = val (B.drop (k + 1))) :
    (A[k] = B[k] → val (A.drop k) = val (B.drop k)) ∧ (A[k] < B[k] → val (A.drop k) < val (B.drop k)) := by
  rw [List.drop_eq_getElem_cons ha, List.drop_eq_getElem_cons hb]
  simp only [val, h]
  omega

theorem val_drop_lt (A B : List Nat) (hA : Digits A) (k : Nat) (hl : A.length = B.length) (h : val (A.drop k) < val (B.drop k)) : val A < val B := by
  have e1 := val_append (A.take k) (A.drop k)
  have e2 := val_append (B.take k) (B.drop k)
  rw [List.take_append_drop] at e1 e2
  have := val_lt (A.take k) (fun d hd => hA d (List.mem_of_mem_take hd))
  rw [e1, e2]
  simp only [List.length_take, hl] at *
  calc val (A.take k) + 256 ^ min k B.length * val (A.drop k) < 256 ^ min k B.length + 256 ^ min k B.length * val (A.drop k) := by omega
    _ = 256 ^ min k B.length * (val (A.drop k) + 1) := by rw [Nat.mul_add, Nat.mul_one, Nat.add_comm]
    _ ≤ 256 ^ min k B.length * val (B.drop k) := Nat.mul_le_mul_left _ h
    _ ≤ _ := by omega

theorem lt_of_digs_length (x y : Nat) (h : (digs x).length < (digs y).length) : x < y := by
  have h1 : x < 256 ^ (digs x).length := (digs_length_le x _).1 (Nat.le_refl _)
  have h2 : ¬ y < 256 ^ (digs x).length := fun hh => by have := (digs_length_le y _).2 hh; omega
  omega

/-- What Cmp answers. -/
def cmpI (x y : Nat) : Int := if x < y then -1 else if y < x then 1 else 0

set_option maxHeartbeats 800000 in
theorem cmp_nv (O : Nat → Prop) (v u : Value) (x y : Nat) (w : World) (h : NV O w v x) (g : NV O w u y) :
    Calls Hvah.prog 130 #[v, u] w fun e w' => e = .returned (.int .i8 (cmpI x y)) ∧ ∃ n, w' = w.drewN n := by
  have hx := val_digs x
  have hy := val_digs y
  by_cases h1 : (digs x).length < (digs y).length
  · have hlt := lt_of_digs_length x y h1
    go_enter Hvah.func130, Hvah.ntmps130
    go_wp2_with (first
      | (go_at_call 97; refine (trim_nv O v x w h).mono ?_; rintro e w' ⟨o, rfl, hbs, hle, rfl⟩)
      | (go_at_call 97; refine (trim_nv O u y _ g).mono ?_; rintro e w' ⟨o2, rfl, hbs2, hle2, rfl⟩))
    go_ret
    exact ⟨by simp [cmpI, hlt], 0, rfl⟩
  by_cases h2 : (digs y).length < (digs x).length
  · have hlt := lt_of_digs_length y x h2
    go_enter Hvah.func130, Hvah.ntmps130
    go_wp2_with (first
      | (go_at_call 97; refine (trim_nv O v x w h).mono ?_; rintro e w' ⟨o, rfl, hbs, hle, rfl⟩)
      | (go_at_call 97; refine (trim_nv O u y _ g).mono ?_; rintro e w' ⟨o2, rfl, hbs2, hle2, rfl⟩))
    go_ret
    exact ⟨by simp [cmpI, hlt, Nat.not_lt.2 (Nat.le_of_lt hlt)], 0, rfl⟩
  · have hlen : (digs x).length = (digs y).length := by omega
    have HX : Hid (val (digs x) = x) := hx
    have HY : Hid (val (digs y) = y) := hy
    have HL : Hid ((digs x).length = (digs y).length) := hlen
    clear hx hy hlen
    have dx := digits_digs x
    have dy := digits_digs y
    go_enter Hvah.func130, Hvah.ntmps130
    go_wp2_with (first
      | (go_at_call 97; refine (trim_nv O v x w h).mono ?_; rintro e w' ⟨o, rfl, hbs, hle, rfl⟩)
      | (go_at_call 97; refine (trim_nv O u y _ g).mono ?_; rintro e w' ⟨o2, rfl, hbs2, hle2, rfl⟩))
    rename_i w0
    go_loopw [5] (fun i wr => ∃ k : Nat, k ≤ (digs x).length ∧ i = .int .i64 k ∧ Hid (val ((digs x).drop k) = val ((digs y).drop k)) ∧ ∃ n, wr = w'.drewN n) (fun i _ => (intOf i).toNat)
    case atStart => exact ⟨(digs x).length, Nat.le_refl _, rfl, by simp [Hid, HL.out, List.drop_of_length_le], 0, rfl⟩
    case round =>
      obtain ⟨k, hk, rfl, hv, n, rfl⟩ := hrel
      by_cases h0 : 0 < k
      · obtain ⟨q, rfl⟩ : ∃ q, k = q + 1 := ⟨k - 1, by omega⟩
        have hq1 : q < (digs x).length := by omega
        have hq2 : q < (digs y).length := by have := HL.out; omega
        obtain ⟨b, off, rfl, hO, hb1, hcell⟩ := hbs.spot (by intro e; rw [e] at hq1; simp at hq1)
        obtain ⟨b2, off2, rfl, hO2, hb2, hcell2⟩ := hbs2.spot (by intro e; rw [e] at hq2; simp at hq2)
        have c1 := hcell q hq1
        have c2 := hcell2 q hq2
        have st := cmp_step (digs x) (digs y) q hq1 hq2 hv.out
        have st' := cmp_step (digs y) (digs x) q hq2 hq1 hv.out.symm
        have HD : Hid ((digs x)[q] = (digs y)[q] → _) := st.1
        have HD1 : Hid ((digs x)[q] < (digs y)[q] → _) := st.2
        have HD2 : Hid ((digs y)[q] < (digs x)[q] → _) := st'.2
        generalize (digs x)[q] = d1 at *
        generalize (digs y)[q] = d2 at *
        clear hcell hcell2 st st'
        by_cases l1 : d1 < d2
        · have hlt : x < y := by
            have := val_drop_lt (digs x) (digs y) dx q HL.out (HD1.out l1)
            rw [HX.out, HY.out] at this; exact this
          go_wp2
          go_quiet (fail)
          go_wp2
          go_ret
          exact ⟨by simp [cmpI, hlt], n + nq, by simp [World.drewN_drewN]⟩
        by_cases l2 : d2 < d1
        · have hlt : y < x := by
            have := val_drop_lt (digs y) (digs x) dy q HL.out.symm (HD2.out l2)
            rw [HX.out, HY.out] at this; exact this
          go_wp2
          go_quiet (fail)
          go_wp2
          go_quiet (fail)
          go_wp2
          go_ret
          exact ⟨by simp [cmpI, hlt, Nat.not_lt.2 (Nat.le_of_lt hlt)], _, by rw [World.drewN_drewN, World.drewN_drewN]⟩
        · have he : d1 = d2 := by omega
          have hnext := HD.out he
          subst he
          have HN : Hid (val (List.drop q (digs x)) = val (List.drop q (digs y))) := hnext
          clear hnext HD HD1 HD2
          go_wp2
          go_quiet (fail)
          go_wp2
          go_quiet (fail)
          go_wp2
          exact ⟨⟨q, by omega, rfl, HN, _, rfl⟩, by simp [intOf]⟩
      · have : k = 0 := by omega
        subst this
        have hxy : x = y := by have := hv.out; simp only [List.drop_zero] at this; rw [HX.out, HY.out] at this; exact this
        subst hxy
        go_wp2
        go_ret
        exact ⟨by simp [cmpI], n, rfl⟩

end Go.Proofs.YgvahwGreat
