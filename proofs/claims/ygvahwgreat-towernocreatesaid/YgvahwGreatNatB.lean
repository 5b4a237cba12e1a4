import Derived.Test.YgvahwGreatNatA
namespace Go.Proofs.YgvahwGreat
open Go.RowKit

theorem set_append_replicate (xs : List Nat) (k n d : Nat) (hk : xs.length = k) (hn : k < n) : (xs ++ List.replicate (n - k) 0).set k d = (xs ++ [d]) ++ List.replicate (n - (k + 1)) 0 := by
  subst hk
  rw [List.set_append_right _ _ (Nat.le_refl _), Nat.sub_self]
  obtain ⟨m, hm⟩ : ∃ m, n - xs.length = m + 1 := ⟨n - xs.length - 1, by omega⟩
  rw [hm, show n - (xs.length + 1) = m by omega]
  simp [List.replicate_succ]

/-- The number of one digit more. -/
theorem val_snoc (xs : List Nat) (d : Nat) : val (xs ++ [d]) = val xs + 256 ^ xs.length * d := by
  rw [val_append]; simp [val]

theorem digits_snoc {xs : List Nat} {d : Nat} (h : Digits xs) (hd : d < 256) : Digits (xs ++ [d]) := by
  intro e he
  rcases List.mem_append.1 he with he | he
  · exact h e he
  · simp at he; omega

/-- The digit of b at place k, 0 behind its end. -/
def dig (l : List Nat) (k : Nat) : Nat := l.getD k 0
theorem val_take_dig (l : List Nat) (k : Nat) : val (l.take (k + 1)) = val (l.take k) + 256 ^ k * dig l k := by
  by_cases h : k < l.length
  · rw [val_take_succ l k h]; simp [dig, h]
  · rw [List.take_of_length_le (by omega), List.take_of_length_le (by omega)]; simp [dig, Nat.not_lt.1 h]

theorem carry_step (P s : Nat) : P * (s % 256) + P * 256 * (s / 256) = P * s := by
  rw [Nat.mul_assoc, ← Nat.mul_add, Nat.mod_add_div]
theorem add_step (V X Y P c d1 d2 : Nat) (h : V + P * c = X + Y) : V + P * ((c + d1 + d2) % 256) + P * 256 * ((c + d1 + d2) / 256) = (X + P * d1) + (Y + P * d2) := by
  have := carry_step P (c + d1 + d2)
  rw [Nat.mul_add, Nat.mul_add] at this
  omega
theorem int_eq {k : IntKind} {a b : Int} (h : a = b) : Value.int k a = .int k b := by rw [h]

theorem bytes47 : (140737488355328 : Nat) = 2 ^ 47 := by decide

set_option maxHeartbeats 1600000 in
/-- Add's loop and what follows, on two lists of digits, the first no shorter. -/
theorem add_core (O : Nat → Prop) (v u : Value) (x y : Nat) (w : World) (hO : ∀ b, O b → b < w.heap.size) (h : NV O w v x) (g : NV O w u y) (hm : (digs x).length < 140737488355328) (hlen : (digs y).length ≤ (digs x).length) :
    Calls Hvah.prog 44 #[v, u] w fun e w' => ∃ r, e = .returned r ∧ NL O w' r (digs (x + y)) ∧ Ext w w' := by
  have HX : Hid (val (digs x) = x) := val_digs x
  have HY : Hid (val (digs y) = y) := val_digs y
  have dx := digits_digs x
  have dy := digits_digs y
  go_enter Hvah.func44, Hvah.ntmps44
  go_wp2_with (first
    | (go_at_call 97; refine (trim_nv O v x w h).mono ?_; rintro e w' ⟨o, rfl, hbs, hle, rfl⟩)
    | (go_at_call 97; refine (trim_nv O u y _ g).mono ?_; rintro e w' ⟨o2, rfl, hbs2, hle2, rfl⟩)
    | (at_make; refine wl_make_bytes Hvah.underlying109 ((digs x).length + 1) rfl rfl (by omega) ?_))
  go_loopw [6, 26] (fun cy i wr => ∃ (k c : Nat) (xs : List Nat), k ≤ (digs x).length ∧ i = .int .i64 k ∧ cy = .int .u16 c ∧ c ≤ 1 ∧ xs.length = k ∧ Digits xs ∧
      Hid (val xs + 256 ^ k * c = val ((digs x).take k) + val ((digs y).take k)) ∧ wr.heap[w'.heap.size]? = some (.cells (bcells (xs ++ List.replicate ((digs x).length + 1 - k) 0)).toArray 5 (0, 0)) ∧ Ext w' wr)
    (fun _ i _ => (digs x).length - (intOf i).toNat)
  case atStart => exact ⟨0, 0, [], Nat.zero_le _, rfl, rfl, by omega, rfl, digits_nil, by simp [Hid, val], by rw [heap_new]; rfl, (Ext.refl _).alloc _ _⟩
  case round =>
    obtain ⟨k, c, xs, hk, rfl, rfl, hc, hxl, hxd, hv, hrow, hext⟩ := hrel
    by_cases hlt : k < (digs x).length
    · obtain ⟨b, off, rfl, hO1, hb1, hcell⟩ := hbs.spot (by intro e; rw [e] at hlt; simp at hlt)
      have c1 := (hext.cell (p := ⟨b, off + k, none⟩) hb1).trans (hcell k hlt)
      have cr := cell_row hrow k (by simp; omega)
      have fr := frozen_row hrow k
      have b1 := dx _ (List.getElem_mem hlt)
      have t1 := val_take_succ (digs x) k hlt
      have t2 := val_take_dig (digs y) k
      have hset := fun d => heap_setByte hrow k d
      have HS : Hid (∀ d, (wr.setCell ⟨w'.heap.size, k, none⟩ (.int .u8 (d : Nat))).heap[w'.heap.size]? = some (.cells (bcells ((xs ++ [d]) ++ List.replicate ((digs x).length + 1 - (k + 1)) 0)).toArray 5 (0, 0))) := fun d => by
        rw [hset d, set_append_replicate xs k _ d hxl (by omega)]
      have T1 : Hid (val (List.take (k + 1) (digs x)) = _) := t1
      have T2 : Hid (val (List.take (k + 1) (digs y)) = _) := t2
      generalize (digs x)[k] = d1 at *
      clear hcell t1 t2 hset
      by_cases hby : k < (digs y).length
      · obtain ⟨b2, off2, rfl, hO2, hb2, hcell2⟩ := hbs2.spot (by intro e; rw [e] at hby; simp at hby)
        have c2 := (hext.cell (p := ⟨b2, off2 + k, none⟩) hb2).trans (hcell2 k hby)
        have b2 := dy _ (List.getElem_mem hby)
        have D2 : Hid (dig (digs y) k = (digs y)[k]) := by simp [Hid, dig, hby]
        generalize (digs y)[k] = d2 at *
        clear hcell2
        have e1 : ((c : Int) + d1 + d2) % 256 = (((c + d1 + d2) % 256 : Nat) : Int) := by omega
        have E1 : Hid (((c : Int) + d1 + d2) % 256 = (((c + d1 + d2) % 256 : Nat) : Int)) := e1
        clear e1
        go_wp2
        refine ⟨⟨k + 1, (c + d1 + d2) / 256, xs ++ [(c + d1 + d2) % 256], by omega, int_eq (by omega), int_eq (by omega), by omega, by simp [hxl], digits_snoc hxd (Nat.mod_lt _ (by decide)), ?_, ?_, hext.setCell (Nat.le_refl _) _⟩, by simp [intOf]; omega⟩
        · unfold Hid
          rw [T1.out, T2.out, D2.out, val_snoc, hxl, Nat.pow_succ]
          exact add_step _ _ _ _ _ _ _ hv.out
        · rw [E1.out]; exact HS.out _
      · have D2 : Hid (dig (digs y) k = 0) := by simp [Hid, dig, Nat.not_lt.1 hby]
        have E1 : Hid (((c : Int) + d1) % 256 = (((c + d1 + 0) % 256 : Nat) : Int)) := by unfold Hid; omega
        go_wp2
        refine ⟨⟨k + 1, (c + d1 + 0) / 256, xs ++ [(c + d1 + 0) % 256], by omega, int_eq (by omega), int_eq (by omega), by omega, by simp [hxl], digits_snoc hxd (Nat.mod_lt _ (by decide)), ?_, ?_, hext.setCell (Nat.le_refl _) _⟩, by simp [intOf]; omega⟩
        · unfold Hid
          rw [T1.out, T2.out, D2.out, val_snoc, hxl, Nat.pow_succ]
          exact add_step _ _ _ _ _ _ _ hv.out
        · rw [E1.out]; exact HS.out _
    · have : k = (digs x).length := by omega
      subst this
      have cr := cell_row hrow (digs x).length (by simp; omega)
      have fr := frozen_row hrow (digs x).length
      have hset := heap_setByte hrow (digs x).length c
      rw [set_append_replicate xs _ _ c hxl (by omega)] at hset
      have hd2 := digits_snoc hxd (show c < 256 by omega)
      have hnv : NV O (wr.setCell ⟨w'.heap.size, (digs x).length, none⟩ (.int .u8 c)) (.slice (some ⟨w'.heap.size, 0, none⟩) ((digs x).length + 1) ((digs x).length + 1)) (x + y) := by
        refine ⟨xs ++ [c], NL.row (t := 5) (by simpa using hset) hd2 (fun hb => by have := hO _ hb; omega) (by simp [hxl]) (by omega), ?_⟩
        · have := hv.out
          rw [List.take_of_length_le (Nat.le_refl _), List.take_of_length_le hlen, HX.out, HY.out] at this
          rw [val_snoc, hxl]; exact this
      have hex := hext.setCell (p := ⟨w'.heap.size, (digs x).length, none⟩) (Nat.le_refl _) (.int .u8 c)
      clear hset
      go_wp2_with (go_at_call 98; refine (clip_nl O _ (x + y) _ hnv).mono ?_; rintro e w2 ⟨r, rfl, hr, rfl⟩)
      go_ret
      exact ⟨_, rfl, hr, hex⟩


set_option maxHeartbeats 1600000 in
theorem add_swap (O : Nat → Prop) (v u : Value) (x y : Nat) (w : World) (hO : ∀ b, O b → b < w.heap.size) (h : NV O w v x) (g : NV O w u y) (hm : (digs y).length < 140737488355328) (hlen : (digs x).length < (digs y).length) :
    Calls Hvah.prog 44 #[v, u] w fun e w' => ∃ r, e = .returned r ∧ NL O w' r (digs (x + y)) ∧ Ext w w' := by
  have HX : Hid (val (digs x) = x) := val_digs x
  have HY : Hid (val (digs y) = y) := val_digs y
  have dx := digits_digs x
  have dy := digits_digs y
  go_enter Hvah.func44, Hvah.ntmps44
  go_wp2_with (first
    | (go_at_call 97; refine (trim_nv O v x w h).mono ?_; rintro e w' ⟨o, rfl, hbs, hle, rfl⟩)
    | (go_at_call 97; refine (trim_nv O u y _ g).mono ?_; rintro e w' ⟨o2, rfl, hbs2, hle2, rfl⟩)
    | (at_make; refine wl_make_bytes Hvah.underlying109 ((digs y).length + 1) rfl rfl (by omega) ?_))
  go_loopw [6, 26] (fun cy i wr => ∃ (k c : Nat) (xs : List Nat), k ≤ (digs y).length ∧ i = .int .i64 k ∧ cy = .int .u16 c ∧ c ≤ 1 ∧ xs.length = k ∧ Digits xs ∧
      Hid (val xs + 256 ^ k * c = val ((digs y).take k) + val ((digs x).take k)) ∧ wr.heap[w'.heap.size]? = some (.cells (bcells (xs ++ List.replicate ((digs y).length + 1 - k) 0)).toArray 5 (0, 0)) ∧ Ext w' wr)
    (fun _ i _ => (digs y).length - (intOf i).toNat)
  case atStart => exact ⟨0, 0, [], Nat.zero_le _, rfl, rfl, by omega, rfl, digits_nil, by simp [Hid, val], by rw [heap_new]; rfl, (Ext.refl _).alloc _ _⟩
  case round =>
    obtain ⟨k, c, xs, hk, rfl, rfl, hc, hxl, hxd, hv, hrow, hext⟩ := hrel
    by_cases hlt : k < (digs y).length
    · obtain ⟨b, off, rfl, hO1, hb1, hcell⟩ := hbs2.spot (by intro e; rw [e] at hlt; simp at hlt)
      have c1 := (hext.cell (p := ⟨b, off + k, none⟩) hb1).trans (hcell k hlt)
      have cr := cell_row hrow k (by simp; omega)
      have fr := frozen_row hrow k
      have b1 := dy _ (List.getElem_mem hlt)
      have t1 := val_take_succ (digs y) k hlt
      have t2 := val_take_dig (digs x) k
      have hset := fun d => heap_setByte hrow k d
      have HS : Hid (∀ d, (wr.setCell ⟨w'.heap.size, k, none⟩ (.int .u8 (d : Nat))).heap[w'.heap.size]? = some (.cells (bcells ((xs ++ [d]) ++ List.replicate ((digs y).length + 1 - (k + 1)) 0)).toArray 5 (0, 0))) := fun d => by
        rw [hset d, set_append_replicate xs k _ d hxl (by omega)]
      have T1 : Hid (val (List.take (k + 1) (digs y)) = _) := t1
      have T2 : Hid (val (List.take (k + 1) (digs x)) = _) := t2
      generalize (digs y)[k] = d1 at *
      clear hcell t1 t2 hset
      by_cases hby : k < (digs x).length
      · obtain ⟨b2, off2, rfl, hO2, hb2, hcell2⟩ := hbs.spot (by intro e; rw [e] at hby; simp at hby)
        have c2 := (hext.cell (p := ⟨b2, off2 + k, none⟩) hb2).trans (hcell2 k hby)
        have b2 := dx _ (List.getElem_mem hby)
        have D2 : Hid (dig (digs x) k = (digs x)[k]) := by simp [Hid, dig, hby]
        generalize (digs x)[k] = d2 at *
        clear hcell2
        have e1 : ((c : Int) + d1 + d2) % 256 = (((c + d1 + d2) % 256 : Nat) : Int) := by omega
        have E1 : Hid (((c : Int) + d1 + d2) % 256 = (((c + d1 + d2) % 256 : Nat) : Int)) := e1
        clear e1
        go_wp2
        refine ⟨⟨k + 1, (c + d1 + d2) / 256, xs ++ [(c + d1 + d2) % 256], by omega, int_eq (by omega), int_eq (by omega), by omega, by simp [hxl], digits_snoc hxd (Nat.mod_lt _ (by decide)), ?_, ?_, hext.setCell (Nat.le_refl _) _⟩, by simp [intOf]; omega⟩
        · unfold Hid
          rw [T1.out, T2.out, D2.out, val_snoc, hxl, Nat.pow_succ]
          exact add_step _ _ _ _ _ _ _ hv.out
        · rw [E1.out]; exact HS.out _
      · have D2 : Hid (dig (digs x) k = 0) := by simp [Hid, dig, Nat.not_lt.1 hby]
        have E1 : Hid (((c : Int) + d1) % 256 = (((c + d1 + 0) % 256 : Nat) : Int)) := by unfold Hid; omega
        go_wp2
        refine ⟨⟨k + 1, (c + d1 + 0) / 256, xs ++ [(c + d1 + 0) % 256], by omega, int_eq (by omega), int_eq (by omega), by omega, by simp [hxl], digits_snoc hxd (Nat.mod_lt _ (by decide)), ?_, ?_, hext.setCell (Nat.le_refl _) _⟩, by simp [intOf]; omega⟩
        · unfold Hid
          rw [T1.out, T2.out, D2.out, val_snoc, hxl, Nat.pow_succ]
          exact add_step _ _ _ _ _ _ _ hv.out
        · rw [E1.out]; exact HS.out _
    · have : k = (digs y).length := by omega
      subst this
      have cr := cell_row hrow (digs y).length (by simp; omega)
      have fr := frozen_row hrow (digs y).length
      have hset := heap_setByte hrow (digs y).length c
      rw [set_append_replicate xs _ _ c hxl (by omega)] at hset
      have hd2 := digits_snoc hxd (show c < 256 by omega)
      have hnv : NV O (wr.setCell ⟨w'.heap.size, (digs y).length, none⟩ (.int .u8 c)) (.slice (some ⟨w'.heap.size, 0, none⟩) ((digs y).length + 1) ((digs y).length + 1)) (y + x) := by
        refine ⟨xs ++ [c], NL.row (t := 5) (by simpa using hset) hd2 (fun hb => by have := hO _ hb; omega) (by simp [hxl]) (by omega), ?_⟩
        · have := hv.out
          rw [List.take_of_length_le (Nat.le_refl _), List.take_of_length_le (Nat.le_of_lt hlen), HY.out, HX.out] at this
          rw [val_snoc, hxl]; exact this
      have hex := hext.setCell (p := ⟨w'.heap.size, (digs y).length, none⟩) (Nat.le_refl _) (.int .u8 c)
      clear hset
      go_wp2_with (go_at_call 98; refine (clip_nl O _ (y + x) _ hnv).mono ?_; rintro e w2 ⟨r, rfl, hr, rfl⟩)
      go_ret
      exact ⟨_, rfl, by rw [Nat.add_comm x y]; exact hr, hex⟩


/-- nat.Add. -/
theorem add_nv (O : Nat → Prop) (v u : Value) (x y : Nat) (w : World) (hO : ∀ b, O b → b < w.heap.size) (h : NV O w v x) (g : NV O w u y) (hx : (digs x).length < 140737488355328) (hy : (digs y).length < 140737488355328) :
    Calls Hvah.prog 44 #[v, u] w fun e w' => ∃ r, e = .returned r ∧ NL O w' r (digs (x + y)) ∧ Ext w w' := by
  by_cases hl : (digs x).length < (digs y).length
  · exact add_swap O v u x y w hO h g hy hl
  · exact add_core O v u x y w hO h g hx (by omega)

end Go.Proofs.YgvahwGreat
