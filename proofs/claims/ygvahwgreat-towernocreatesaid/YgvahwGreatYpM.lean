import Derived.Test.YgvahwGreatYpL
namespace Go.Proofs.YgvahwGreat
open Go.RowKit
/-- A number of a list. -/
def NuC (O : Nat → Prop) (w : World) (c : Nat → Value) (o x : Nat) : Prop := NV O w (c o) x
abbrev NumL (O : Nat → Prop) (w : World) (v : Value) (l : List Nat) : Prop := GRow 109 1 (NuC O w) (fun b => ¬ O b) w v l
theorem NumL.at_ {O : Nat → Prop} {w : World} {v : Value} {l : List Nat} (h : NumL O w v l) (i : Nat) (hi : i < l.length) : ∃ b cap u, v = .slice (some ⟨b, 0, none⟩) l.length cap ∧ NV O w u l[i] ∧ b < w.heap.size ∧ w.cell? ⟨b, i, none⟩ = some u := by
  obtain ⟨b, cap, cc, hv, hcap, hcm, hb, hnO, hrow⟩ := GRow.at_ h (fun q => by rw [q] at hi; cases hi)
  refine ⟨b, cap, cc i, hv, ?_, hb.lt, hb.cell (by omega)⟩
  have := hrow i hi
  unfold NuC at this
  rwa [Nat.mul_one] at this
section
variable {O : Nat → Prop} {w : World} {v u : Value} {x y : Nat}
theorem yPlace (h : NV O w v x) (n : Nat) (hn : n ≤ 4611686018427387904) : Calls Hvah.prog 145 #[v, .int .i64 n] w fun e w' => e = .returned (.tuple #[.int .i64 (if x < n then x else 0 : Nat), .bool (decide (x < n))]) ∧ w' = w := by
  have H := nU64 O v x w h
  have hw : IntKind.u64.wrap (n : Int) = n := by rw [IntKind.wrap_u64]; omega
  by_cases hb : x < 18446744073709551616
  · rw [if_pos hb, decide_eq_true hb] at H
    by_cases hlt : x < n
    · have i1 : ¬ (n : Int) ≤ x := by omega
      have hw2 : IntKind.i64.wrap (x : Int) = x := by rw [IntKind.wrap_i64]; omega
      rw [if_pos hlt, decide_eq_true hlt]
      clear hb
      go_enter Hvah.func145, Hvah.ntmps145
      go_wp2_with (go_at_call 89; refine H.mono ?_; rintro e w1 ⟨rfl, rfl⟩)
      go_ret2
      exact ⟨rfl, rfl⟩
    · have i1 : (n : Int) ≤ x := by omega
      rw [if_neg hlt, decide_eq_false hlt]
      clear hb
      go_enter Hvah.func145, Hvah.ntmps145
      go_wp2_with (go_at_call 89; refine H.mono ?_; rintro e w1 ⟨rfl, rfl⟩)
      go_ret2
      exact ⟨rfl, rfl⟩
  · rw [if_neg hb, decide_eq_false hb] at H
    have hlt : ¬ x < n := by omega
    rw [if_neg hlt, decide_eq_false hlt]
    clear hb
    go_enter Hvah.func145, Hvah.ntmps145
    go_wp2_with (go_at_call 89; refine H.mono ?_; rintro e w1 ⟨rfl, rfl⟩)
    go_ret2
    exact ⟨rfl, rfl⟩
theorem yEnd (hO : Small O w) (h : NV O w v x) (g : NV O w u y) (hx : dl x ≤ 2000) (hy : dl y ≤ 2000) : Calls Hvah.prog 153 #[v, u] w fun e w' => ∃ r, e = .returned r ∧ NV O w' r (endA x y) ∧ Ext w w' := by
  have H1 := nIsZero O u y w g
  by_cases h0 : y = 0
  · rw [decide_eq_true h0] at H1
    have e0 : endA x y = 0 := by simp [endA, h0]
    rw [e0]
    clear h0
    go_enter Hvah.func153, Hvah.ntmps153
    go_wp2_with (go_at_call 88; refine H1.mono ?_; rintro e w1 ⟨rfl, hd⟩; have he := drew_ext hd; clear hd)
    go_ret
    exact ⟨_, rfl, ⟨[], NL.nil, rfl⟩, he⟩
  · rw [decide_eq_false h0] at H1
    have e0 : endA x y = x + y := by simp [endA, h0]
    rw [e0]
    clear h0
    go_enter Hvah.func153, Hvah.ntmps153
    go_wp2_with (first | (go_at_call 88; refine H1.mono ?_; rintro e w1 ⟨rfl, hd⟩; have he := drew_ext hd; clear hd) | (go_at_call 44; refine (nAdd O v u x y _ (hO.ext he) (h.ext he) (g.ext he) hx hy).mono ?_; rintro e w2 ⟨r, rfl, hr, he2⟩))
    go_ret
    exact ⟨r, rfl, hr, he.trans he2⟩
theorem yOperand (l : List Nat) (h : NumL O w v l) (i : Nat) : Calls Hvah.prog 237 #[v, .int .i64 i] w fun e w' => ∃ r, e = .returned r ∧ NV O w' r (l.getD i 0) ∧ w' = w := by
  by_cases hlt : i < l.length
  · obtain ⟨b, cap, u, rfl, hu, hbl, hc⟩ := NumL.at_ h i hlt
    have e0 : l.getD i 0 = l[i] := by simp [List.getD, hlt]
    rw [e0]
    have i1 : (i : Int) < l.length := by omega
    go_enter Hvah.func237, Hvah.ntmps237
    go_wp2
    go_ret
    exact ⟨u, rfl, hu, rfl⟩
  · obtain ⟨o, cap, hv, _⟩ := GRow.slice h
    subst hv
    have e0 : l.getD i 0 = 0 := by simp [List.getD, Nat.le_of_not_lt hlt]
    rw [e0]
    have i1 : ¬ (i : Int) < l.length := by omega
    go_enter Hvah.func237, Hvah.ntmps237
    go_wp2
    go_ret
    exact ⟨_, rfl, ⟨[], NL.nil, rfl⟩, rfl⟩
end
section
variable {O : Nat → Prop} {w : World} {F q n : Nat} {t : TypeId} {c : Nat → Value}
set_option maxRecDepth 100000 in
/-- A frame's operand; the list's last is the top. -/
theorem yArg (hB : Blk w F n t c) (hq : q + 60 ≤ n) (l : List Nat) (h : NumL O w (c (q + 8)) l) (i : Nat) (hi : i < 1000) (hl : l.length ≤ 100000) :
    Calls Hvah.prog 73 #[.pointer (some ⟨F, q, none⟩), .int .i64 i] w fun e w' => ∃ r, e = .returned r ∧ NV O w' r (l.reverse.getD i 0) ∧ Ext w w' := by
  have k8 := hB.cell (i := q + 8) (by omega)
  by_cases hlt : i < l.length
  · obtain ⟨b, cap, u, hv, hu, hbl, hc⟩ := NumL.at_ h (l.length - 1 - i) (by omega)
    rw [hv] at k8
    have e0 : l.reverse.getD i 0 = l[l.length - 1 - i] := by
      rw [List.getD_eq_getElem?_getD, List.getElem?_reverse hlt, List.getElem?_eq_getElem (by omega)]; rfl
    rw [e0]
    have i1 : ¬ (l.length : Int) ≤ i := by omega
    obtain ⟨j, hj⟩ : ∃ j, Hid (l.length - 1 - i = j) := ⟨_, rfl⟩
    rw [hj.out] at hc
    have i2 : (l.length : Int) - 1 - i = j := by have := hj.out; omega
    have i3 : (j : Int) < l.length := by have := hj.out; omega
    generalize l[l.length - 1 - i] = z at *
    go_enter Hvah.func73, Hvah.ntmps73
    go_wp2
    go_quiet (fail)
    go_wp2
    go_ret
    exact ⟨u, rfl, hu.ext ((Ext.refl _).drewN _), (Ext.refl _).drewN _⟩
  · obtain ⟨o, cap, hv, _⟩ := GRow.slice h
    rw [hv] at k8
    have e0 : l.reverse.getD i 0 = 0 := by simp [List.getD, Nat.le_of_not_lt hlt]
    rw [e0]
    have i1 : (l.length : Int) ≤ i := by omega
    go_enter Hvah.func73, Hvah.ntmps73
    go_wp2
    go_ret
    exact ⟨_, rfl, ⟨[], NL.nil, rfl⟩, Ext.refl _⟩
end
end Go.Proofs.YgvahwGreat
