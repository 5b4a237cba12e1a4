import Derived.Test.YgvahwGreatMod
namespace Go.Proofs.YgvahwGreat
open Go.RowKit

/-- A block of limbs. -/
def UB (w : World) (g : Nat) (t : TypeId) (l : List Nat) : Prop := w.heap[g]? = some (.cells (ucells l).toArray t (0, 0))
theorem UB.lt {w : World} {g : Nat} {t : TypeId} {l : List Nat} (h : UB w g t l) : g < w.heap.size := (Array.getElem?_eq_some_iff.1 h).1
theorem UB.ext {w w' : World} {g : Nat} {t : TypeId} {l : List Nat} (h : UB w g t l) (e : Ext w w') : UB w' g t l := (e.block g h.lt).trans h
theorem UB.mod {S : Nat → Prop} {w w' : World} {g : Nat} {t : TypeId} {l : List Nat} (h : UB w g t l) (e : Mod S w w') (hn : ¬ S g) : UB w' g t l := (e.block g h.lt hn).trans h
theorem UB.cell {w : World} {g : Nat} {t : TypeId} {l : List Nat} (h : UB w g t l) (j : Nat) (hj : j < l.length) : w.cell? ⟨g, j, none⟩ = some (.int .u64 (l[j] : Nat)) := cell_urow h j hj
theorem UB.fz {w : World} {g : Nat} {t : TypeId} {l : List Nat} (h : UB w g t l) (j : Nat) : w.frozen? ⟨g, j, none⟩ = false := frozen_urow h j
theorem UB.set {w : World} {g : Nat} {t : TypeId} {l : List Nat} (h : UB w g t l) (j v : Nat) : UB (w.setCell ⟨g, j, none⟩ (.int .u64 v)) g t (l.set j v) := heap_setU h j v
theorem UB.off {w : World} {g b o : Nat} {t : TypeId} {l : List Nat} {v : Value} (h : UB w g t l) (hb : g ≠ b) : UB (w.setCell ⟨b, o, none⟩ v) g t l := (Below.heap_setCell _ _ _ _ hb).trans h
theorem UB.drew {w : World} {g : Nat} {t : TypeId} {l : List Nat} (h : UB w g t l) : UB w.drew g t l := h

theorem set_low2 (l q h : List Nat) (k v : Nat) (hk : k < l.length) : (l.take (k + 1) ++ q ++ h).set k v = l.take k ++ (v :: q) ++ h := by
  rw [List.append_assoc, set_low l (q ++ h) k v hk, List.append_assoc]; rfl

set_option maxHeartbeats 1600000 in
/-- Division by one limb, in place: the lower n limbs l, above them h. -/
theorem uShort (g n y : Nat) (t : TypeId) (l h : List Nat) (w : World) (hl : l.length = n) (hd : L64 l) (hy : y < 18446744073709551616) (hy0 : 0 < y) (hh : n + h.length = 8) (hrow : UB w g t (l ++ h)) :
    Calls Hvah.prog 429 #[.pointer (some ⟨g, 0, none⟩), .int .u8 n, .int .u64 y] w fun e w' => ∃ (q : List Nat) (r : Nat), e = .returned (.int .u64 r) ∧ q.length = n ∧ L64 q ∧ r < y ∧ Hid (lv q * y + r = lv l) ∧ UB w' g t (q ++ h) ∧ Mod (· = g) w w' := by
  have hn : n ≤ 8 := by omega
  go_enter Hvah.func429, Hvah.ntmps429
  go_wp2
  go_loopw [7, 8] (fun cy i wr => ∃ (k r : Nat) (q : List Nat), k ≤ n ∧ i = .int .u8 k ∧ cy = .int .u64 r ∧ r < y ∧ q.length = n - k ∧ L64 q ∧ Hid (lv q * y + r = lv (l.drop k)) ∧ UB wr g t (l.take k ++ q ++ h) ∧ Mod (· = g) w wr) (fun _ i _ => (intOf i).toNat)
  case atStart => exact ⟨n, 0, [], by omega, rfl, rfl, hy0, by simp, L64.nil, by rw [List.drop_of_length_le (by omega)]; simp [Hid, lv], by rw [List.take_of_length_le (by omega), List.append_nil]; exact hrow, Mod.refl _ _⟩
  case round =>
    obtain ⟨k, r, q, hk, rfl, rfl, hr, hq, hqd, hv, hu, hm⟩ := hrel
    by_cases hlt : 0 < k
    · obtain ⟨j, rfl⟩ : ∃ j, k = j + 1 := ⟨k - 1, by omega⟩
      have hkl : j < l.length := by omega
      have hx := hd _ (List.getElem_mem hkl)
      have HD : Hid (l.drop j = l[j] :: l.drop (j + 1)) := (List.drop_eq_getElem_cons hkl)
      have cg := hu.cell j (by simp; omega)
      have ce : (l.take (j + 1) ++ q ++ h)[j]'(by simp; omega) = l[j] := by
        rw [List.getElem_append_left (by simp; omega), List.getElem_append_left (by simp; omega), List.getElem_take]
      rw [ce] at cg
      have HS : Hid (∀ v, ((l.take (j + 1) ++ q ++ h).set j v) = l.take j ++ (v :: q) ++ h) := fun v => set_low2 l q h j v hkl
      clear ce
      generalize l[j] = x at *
      have hj8 : (j : Int) < 8 := by omega
      go_wp2_with (first | (go_at_call 379; refine (mDiv64_yes r x y _ hr hx hy).mono ?_; rintro e w1 ⟨a, b, rfl, ha, hb, hab, he⟩; have hu1 := hu.ext he; have c1 := hu1.cell j (by simp; omega); have f1 := hu1.fz j))
      refine ⟨⟨j, b, a :: q, by omega, int_eq (by omega), rfl, hb, by simp; omega, hqd.cons ha, ?_, ?_, (hm.trans_ext he).setCell (Or.inl rfl) _⟩, by simp [intOf]⟩
      · unfold Hid
        rw [HD.out, lv, lv, ← hv.out, Nat.add_mul, Nat.mul_add]
        have := hab.out
        clear HS HD
        rw [Nat.mul_assoc]
        generalize a * y = U at *
        generalize lv q * y = Z at *
        omega
      · have := hu1.set j a
        rw [HS.out] at this
        exact this
    · have : k = 0 := by omega
      subst this
      rw [List.drop_zero] at hv
      rw [List.take_zero, List.nil_append] at hu
      go_wp2
      go_ret
      exact ⟨q, r, rfl, by omega, hqd, hr, hv, hu, hm⟩
end Go.Proofs.YgvahwGreat
