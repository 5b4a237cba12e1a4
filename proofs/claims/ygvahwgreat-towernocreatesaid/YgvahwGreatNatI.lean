import Derived.Test.YgvahwGreatYpL
namespace Go.Proofs.YgvahwGreat
open Go.RowKit
set_option maxHeartbeats 1600000 in
/-- nat.FromBE. -/
theorem fromBE2 (O O' : Nat → Prop) (v : Value) (l : List Nat) (w : World) (hO : ∀ b, O b → b < w.heap.size) (h : NL O' w v l) :
    Calls Hvah.prog 43 #[v] w fun e w' => ∃ r, e = .returned r ∧ NL O w' r (digs (bev l)) ∧ Ext w w' := by
  obtain ⟨o, c, rfl, hc, hm, hb⟩ := h
  have dl := hb.lt
  go_enter Hvah.func43, Hvah.ntmps43
  go_wp2
  go_loop [3] (fun i => ∃ k : Nat, k ≤ l.length ∧ i = .int .i64 k ∧ ∀ j (h : j < l.length), j < k → l[j] = 0) (fun i => l.length - (intOf i).toNat)
  case atStart => exact ⟨0, Nat.zero_le _, rfl, fun j h hj => by omega⟩
  case round =>
    obtain ⟨k, hk, rfl, hz⟩ := hrel
    by_cases hlt : k < l.length
    · obtain ⟨b, off, rfl, hO1, hb1, hcell⟩ := hb.spot (by intro e; rw [e] at hlt; simp at hlt)
      have c1 := hcell k hlt
      have HL : Hid (l[k] = l[k]) := rfl
      by_cases h0 : l[k] = 0
      · have HZ : Hid (l[k] = 0) := h0
        rw [h0] at c1
        clear hcell HL h0
        go_wp2
        refine ⟨⟨k + 1, by omega, int_eq (by omega), fun j hj hjk => ?_⟩, by simp [intOf]; omega⟩
        by_cases e : j = k
        · subst e; exact HZ.out
        · exact hz j hj (by omega)
      · have HD : Hid (digs (bev l) = (l.drop k).reverse) := digs_of_lead l k dl hlt hz h0
        have h0' : ((l[k] : Int) == 0) = false := by simpa using h0
        have hne : ¬ ((k : Int) == (l.length : Int)) = true := by simp; omega
        clear HL
        have hn47 : l.length - k ≤ 140737488355328 := by omega
        go_wp2_with (at_make; refine wl_make_bytes Hvah.underlying109 (l.length - k) (by simp [Act.eval]; omega) (by simp [Act.eval]; omega) hn47 ?_)
        go_loopw [30] (fun i wr => ∃ j : Nat, j ≤ l.length - k ∧ i = .int .i64 j ∧ wr.heap[w.heap.size]? = some (.cells (bcells (((l.drop k).reverse.take j) ++ List.replicate (l.length - k - j) 0)).toArray 5 (0, 0)) ∧ Ext w wr)
          (fun i _ => (l.length - k) - (intOf i).toNat)
        case atStart => exact ⟨0, Nat.zero_le _, rfl, by rw [heap_new]; simp [zrow], (Ext.refl _).alloc _ _⟩
        case round =>
          obtain ⟨j, hj, rfl, hrow, hext⟩ := hrel
          have hlen : (l.drop k).reverse.length = l.length - k := by simp
          by_cases hjl : j < l.length - k
          · have hjj : l.length - 1 - j < l.length := by omega
            have c2 := (hext.cell (p := ⟨b, off + (l.length - 1 - j), none⟩) hb1).trans (hcell _ hjj)
            have cr := cell_row hrow j (by simp; omega)
            have fr := frozen_row hrow j
            have e1 : (((l.length : Int) - 1) - (j : Int)).toNat = l.length - 1 - j := by omega
            have HS : Hid ((wr.setCell ⟨w.heap.size, j, none⟩ (.int .u8 (l[l.length - 1 - j] : Nat))).heap[w.heap.size]? = some (.cells (bcells (((l.drop k).reverse.take (j + 1)) ++ List.replicate (l.length - k - (j + 1)) 0)).toArray 5 (0, 0))) := by
              unfold Hid
              rw [heap_setByte hrow j _, set_append_replicate _ j _ _ (by simp; omega) hjl, List.take_succ_eq_append_getElem (by omega)]
              congr 6
              simp only [List.getElem_reverse, List.getElem_drop, List.length_drop]
              congr 2; omega
            generalize l[l.length - 1 - j] = d at *
            clear hcell c1 h0 h0' HD
            go_wp2
            exact ⟨⟨j + 1, by omega, int_eq (by omega), HS.out, hext.setCell (Nat.le_refl _) _⟩, by simp [intOf]; omega⟩
          · have : j = l.length - k := by omega
            subst this
            rw [List.take_of_length_le (by omega), Nat.sub_self, List.replicate_zero, List.append_nil] at hrow
            clear hcell c1 h0 h0'
            go_wp2
            go_ret
            refine ⟨_, rfl, ?_, hext⟩
            rw [HD.out]
            exact NL.row hrow (fun d hd => dl d (List.mem_of_mem_drop (by simpa using hd))) (fun hb => by have := hO _ hb; omega) hlen hn47
    · have : k = l.length := by omega
      subst this
      have HZ : Hid (bev l = 0) := bev_zero l (fun j h => hz j h h)
      go_wp2
      go_ret
      exact ⟨_, rfl, by rw [HZ.out]; exact NL.nil, Ext.refl _⟩
theorem nFromBE {O O' : Nat → Prop} {v : Value} {l : List Nat} {w : World} (hO : Small O w) (h : NL O' w v l) : Calls Hvah.prog 43 #[v] w fun e w' => ∃ r, e = .returned r ∧ NV O w' r (bev l) ∧ Ext w w' := by
  refine (fromBE2 O O' v l w hO h).mono ?_
  rintro e w1 ⟨r, rfl, hr, he⟩
  exact ⟨r, rfl, hr.nv, he⟩
/-- A row of bytes as a slice. -/
theorem NL.ofRow {w : World} {b o n cap : Nat} {l : List Nat} (h : RowIn w b o (bcells l).toArray) (hd : Digits l) (hn : l.length = n) (hb : b < w.heap.size) (hc : n ≤ cap) (hm : cap ≤ 140737488355328) : NL (fun _ => False) w (.slice (some ⟨b, o, none⟩) n cap) l := by
  subst hn
  exact ⟨_, _, rfl, hc, hm, hd, fun _ => ⟨b, o, rfl, fun q => q, hb, fun i hi => h i _ (by simp [bcells, hi])⟩⟩
end Go.Proofs.YgvahwGreat
