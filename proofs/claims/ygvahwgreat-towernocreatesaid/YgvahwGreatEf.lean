import Derived.Test.YgvahwGreatEe
namespace Go.Proofs.YgvahwGreat
open Go.RowKit
set_option linter.unusedSimpArgs false

theorem onet74 : OneT 87 := oneT_of (by kernel_rfl) (by kernel_rfl)
section
variable {own : Nat → Nat} {w : World} {g : Nat} {c : Nat → Value} {V : EV} {st : ASt} {sn stale : List Nat}
set_option maxRecDepth 100000 in
set_option maxHeartbeats 6400000 in
theorem eSpacious (h : MRep own w g c V st sn stale) (hf : st.frames = []) (h1 : V.accts.length ≤ 2539) (h2 : V.slots.length ≤ 2496) (h3 : V.journal.length ≤ 65445) (h4 : V.marks.length < 16384) : Calls Hvah.prog 100 #[.pointer (some ⟨g, 0, none⟩)] w fun e w' => e = .returned (.bool true) ∧ Ext w w' := by
  have HS := vSizes h.v
  have hp := h.m.ptr
  have ht := h.m.top
  have hm := h.m.mem.top
  rw [hf] at ht
  rw [show ((st.frames.map (·.mem)).length : Nat) = 0 by rw [hf]; rfl] at hm
  have hb := h.v.blk
  generalize V.accts.length = n1 at *
  generalize V.slots.length = n2 at *
  generalize V.journal.length = n3 at *
  generalize V.marks.length = n4 at *
  have z1 : (n1 : Int) ≤ 2539 := by omega
  have z2 : (n2 : Int) ≤ 2496 := by omega
  have z3 : (n3 : Int) ≤ 65445 := by omega
  have z4 : (n4 : Int) < 16384 := by omega
  have z5 : (0 : Int) ≤ (n4 : Int) := by omega
  have ht' : c 2258 = .int .i8 (-1) := by rw [ht]; rfl
  go_enter Hvah.func100, Hvah.ntmps100
  go_wp2_with (first
    | ((with_reducible (refine Veil.out ?_; apply wl_loadB onet60v)); (case hx => rfl); (case hB => exact hb); (case hi => decide); rw [hp])
    | (go_at_call 101; refine HS.mono ?_; rintro e w1 ⟨rfl, he⟩; have hb1 := hb.ext he)
    | ((with_reducible (refine Veil.out ?_; apply wlG_loadB (i := 10) one5i)); (case hw => go_simp); (case hx => rfl); (case hB => exact hb1); (case hi => decide); rw [hm])
    | ((with_reducible (refine Veil.out ?_; apply wlG_loadB (i := 2258) onet74)); (case hw => go_simp); (case hx => rfl); (case hB => exact hb1); (case hi => decide); rw [ht']))
  go_ret
  exact ⟨by first | rfl | simp, he⟩
end
end Go.Proofs.YgvahwGreat
