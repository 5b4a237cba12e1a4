import Derived.Test.YgvahwGreatMemF
namespace Go.Proofs.YgvahwGreat
open Go.RowKit
section
variable {own : Nat → Nat} {w w' : World} {g m lo hi n cap b off k q : Nat} {o : Option Addr} {c cc : Nat → Value} {l bs : List Nat}
set_option maxRecDepth 100000 in
set_option maxHeartbeats 3200000 in
/-- Grow: the room is there. -/
theorem tGrow1 (h : TopM own w c m lo hi n cap b o cc l) (hB : Blk w g 27024 105 c) (hgb : g ≠ b) (words : Nat) (hw : words ≤ 22415) (hmore : hi - lo < 32 * words) (hroom : 32 * words - (hi - lo) ≤ n - hi) :
    Calls Hvah.prog 281 #[.pointer (some ⟨g, 1, none⟩), .int .u32 words] w fun e w' => e = .returned (.bool true) ∧ Blk w' g 27024 105 (updv c (2 + (m + 1)) (.int .u32 (lo + 32 * words : Nat))) ∧ (∃ cc', Blk w' b cap 5 cc' ∧ ∀ i (h : i < (layN l hi (List.replicate (32 * words - (hi - lo)) 0)).length), cc' i = .int .u8 ((layN l hi (List.replicate (32 * words - (hi - lo)) 0))[i] : Nat)) ∧ Mod (fun x => x = g ∨ x = b) w w' := by
  have h1 := h.h1
  have h2 := h.h2
  have hn := h.hn
  have hcap := h.hcap
  have HT := aTop g m lo hi n cap b o c w hB h.hm h.k10 h.klo h.khi h.k1 h.ho h1 h2 hn hcap
  have hm := h.hm
  have ho : o = some ⟨b, 0, none⟩ := by
    rcases h.ho with ⟨_, e, _⟩ | e
    · omega
    · exact e
  subst ho
  have HC : ∀ W, Ext w W → W.cell? ⟨g, 1, none⟩ = some (.slice (some ⟨b, 0, none⟩) n cap) ∧ W.cell? ⟨g, 10, none⟩ = some (.int .u8 ((m : Int) + 1)) ∧ W.cell? ⟨g, 2 + (m + 1), none⟩ = some (.int .u32 hi) := fun W hW => by
    have q1 := (hB.ext hW).cell (i := 1) (by omega)
    have q2 := (hB.ext hW).cell (i := 10) (by omega)
    have q3 := (hB.ext hW).cell (i := 2 + (m + 1)) (by omega)
    rw [h.k1] at q1
    rw [h.k10] at q2
    rw [h.khi] at q3
    exact ⟨q1, by rw [q2]; simp, q3⟩
  obtain ⟨d, hd⟩ : ∃ d, Hid (hi - lo = d) := ⟨_, rfl⟩
  rw [hd.out] at HT hmore hroom ⊢
  obtain ⟨e, he0⟩ : ∃ e, Hid (32 * words - d = e) := ⟨_, rfl⟩
  rw [he0.out] at hroom ⊢
  have he1 : 0 < e := by have := he0.out; omega
  have HL : ∀ W, Ext w W → W.there b hi e ∧ Blk (W.setCells b hi (bcells (List.replicate e 0))) g 27024 105 c ∧ (∃ cc', Blk (W.setCells b hi (bcells (List.replicate e 0))) b cap 5 cc' ∧ ∀ i (h : i < (layN l hi (List.replicate e 0)).length), cc' i = .int .u8 ((layN l hi (List.replicate e 0))[i] : Nat)) ∧ Mod (fun x => x = g ∨ x = b) w (W.setCells b hi (bcells (List.replicate e 0))) := fun W hW => by
    have hT := h.ext hW
    obtain ⟨cc', q1, q2⟩ := hT.lay (q := hi) (bs := List.replicate e 0) (by omega) (by simp; omega) (fun x hx => by rw [List.eq_of_mem_replicate hx]; decide)
    obtain ⟨_, q3, q4⟩ := q1.blk (by omega)
    exact ⟨hT.there (by omega) he1, (hB.ext hW).mod q2 hgb, ⟨cc', q3, q4⟩, (hW.mod _).trans (q2.sub (fun x hx => Or.inr hx))⟩
  have hsum : Hid (lo + 32 * words = hi + e) := by unfold Hid; have := hd.out; have := he0.out; omega
  have hsl : hi + e ≤ 5020960 := by omega
  generalize layN l hi (List.replicate e 0) = LL at *
  rw [hsum.out]
  have k10' : c 10 = .int .u8 ((m : Int) + 1) := by rw [h.k10]; simp
  have khi := h.khi
  have i1 : ¬ (22415 : Int) < words := by omega
  have w1 : IntKind.u32.wrap (32 * (words : Int)) = 32 * words := by rw [IntKind.wrap_u32']; omega
  have w2 : IntKind.u32.wrap (d : Int) = d := by rw [IntKind.wrap_u32']; have := hd.out; omega
  have i2 : ¬ 32 * (words : Int) ≤ d := by omega
  have i3 : (32 * (words : Int)) - d = e := by have := he0.out; omega
  have i4 : (e : Int) ≤ n - hi := by omega
  have i5 : (hi : Int) ≤ n := by omega
  have i6 : (n : Int) ≤ cap := by omega
  go_enter Hvah.func281, Hvah.ntmps281
  go_wp2_with (go_at_call 372; refine HT.mono ?_; rintro e1 w1' ⟨p, rfl, _, he⟩; have hq := HC w1' he; have hq1 := hq.1; have hq2 := hq.2.1; have hq3 := hq.2.2; clear hq)
  go_quiet (fail)
  clear hq2 hq3 HC HT
  go_wp2_with ((with_reducible (refine Veil.out ?_; apply wl_clearC Hvah.underlying23)); (case hd => rfl); (case hn => exact he1); (case hth => exact (HL _ (he.drewN _)).1); refine w_gen (fun W => Blk W g 27024 105 c ∧ (∃ cc', Blk W b cap 5 cc' ∧ ∀ i (h : i < LL.length), cc' i = .int .u8 (LL[i] : Nat)) ∧ Mod (fun x => x = g ∨ x = b) w W) (HL _ (he.drewN _)).2 ?_; rintro W5 ⟨hB5, hC5, hM5⟩)
  have q10 := hB5.cell (i := 10) (by omega)
  have q3 := hB5.cell (i := 2 + (m + 1)) (by omega)
  rw [k10'] at q10
  rw [khi] at q3
  have hfz := hB5.fz
  have w5 : IntKind.u32.wrap (e : Int) = e := by rw [IntKind.wrap_u32']; omega
  have w6 : IntKind.u32.wrap ((hi : Int) + e) = (hi : Int) + e := by rw [IntKind.wrap_u32']; omega
  have i7 : ((m : Int) + 1).toNat = m + 1 := by omega
  have i8 : (m : Int) + 1 < 8 := by omega
  have i9 : (0 : Int) ≤ (m : Int) + 1 := by omega
  go_region
  go_wp2
  go_ret
  refine ⟨rfl, ?_, ?_, ?_⟩
  · have := (hB5.set (2 + (m + 1)) (.int .u32 (hi + e : Nat))).drew
    rw [show ((hi + e : Nat) : Int) = (hi : Int) + e by omega] at this ⊢
    exact this
  · obtain ⟨cc', q1, q2⟩ := hC5
    exact ⟨cc', (q1.off (fun q => hgb q.symm)).drew, q2⟩
  · exact (hM5.setCell (Or.inl (Or.inl rfl)) _).drew
end
end Go.Proofs.YgvahwGreat
