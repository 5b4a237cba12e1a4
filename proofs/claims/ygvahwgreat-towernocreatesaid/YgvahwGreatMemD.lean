import Derived.Test.YgvahwGreatMemC
namespace Go.Proofs.YgvahwGreat
open Go.RowKit

theorem layN_two {l : List Nat} {q : Nat} {x y : List Nat} (h : q + x.length + y.length ≤ l.length) : layN (layN l q x) (q + x.length) y = layN l q (x ++ y) := by
  apply List.ext_getElem?
  intro i
  rw [layN_get (by rw [layN_len (by omega)]; omega), layN_get (by omega), layN_get (by simp; omega)]
  simp only [List.length_append]
  by_cases h1 : q ≤ i ∧ i < q + x.length
  · rw [if_neg (by omega), if_pos h1, if_pos (by omega), List.getElem?_append_left (by omega)]
  · by_cases h2 : q + x.length ≤ i ∧ i < q + x.length + y.length
    · rw [if_pos h2, if_pos (by omega), List.getElem?_append_right (by omega)]
      congr 1; omega
    · rw [if_neg h2, if_neg h1, if_neg (by omega)]
theorem cut_all {L : List Nat} {from_ k : Nat} (h : k ≤ L.length - from_) : cutA L from_ k = (L.drop from_).take k := by
  unfold cutA; rw [List.take_append_of_le_length (by simp; omega)]
theorem cut_part {L : List Nat} {from_ k : Nat} (h : L.length - from_ ≤ k) : cutA L from_ k = L.drop from_ ++ List.replicate (k - (L.length - from_)) 0 := by
  unfold cutA
  rw [List.take_append, List.take_of_length_le (by simp; omega)]
  simp
theorem add_cell (b o j : Nat) : (⟨b, o, none⟩ : Addr).add j = ⟨b, o + j, none⟩ := Addr.add_mid b o j
section
variable {own : Nat → Nat} {w w' : World} {g m lo hi n cap b off k q : Nat} {o : Option Addr} {c cc : Nat → Value} {l bs : List Nat}
set_option maxRecDepth 100000 in
set_option maxHeartbeats 1600000 in
/-- Write. -/
theorem tWrite (O : Nat → Prop) (h : TopM own w c m lo hi n cap b o cc l) (hB : Blk w g 27024 105 c) (v : Value) (L : List Nat) (hv : NL O w v L) (from_ : Nat) (hfr : from_ < 18446744073709551616) (hk : 0 < k) (hfit : off + k ≤ hi - lo) :
    Calls Hvah.prog 267 #[.pointer (some ⟨g, 1, none⟩), .int .u32 off, v, .int .u64 from_, .int .u32 k] w fun e w' => e = .returned (.bool true) ∧ ∃ cc', TopM own w' c m lo hi n cap b o cc' (layN l (lo + off) (cutA L from_ k)) ∧ Mod (· = b) w w' := by
  have h2 := h.h2
  have hcp := h.hcap
  have HP := tPart h hB hk hfit
  obtain ⟨so, sc, rfl, hsc1, hsc2, hbs⟩ := hv
  have hLt := hbs.lt
  have hki : (k : Int) ≤ 5020960 := by omega
  have hLi : (L.length : Int) ≤ 140737488355328 := by omega
  have hwl : IntKind.u64.wrap (L.length : Int) = L.length := by rw [IntKind.wrap_u64]; omega
  by_cases hlt : from_ < L.length
  · obtain ⟨sb, sof, rfl, _, hsb, hcell⟩ := hbs.spot (fun e => by rw [e] at hlt; cases hlt)
    have i1 : (from_ : Int) < L.length := by omega
    have hsrc : ∀ W, Ext w W → ∀ (r : Nat), ∀ j v, (bcells ((L.drop from_).take r))[j]? = some v → W.cell? ((⟨sb, sof + from_, none⟩ : Addr).add j) = some v := fun W hW r j v hv => by
      simp only [bcells, List.getElem?_map, Option.map_eq_some_iff] at hv
      obtain ⟨x, hx, rfl⟩ := hv
      rw [List.getElem?_take] at hx
      split at hx
      · rw [List.getElem?_drop] at hx
        obtain ⟨hi, rfl⟩ := List.getElem?_eq_some_iff.1 hx
        rw [add_cell, hW.rc _ _ hsb, Nat.add_assoc]
        exact hcell _ hi
      · cases hx
    by_cases hall : k ≤ L.length - from_
    · have hcl : ((L.drop from_).take k).length = k := by simp; omega
      have HL : ∀ W, Ext w W → W.there b (lo + off) k ∧ ∃ cc', TopM own (W.setCells b (lo + off) (bcells ((L.drop from_).take k))) c m lo hi n cap b o cc' (layN l (lo + off) (cutA L from_ k)) ∧ Mod (· = b) w (W.setCells b (lo + off) (bcells ((L.drop from_).take k))) := fun W hW => by
        have hT := h.ext hW
        obtain ⟨cc', q1, q2⟩ := hT.lay (q := lo + off) (bs := (L.drop from_).take k) (by omega) (by rw [hcl]; omega) (fun x hx => hLt x (List.mem_of_mem_drop (List.mem_of_mem_take hx)))
        rw [cut_all hall]
        exact ⟨hT.there (by omega) hk, cc', q1, (hW.mod _).trans q2⟩
      have hsrc2 := fun W hW => hsrc W hW k
      have hmin : min (L.length - from_) k = k := by omega
      generalize (L.drop from_).take k = D at *
      generalize lo + off = q at *
      generalize layN l q (cutA L from_ k) = R at *
      go_enter Hvah.func267, Hvah.ntmps267
      go_wp2_with (first | (go_at_call 367; refine HP.mono ?_; rintro e w1 ⟨rfl, he⟩) | ((with_reducible (refine Veil.out ?_; apply wl_copyC Hvah.underlying23 (l := D))); (case hd => rfl); (case hs => rfl); (case hl => rw [hcl, hmin]); (case hsrc => exact hsrc2 _ he); (case hth => rw [hcl]; exact (HL _ he).1); rw [hcl]) | ((with_reducible (refine Veil.out ?_; apply wl_clear0 Hvah.underlying23)); (case hd => rfl)))
      go_ret
      exact ⟨rfl, (HL _ he).2⟩
    · have hcl : (L.drop from_).length = L.length - from_ := by simp
      have htk : (L.drop from_).take (L.length - from_) = L.drop from_ := List.take_of_length_le (by omega)
      have hsrc2 := fun W hW => hsrc W hW (L.length - from_)
      rw [htk] at hsrc2
      obtain ⟨p, hp⟩ : ∃ p, Hid (L.length - from_ = p) := ⟨_, rfl⟩
      have hp0 : 0 < p := by have := hp.out; omega
      have hpk : p < k := by have := hp.out; omega
      have hcp2 : Hid (cutA L from_ k = L.drop from_ ++ List.replicate (k - p) 0) := by unfold Hid; rw [cut_part (by omega), hp.out]
      have HL : ∀ W, Ext w W → W.there b (lo + off) p ∧ (W.setCells b (lo + off) (bcells (L.drop from_))).there b (lo + off + p) (k - p) ∧ ∃ cc', TopM own ((W.setCells b (lo + off) (bcells (L.drop from_))).setCells b (lo + off + p) (bcells (List.replicate (k - p) 0))) c m lo hi n cap b o cc' (layN l (lo + off) (cutA L from_ k)) ∧ Mod (· = b) w ((W.setCells b (lo + off) (bcells (L.drop from_))).setCells b (lo + off + p) (bcells (List.replicate (k - p) 0))) := fun W hW => by
        have hT := h.ext hW
        rw [hp.out] at hcl
        obtain ⟨cc', q1, q2⟩ := hT.lay (q := lo + off) (bs := L.drop from_) (by omega) (by rw [hcl]; omega) (fun x hx => hLt x (List.mem_of_mem_drop hx))
        obtain ⟨cc2, q3, q4⟩ := q1.lay (q := lo + off + p) (bs := List.replicate (k - p) 0) (by omega) (by simp; omega) (fun x hx => by rw [List.eq_of_mem_replicate hx]; decide)
        refine ⟨hT.there (by omega) hp0, q1.there (by omega) (by omega), cc2, ?_, ((hW.mod _).trans q2).trans q4⟩
        have hl2 := layN_two (l := l) (q := lo + off) (x := L.drop from_) (y := List.replicate (k - p) 0) (by rw [hcl, h.len]; simp; omega)
        rw [hcl] at hl2
        rw [hcp2.out, ← hl2]
        exact q3
      have hmin : min (L.length - from_) k = p := by have := hp.out; omega
      have hcl2 : (L.drop from_).length = p := by rw [hcl]; exact hp.out
      clear hcl htk hcp2
      have hps : ((L.length : Int) - from_).toNat = p := by have := hp.out; omega
      have hkp : (p : Int) ≤ k := by omega
      have hkp0 : 0 < k - p := by omega
      generalize L.drop from_ = D at *
      generalize lo + off = q at *
      generalize layN l q (cutA L from_ k) = R at *
      have hne : ¬ k = p := by omega
      go_enter Hvah.func267, Hvah.ntmps267
      go_wp2_with (first | (go_at_call 367; refine HP.mono ?_; rintro e w1 ⟨rfl, he⟩) | ((with_reducible (refine Veil.out ?_; apply wl_copyC Hvah.underlying23 (l := D))); (case hd => rfl); (case hs => rfl); (case hl => rw [hcl2, hmin]); (case hsrc => exact hsrc2 _ he); (case hth => rw [hcl2]; exact (HL _ he).1); rw [hcl2]) | ((with_reducible (refine Veil.out ?_; apply wl_clearC Hvah.underlying23)); (case hd => rfl); (case hn => exact hkp0); (case hth => exact (HL _ he).2.1)))
      go_ret
      exact ⟨rfl, (HL _ he).2.2⟩
  · have i1 : ¬ (from_ : Int) < L.length := by omega
    have hcp2 : Hid (cutA L from_ k = List.replicate k 0) := by
      unfold Hid
      rw [cut_part (by omega), List.drop_of_length_le (by omega), show L.length - from_ = 0 by omega]
      simp
    have HL : ∀ W, Ext w W → W.there b (lo + off) k ∧ ∃ cc', TopM own (W.setCells b (lo + off) (bcells (List.replicate k 0))) c m lo hi n cap b o cc' (layN l (lo + off) (cutA L from_ k)) ∧ Mod (· = b) w (W.setCells b (lo + off) (bcells (List.replicate k 0))) := fun W hW => by
      have hT := h.ext hW
      obtain ⟨cc', q1, q2⟩ := hT.lay (q := lo + off) (bs := List.replicate k 0) (by omega) (by simp; omega) (fun x hx => by rw [List.eq_of_mem_replicate hx]; decide)
      rw [hcp2.out]
      exact ⟨hT.there (by omega) hk, cc', q1, (hW.mod _).trans q2⟩
    clear hcp2
    generalize lo + off = q at *
    generalize layN l q (cutA L from_ k) = R at *
    have hne : ¬ k = 0 := by omega
    go_enter Hvah.func267, Hvah.ntmps267
    go_wp2_with (first | (go_at_call 367; refine HP.mono ?_; rintro e w1 ⟨rfl, he⟩) | ((with_reducible (refine Veil.out ?_; apply wl_clearC Hvah.underlying23)); (case hd => rfl); (case hn => exact hk); (case hth => exact (HL _ he).1)))
    go_ret
    exact ⟨rfl, (HL _ he).2⟩
end
end Go.Proofs.YgvahwGreat
