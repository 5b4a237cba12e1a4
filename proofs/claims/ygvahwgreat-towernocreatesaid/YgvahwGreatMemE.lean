import Derived.Test.YgvahwGreatMemD
namespace Go.Proofs.YgvahwGreat
open Go.RowKit
section
variable {own : Nat → Nat} {w w' : World} {g m lo hi n cap b off k q : Nat} {o : Option Addr} {c cc : Nat → Value} {l bs : List Nat}
set_option maxRecDepth 100000 in
set_option maxHeartbeats 1600000 in
/-- Move. -/
theorem tMove (h : TopM own w c m lo hi n cap b o cc l) (hB : Blk w g 27024 105 c) (dst src : Nat) (hk : 0 < k) (hfd : dst + k ≤ hi - lo) (hfs : src + k ≤ hi - lo) :
    Calls Hvah.prog 307 #[.pointer (some ⟨g, 1, none⟩), .int .u32 dst, .int .u32 src, .int .u32 k] w fun e w' => e = .returned (.bool true) ∧ ∃ cc', TopM own w' c m lo hi n cap b o cc' (layN l (lo + dst) ((l.drop (lo + src)).take k)) ∧ Mod (· = b) w w' := by
  have h2 := h.h2
  have HP := fun W (hW : Ext w W) => tPart (h.ext hW) (hB.ext hW) hk hfd
  have HQ := fun W (hW : Ext w W) => tPart (h.ext hW) (hB.ext hW) hk hfs
  have hcl : ((l.drop (lo + src)).take k).length = k := by have := h.len; simp; omega
  have HL : ∀ W, Ext w W → (∀ j v, (bcells ((l.drop (lo + src)).take k))[j]? = some v → W.cell? ((⟨b, lo + src, none⟩ : Addr).add j) = some v) ∧ W.there b (lo + dst) k ∧ ∃ cc', TopM own (W.setCells b (lo + dst) (bcells ((l.drop (lo + src)).take k))) c m lo hi n cap b o cc' (layN l (lo + dst) ((l.drop (lo + src)).take k)) ∧ Mod (· = b) w (W.setCells b (lo + dst) (bcells ((l.drop (lo + src)).take k))) := fun W hW => by
    have hT := h.ext hW
    obtain ⟨cc', q1, q2⟩ := hT.lay (q := lo + dst) (bs := (l.drop (lo + src)).take k) (by omega) (by rw [hcl]; omega) (fun x hx => h.lt x (List.mem_of_mem_drop (List.mem_of_mem_take hx)))
    refine ⟨fun j v hv => ?_, hT.there (by omega) hk, cc', q1, (hW.mod _).trans q2⟩
    obtain ⟨b', off', e1, _, hbl, hc⟩ := (hT.bs hk hfs).spot (fun q => by rw [q] at hcl; simp at hcl; omega)
    injection e1 with e1
    injection e1 with e1 e2
    subst e1; subst e2
    simp only [bcells, List.getElem?_map, Option.map_eq_some_iff] at hv
    obtain ⟨x, hx, rfl⟩ := hv
    obtain ⟨hi, rfl⟩ := List.getElem?_eq_some_iff.1 hx
    rw [add_cell]
    exact hc j hi
  have hE := Ext.refl w
  by_cases hds : dst = src
  · subst hds
    generalize (l.drop (lo + dst)).take k = D at *
    generalize lo + dst = q at *
    generalize layN l q D = R at *
    go_enter Hvah.func307, Hvah.ntmps307
    go_wp2_with (first | (go_at_call 367; refine (HP _ hE).mono ?_; rintro e w1 ⟨rfl, he⟩; replace hE := hE.trans he; clear he) | ((with_reducible (refine Veil.out ?_; apply wl_copyC Hvah.underlying23 (l := D))); (case hd => rfl); (case hs => rfl); (case hl => rw [hcl, Nat.min_self]); (case hsrc => exact (HL _ hE).1); (case hth => rw [hcl]; exact (HL _ hE).2.1); rw [hcl]))
    go_ret
    exact ⟨rfl, (HL _ hE).2.2⟩
  · generalize (l.drop (lo + src)).take k = D at *
    generalize layN l (lo + dst) D = R at *
    obtain ⟨qd, eqd⟩ : ∃ qd, lo + dst = qd := ⟨_, rfl⟩
    obtain ⟨qs, eqs⟩ : ∃ qs, lo + src = qs := ⟨_, rfl⟩
    rw [eqd] at HP HL
    rw [eqs] at HQ HL
    clear eqd eqs
    go_enter Hvah.func307, Hvah.ntmps307
    go_wp2_with (first | (go_at_call_of 367 (Value.int .u32 (dst : Int)); refine (HP _ hE).mono ?_; rintro e w1 ⟨rfl, he⟩; replace hE := hE.trans he; clear he) | (go_at_call_of 367 (Value.int .u32 (src : Int)); refine (HQ _ hE).mono ?_; rintro e w1 ⟨rfl, he⟩; replace hE := hE.trans he; clear he) | ((with_reducible (refine Veil.out ?_; apply wl_copyC Hvah.underlying23 (l := D))); (case hd => rfl); (case hs => rfl); (case hl => rw [hcl, Nat.min_self]); (case hsrc => exact (HL _ hE).1); (case hth => rw [hcl]; exact (HL _ hE).2.1); rw [hcl]))
    go_ret
    exact ⟨rfl, (HL _ hE).2.2⟩
set_option maxRecDepth 100000 in
/-- Leave. -/
theorem aLeave (g m : Nat) (c : Nat → Value) (w : World) (hB : Blk w g 27024 105 c) (hm : m < 7) (k10 : c 10 = .int .u8 (m + 1 : Nat)) :
    Calls Hvah.prog 265 #[.pointer (some ⟨g, 1, none⟩)] w fun e w' => e = .returned (.bool true) ∧ Blk w' g 27024 105 (updv c 10 (.int .u8 (m : Nat))) ∧ Mod (· = g) w w' := by
  have q10 := hB.cell (i := 10) (by omega)
  rw [k10] at q10
  have hfz := hB.fz
  have i1 : ((m + 1 : Nat) : Int) = (m : Int) + 1 := by omega
  rw [i1] at q10
  have i2 : ¬ ((m : Int) + 1 = 0) := by omega
  have i6 : IntKind.u8.wrap ((m : Int) + 1 - 1) = m := by rw [IntKind.wrap_u8]; omega
  go_enter Hvah.func265, Hvah.ntmps265
  go_wp2
  go_ret
  exact ⟨rfl, by first | exact hB.set 10 _ | (simp; exact hB.set 10 _), (Mod.refl (· = g) w).setCell (Or.inl rfl) _⟩
set_option maxRecDepth 100000 in
set_option maxHeartbeats 1600000 in
/-- Enter. -/
theorem aEnter (g m lo : Nat) (c : Nat → Value) (w : World) (hB : Blk w g 27024 105 c) (hm : m < 7) (k10 : c 10 = .int .u8 (m : Nat)) (kb : c (2 + m) = .int .u32 lo) :
    Calls Hvah.prog 188 #[.pointer (some ⟨g, 1, none⟩)] w fun e w' => e = .returned (.bool true) ∧ Blk w' g 27024 105 (updv (updv c (2 + (m + 1)) (.int .u32 lo)) 10 (.int .u8 (m + 1 : Nat))) ∧ Mod (· = g) w w' := by
  have q10 := hB.cell (i := 10) (by omega)
  have qb := hB.cell (i := 2 + m) (by omega)
  have qc := hB.cell (i := 2 + (m + 1)) (by omega)
  rw [k10] at q10
  rw [kb] at qb
  have hfz := hB.fz
  have i2 : ¬ (6 : Int) < m := by omega
  have i6 : IntKind.u8.wrap ((m : Int) + 1) = (m : Int) + 1 := by rw [IntKind.wrap_u8]; omega
  have i7 : ((m : Int) + 1).toNat = m + 1 := by omega
  go_enter Hvah.func188, Hvah.ntmps188
  go_wp2
  go_region
  refine w_gen (fun W => Blk W g 27024 105 (updv c (2 + (m + 1)) (.int .u32 lo)) ∧ Mod (· = g) w W) ⟨?_, ?_⟩ ?_
  · exact (hB.set (2 + (m + 1)) (.int .u32 lo)).drew
  · exact ((Mod.refl (· = g) w).setCell (Or.inl rfl) _).drew
  rintro W ⟨hB1, hM1⟩
  clear q10 qb qc hfz
  have q10 := hB1.cell (i := 10) (by omega)
  rw [updv_ne _ _ (by omega), k10] at q10
  have hfz := hB1.fz
  go_wp2
  go_ret
  refine ⟨rfl, ?_, hM1.setCell (Or.inl rfl) _⟩
  have := hB1.set 10 (.int .u8 (m + 1 : Nat))
  rw [show ((m + 1 : Nat) : Int) = (m : Int) + 1 by omega] at this ⊢
  exact this
end
end Go.Proofs.YgvahwGreat
