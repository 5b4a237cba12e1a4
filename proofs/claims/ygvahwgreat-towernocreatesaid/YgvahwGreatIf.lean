import Derived.Test.YgvahwGreatIe
import Derived.StillTactics
namespace Go.Proofs.YgvahwGreat
open Go.RowKit
set_option linter.unusedSimpArgs false

theorem one112i : OneT 56 := oneT_of (by kernel_rfl) (by kernel_rfl)
theorem run_eq_bw (w : World) (a b : Nat) (ha : a < P256) (hb : b < P256) : (Op.equalIn 10000 33 (.agg (bw a)) (.agg (bw b))).run Hvah.prog w = .ok (decide (a = b)) w := by
  have := run_eq_bytes w 33 32 9998 (beL 32 a) (beL 32 b) under28 (len32 ha) (len32 hb)
  rw [show decide (a = b) = decide (beL 32 a = beL 32 b) by
    rw [Bool.eq_iff_iff, decide_eq_true_iff, decide_eq_true_iff]
    exact ⟨fun h => by rw [h], beL_inj⟩]
  exact this
/-- The slots' keys rise from key k on. -/
def risesK : Nat → List (Nat × Nat) → Bool
  | _, [] => true
  | k, s :: l => decide (k < s.1) && risesK s.1 l
/-- The slots of an input account. -/
def slotsOKI (l : List (Nat × Nat)) : Bool := l.all (fun s => decide (s.2 ≠ 0)) && (match l with | [] => true | s :: l => risesK s.1 l)
/-- An input account. -/
def IAcct.ok (a : IAcct) : Bool := !decide (a.nonce = 0 ∧ a.code.length = 0 ∧ (a.bal = 0 ∨ a.slots.length ≠ 0)) && decide (a.code.length ≤ 256 ∧ a.slots.length ≤ 16) && slotsOKI a.slots
/-- By places. -/
theorem risesK_iff : ∀ (l : List (Nat × Nat)) (k : Nat), risesK k l = true ↔ (∀ (h : 0 < l.length), k < (l[0]).1) ∧ ∀ (i : Nat) (h : i + 1 < l.length), (l[i]).1 < (l[i + 1]).1
  | [], k => by simp [risesK]
  | s :: l, k => by
    rw [risesK, Bool.and_eq_true, decide_eq_true_iff, risesK_iff l s.1]
    constructor
    · rintro ⟨h1, h2, h3⟩
      refine ⟨fun _ => h1, fun i h => ?_⟩
      cases i with
      | zero => simpa using h2 (by simpa using h)
      | succ i => simpa using h3 i (by simpa using h)
    · rintro ⟨h1, h2⟩
      refine ⟨h1 (by simp), fun h => by simpa using h2 0 (by simpa using h), fun i h => h2 (i + 1) (by simpa using h)⟩
theorem slotsOKI_iff (l : List (Nat × Nat)) : slotsOKI l = true ↔ (∀ (i : Nat) (h : i < l.length), (l[i]).2 ≠ 0) ∧ ∀ (i : Nat) (h : i + 1 < l.length), (l[i]).1 < (l[i + 1]).1 := by
  unfold slotsOKI
  rw [Bool.and_eq_true, List.all_eq_true]
  have e1 : (∀ x ∈ l, decide (x.2 ≠ 0) = true) ↔ ∀ (i : Nat) (h : i < l.length), (l[i]).2 ≠ 0 := by
    constructor
    · intro h i hi; simpa using h _ (List.getElem_mem hi)
    · intro h x hx
      obtain ⟨i, hi, rfl⟩ := List.getElem_of_mem hx
      simpa using h i hi
  rw [e1]
  refine and_congr_right (fun _ => ?_)
  cases l with
  | nil => simp
  | cons s l =>
    rw [risesK_iff]
    constructor
    · rintro ⟨h2, h3⟩ i h
      cases i with
      | zero => simpa using h2 (by simpa using h)
      | succ i => simpa using h3 i (by simpa using h)
    · intro h2
      exact ⟨fun h => by simpa using h2 0 (by simpa using h), fun i h => h2 (i + 1) (by simpa using h)⟩

theorem lt_of_cell {w : World} {b o : Nat} {v : Value} (h : w.cell? ⟨b, o, none⟩ = some v) : b < w.heap.size := by
  unfold World.cell? at h
  rcases Nat.lt_or_ge b w.heap.size with q | q
  · exact q
  · simp [Array.getElem?_eq_none q] at h
theorem bw0 : bw 0 = #[.int .u8 0, .int .u8 0, .int .u8 0, .int .u8 0, .int .u8 0, .int .u8 0, .int .u8 0, .int .u8 0, .int .u8 0, .int .u8 0, .int .u8 0, .int .u8 0, .int .u8 0, .int .u8 0, .int .u8 0, .int .u8 0, .int .u8 0, .int .u8 0, .int .u8 0, .int .u8 0, .int .u8 0, .int .u8 0, .int .u8 0, .int .u8 0, .int .u8 0, .int .u8 0, .int .u8 0, .int .u8 0, .int .u8 0, .int .u8 0, .int .u8 0, .int .u8 0] := rfl
theorem run_eq_bw0 (w : World) (a : Nat) (ha : a < P256) : (Op.equalIn 10000 33 (.agg (bw a)) (.agg #[.int .u8 0, .int .u8 0, .int .u8 0, .int .u8 0, .int .u8 0, .int .u8 0, .int .u8 0, .int .u8 0, .int .u8 0, .int .u8 0, .int .u8 0, .int .u8 0, .int .u8 0, .int .u8 0, .int .u8 0, .int .u8 0, .int .u8 0, .int .u8 0, .int .u8 0, .int .u8 0, .int .u8 0, .int .u8 0, .int .u8 0, .int .u8 0, .int .u8 0, .int .u8 0, .int .u8 0, .int .u8 0, .int .u8 0, .int .u8 0, .int .u8 0, .int .u8 0])).run Hvah.prog w = .ok (decide (a = 0)) w := by
  rw [← bw0]
  exact run_eq_bw w a 0 ha (Nat.lt_of_le_of_lt (Nat.zero_le _) ha)
section
variable {ops : Array Oper} {a : Act} {w : World} {Q : Exit → Act → World → Prop} {rest : List Oper} {dst : Option Tmp} {ty : TypeId} {pos : String} {aft : Array Edge} {gd : Option (Nat × Bool)}
end
section
attribute [local go_sem] run_eq_bw0
variable {O : Nat → Prop} {w : World} {b o p : Nat} {c : Nat → Value} {x : IAcct}
set_option maxRecDepth 100000 in
set_option maxHeartbeats 6400000 in
theorem oAccountOK (hc : ∀ j, j < 55 → w.cell? ⟨b, o + j, none⟩ = some (c (p + j))) (h : IAcC O w c p x) : Calls Hvah.prog 94 #[.pointer (some ⟨b, o, none⟩)] w fun e w' => e = .returned (.bool x.ok) ∧ Ext w w' := by
  have hP0 : 0 < P256 := Nat.lt_of_le_of_lt (Nat.zero_le _) h.bLt
  have h20 := hc 20 (by decide)
  rw [h.nonce] at h20
  have h53 := hc 53 (by decide)
  have h54 := hc 54 (by decide)
  have hbR : RowIn w b (o + 21) (bw x.bal) := fun j v hv => by
    have hj := (Array.getElem?_eq_some_iff.1 hv).1
    rw [bwS h.bLt] at hj
    rw [show o + 21 + j = o + (21 + j) by omega, hc _ (by omega), ← Nat.add_assoc, h.bal j v hv]
  obtain ⟨co, cc, hcv, hc1, hc2, _⟩ := h.code
  rw [hcv] at h53
  have hsl := h.slots
  obtain ⟨so, sc, hsv, hs1, hs2⟩ := hsl.slice
  rw [hsv] at h54 hsl
  have hb := h.bLt
  unfold IAcct.ok
  have hnn : (x.nonce : Nat) < 18446744073709551616 := h.nLt
  have hfin := slotsOKI_iff x.slots
  clear hc h hcv hsv
  generalize x.nonce = n at *
  generalize x.bal = bal at *
  generalize hS : x.slots = S at *
  generalize x.code.length = cl at *
  clear hS
  obtain ⟨sl, hsle⟩ : ∃ z, Hid (S.length = z) := ⟨_, rfl⟩
  rw [hsle.out] at h54 hs1 ⊢
  have hcl : (cl : Int) ≤ 9223372036854775807 := by omega
  have hsl2 : (sl : Int) ≤ 9223372036854775807 := by omega
  by_cases hn0 : n = 0
  · have zn : (n : Int) = 0 := by omega
    by_cases hc0 : cl = 0
    · have zc : (cl : Int) = 0 := by omega
      by_cases hb0 : bal = 0
      · have hyes : Hid (n = 0 ∧ cl = 0 ∧ (bal = 0 ∨ ¬ sl = 0)) := (by omega : n = 0 ∧ cl = 0 ∧ (bal = 0 ∨ ¬ sl = 0))
        clear hn0 hc0
        subst hb0
        go_enter Hvah.func94, Hvah.ntmps94
        go_wp2_with (first | ((with_reducible (refine Veil.out ?_; apply wl_loadG rt28)); (case hw => go_simp); (case hx => rfl); (case hr => exact hbR); (case hn => exact bwS hb)))
        go_ret
        exact ⟨by have := hyes.out; simp [this], Ext.refl _⟩
      · have zb : ¬ bal = 0 := hb0
        by_cases hs0 : sl = 0
        · have zs : ¬ (0 : Int) < sl := by omega
          have hno : Hid (¬ (n = 0 ∧ cl = 0 ∧ (bal = 0 ∨ sl ≠ 0))) := (by omega : ¬ (n = 0 ∧ cl = 0 ∧ (bal = 0 ∨ sl ≠ 0)))
          clear hn0 hc0
          have hS0 : S = [] := List.length_eq_zero_iff.1 (by have := hsle.out; omega)
          subst hS0
          subst hs0
          rw [show (!decide (n = 0 ∧ cl = 0 ∧ (bal = 0 ∨ (0 : Nat) ≠ 0)) && decide (cl ≤ 256 ∧ 0 ≤ 16) && slotsOKI []) = true by have q : ¬ (n = 0 ∧ cl = 0 ∧ (bal = 0 ∨ (0 : Nat) ≠ 0)) := hno.out; rw [decide_eq_false q, decide_eq_true ⟨by omega, by omega⟩]; rfl]
          clear zs hsl2 hsle hsl hfin
          go_enter Hvah.func94, Hvah.ntmps94
          go_upto_region 6 with (first | ((with_reducible (refine Veil.out ?_; apply wl_loadG rt28)); (case hw => go_simp); (case hx => rfl); (case hr => exact hbR); (case hn => exact bwS hb)))
          try simp only [Act.put]
          go_loopw [52] (fun iv wr => iv = .int .i64 0 ∧ Ext w wr) (fun iv _ => 0)
          case atStart => exact ⟨rfl, Ext.refl _⟩
          case round =>
            obtain ⟨rfl, he⟩ := hrel
            go_wp2
            go_ret
            exact ⟨rfl, he⟩
        · have zs : (0 : Int) < sl := by omega
          have hyes : Hid (n = 0 ∧ cl = 0 ∧ (bal = 0 ∨ ¬ sl = 0)) := (by omega : n = 0 ∧ cl = 0 ∧ (bal = 0 ∨ ¬ sl = 0))
          clear hn0 hc0
          go_enter Hvah.func94, Hvah.ntmps94
          go_wp2_with (first | ((with_reducible (refine Veil.out ?_; apply wl_loadG rt28)); (case hw => go_simp); (case hx => rfl); (case hr => exact hbR); (case hn => exact bwS hb)))
          go_ret
          exact ⟨by have := hyes.out; simp [this], Ext.refl _⟩
    · have zc : ¬ (cl : Int) = 0 := by omega
      have hno : Hid (¬ (n = 0 ∧ cl = 0 ∧ (bal = 0 ∨ sl ≠ 0))) := (by omega : ¬ (n = 0 ∧ cl = 0 ∧ (bal = 0 ∨ sl ≠ 0)))
      clear hn0
      rcases Nat.lt_or_ge 256 cl with hcg | hcg
      · have z256 : (256 : Int) < cl := by omega
        go_enter Hvah.func94, Hvah.ntmps94
        go_wp2_with (first | ((with_reducible (refine Veil.out ?_; apply wl_loadG rt28)); (case hw => go_simp); (case hx => rfl); (case hr => exact hbR); (case hn => exact bwS hb)))
        go_ret
        exact ⟨by simp; omega, Ext.refl _⟩
      have z256 : ¬ (256 : Int) < cl := by omega
      rcases Nat.lt_or_ge 16 sl with hsg | hsg
      · have z16 : (16 : Int) < sl := by omega
        go_enter Hvah.func94, Hvah.ntmps94
        go_wp2_with (first | ((with_reducible (refine Veil.out ?_; apply wl_loadG rt28)); (case hw => go_simp); (case hx => rfl); (case hr => exact hbR); (case hn => exact bwS hb)))
        go_ret
        exact ⟨by simp; omega, Ext.refl _⟩
      have z16 : ¬ (16 : Int) < sl := by omega
      rw [show (!decide (n = 0 ∧ cl = 0 ∧ (bal = 0 ∨ sl ≠ 0)) && decide (cl ≤ 256 ∧ sl ≤ 16) && slotsOKI S) = slotsOKI S by have q : ¬ (n = 0 ∧ cl = 0 ∧ (bal = 0 ∨ sl ≠ 0)) := hno.out; rw [decide_eq_false q, decide_eq_true ⟨hcg, hsg⟩]; rfl]
      go_enter Hvah.func94, Hvah.ntmps94
      go_upto_region 6 with (first | ((with_reducible (refine Veil.out ?_; apply wl_loadG rt28)); (case hw => go_simp); (case hx => rfl); (case hr => exact hbR); (case hn => exact bwS hb)))
      try simp only [Act.put]
      go_loopw [52] (fun iv wr => ∃ (i : Nat), iv = .int .i64 (i : Nat) ∧ i ≤ sl ∧ Hid (∀ (k : Nat) (_ : k < i) (h : k < S.length), (S[k]).2 ≠ 0) ∧ Hid (∀ (k : Nat) (_ : k + 1 < i) (h : k + 1 < S.length), (S[k]).1 < (S[k + 1]).1) ∧ Ext w wr) (fun iv _ => sl - (intOf iv).toNat)
      case atStart => exact ⟨0, rfl, Nat.zero_le _, (fun k hk _ => absurd hk (Nat.not_lt_zero _) : ∀ (k : Nat) (_ : k < 0) (h : k < S.length), (S[k]).2 ≠ 0), (fun k hk _ => absurd hk (Nat.not_lt_zero _) : ∀ (k : Nat) (_ : k + 1 < 0) (h : k + 1 < S.length), (S[k]).1 < (S[k + 1]).1), Ext.refl _⟩
      case round =>
        obtain ⟨i, rfl, hi, hv0, hk0, he⟩ := hrel
        rcases Nat.lt_or_ge i sl with hlt | hge
        · have z1 : (i : Int) < sl := by omega
          have hil : i < S.length := by have := hsle.out; omega
          rcases hsl with ⟨rfl, _⟩ | ⟨sb, off, cap, cs, hv, hcap, hc2', hOb, hbl, hcell, hrow⟩
          · simp at hil
          injection hv with hv1 hv2 hv3
          clear hv2
          subst hv1
          subst hv3
          have hbl' : sb < wr.heap.size := Nat.lt_of_lt_of_le hbl he.size
          have hri := hrow i hil
          have hcl' : ∀ (q j : Nat) (hq : q < S.length), j < 64 → wr.cell? ⟨sb, off + (q * 64 + j), none⟩ = some (cs (q * 64 + j)) := fun q j hq hj => (he.cell (p := ⟨sb, off + (q * 64 + j), none⟩) hbl).trans (hcell _ (by omega))
          have hRv : RowIn wr sb (off + i * 64 + 32) (bw (S[i]).2) := fun j v hv => by
            have hj := (Array.getElem?_eq_some_iff.1 hv).1
            rw [bwS hri.vLt] at hj
            rw [show off + i * 64 + 32 + j = off + (i * 64 + (32 + j)) by omega, hcl' i _ hil (by omega), ← Nat.add_assoc, hri.val j v hv]
          have hK : ∀ (q : Nat) (hq : q < S.length), RowIn wr sb (off + q * 64) (bcells (beL 32 (S[q]).1)).toArray := fun q hq j v hv => by
            have hv' : (bw (S[q]).1)[j]? = some v := hv
            have hj := (Array.getElem?_eq_some_iff.1 hv').1
            have hrq := hrow q hq
            rw [bwS hrq.kLt] at hj
            rw [show off + q * 64 + j = off + (q * 64 + j) by omega, hcl' q _ hq (by omega), hrq.key j v hv']
          have h54' : wr.cell? ⟨b, o + 54, none⟩ = some (.slice (some ⟨sb, off, none⟩) sl sc) := (he.cell (p := ⟨b, o + 54, none⟩) (lt_of_cell h54)).trans h54
          have hvl := hri.vLt
          have hkl : ∀ (q : Nat) (hq : q < S.length), (S[q]).1 < P256 := fun q hq => (hrow q hq).kLt
          have hv0' := fun (hnz : (S[i]).2 ≠ 0) (k : Nat) (hk : k < i + 1) (h : k < S.length) => (show (S[k]).2 ≠ 0 by
            rcases Nat.lt_or_ge k i with q | q
            · exact hv0.out k q h
            · obtain rfl : k = i := by omega
              exact hnz)
          obtain ⟨i1, hi1⟩ : ∃ z : Nat, Hid ((i + 1 : Nat) = z) := ⟨_, rfl⟩
          have j1 : IntKind.i64.wrap ((i : Int) + 1) = (i1 : Int) := by rw [IntKind.wrap_i64, ← hi1.out]; omega
          have hz : (S[i]).2 = 0 → slotsOKI S = false := fun q => by
            cases hq : slotsOKI S
            · rfl
            · exact absurd q ((hfin.1 hq).1 i hil)
          obtain ⟨val, hvale⟩ : ∃ z, Hid ((S[i]'hil).2 = z) := ⟨(S[i]'hil).2, (rfl : (S[i]'hil).2 = _)⟩
          rw [hvale.out] at hRv hvl hz hv0'
          clear hrow hcell hri hcl'
          by_cases hval : val = 0
          · have hz' : Hid (slotsOKI S = false) := hz hval
            clear hz
            subst hval
            go_wp2_with (first | ((with_reducible (refine Veil.out ?_; apply wl_loadR rt28 sb (off + i * 64 + 32) (bw 0) (bwS hP0))); (case hx => rfl); (case hr => exact hRv)))
            go_ret
            exact ⟨by rw [hz'.out]; rfl, he⟩
          · clear hz
            have hv1' : Hid (∀ (k : Nat) (_ : k < i + 1) (h : k < S.length), (S[k]).2 ≠ 0) := hv0' hval
            clear hv0' hv0
            rcases Nat.eq_zero_or_pos i with hi0 | hi0
            · subst hi0
              rw [Nat.zero_mul, Nat.add_zero] at hRv
              have hk1' : Hid (∀ (k : Nat) (_ : k + 1 < 0 + 1) (h : k + 1 < S.length), (S[k]).1 < (S[k + 1]).1) := (fun k hk _ => absurd hk (by omega) : ∀ (k : Nat) (_ : k + 1 < 0 + 1) (h : k + 1 < S.length), (S[k]).1 < (S[k + 1]).1)
              clear hk0
              go_upto_region 10 with (first | ((with_reducible (refine Veil.out ?_; apply wl_loadR rt28 sb (off + 32) (bw val) (bwS hvl))); (case hx => rfl); (case hr => exact hRv)))
              refine w_ext ?_
              rintro W0 hW0
              refine wp_region_held_drew (S := fun w' => Ext W0 w') (by kernel_rfl) (Ext.refl _).drew (fun hHeld => ?_)
              have HH : Hid (Ext W0 _) := hHeld
              clear hHeld
              refine wpAnyH_take (i := 0) (v := ?_) rfl (by kernel_rfl) (by kernel_rfl) (by kernel_rfl) (fun _ _ _ h => h) (Or.inl ⟨by rfl, ?_⟩) HH.out ?_
              rotate_left
              · intro w hSw; go_simp; try with_reducible rfl
              change wpAnyH _ _ _ _ _ _ _ (Act.put _ (some 65) _) _
              simp only [Act.put, List.setIfInBounds_toArray, List.set_cons_zero, List.set_cons_succ]
              refine wpAnyH_take (i := 1) (v := ?_) rfl (by kernel_rfl) (by kernel_rfl) (by kernel_rfl) (fun _ _ _ h => h) (Or.inl ⟨by rfl, ?_⟩) HH.out ?_
              rotate_left
              · intro w hSw; go_simp; try with_reducible rfl
              change wpAnyH _ _ _ _ _ _ _ (Act.put _ (some 66) _) _
              simp only [Act.put, List.setIfInBounds_toArray, List.set_cons_zero, List.set_cons_succ]
              refine wpAnyH_take (i := 2) (v := ?_) rfl (by kernel_rfl) (by kernel_rfl) (by kernel_rfl) (fun _ _ _ h => h) (Or.inl ⟨by rfl, ?_⟩) HH.out ?_
              rotate_left
              · intro w hSw; go_simp; try with_reducible rfl
              change wpAnyH _ _ _ _ _ _ _ (Act.put _ (some 67) _) _
              simp only [Act.put, List.setIfInBounds_toArray, List.set_cons_zero, List.set_cons_succ]
              refine wpAnyH_take (i := 3) (v := undef) rfl (by kernel_rfl) (by kernel_rfl) (by kernel_rfl) (fun _ _ _ h => h) (Or.inr ⟨by rfl, rfl⟩) HH.out ?_
              change wpAnyH _ _ _ _ _ _ _ (Act.put _ (some 68) _) _
              simp only [Act.put, List.setIfInBounds_toArray, List.set_cons_zero, List.set_cons_succ]
              refine wpAnyH_take (i := 4) (v := undef) rfl (by kernel_rfl) (by kernel_rfl) (by kernel_rfl) (fun _ _ _ h => h) (Or.inr ⟨by rfl, rfl⟩) HH.out ?_
              change wpAnyH _ _ _ _ _ _ _ (Act.put _ (some 69) _) _
              simp only [Act.put, List.setIfInBounds_toArray, List.set_cons_zero, List.set_cons_succ]
              refine wpAnyH_take (i := 5) (v := undef) rfl (by kernel_rfl) (by kernel_rfl) (by kernel_rfl) (fun _ _ _ h => h) (Or.inr ⟨by rfl, rfl⟩) HH.out ?_
              change wpAnyH _ _ _ _ _ _ _ (Act.put _ (some 70) _) _
              simp only [Act.put, List.setIfInBounds_toArray, List.set_cons_zero, List.set_cons_succ]
              refine wpAnyH_take (i := 6) (v := undef) rfl (by kernel_rfl) (by kernel_rfl) (by kernel_rfl) (fun _ _ _ h => h) (Or.inr ⟨by rfl, rfl⟩) HH.out ?_
              change wpAnyH _ _ _ _ _ _ _ (Act.put _ (some 71) _) _
              simp only [Act.put, List.setIfInBounds_toArray, List.set_cons_zero, List.set_cons_succ]
              refine wpAnyH_take (i := 7) (v := undef) rfl (by kernel_rfl) (by kernel_rfl) (by kernel_rfl) (fun _ _ _ h => h) (Or.inr ⟨by rfl, rfl⟩) HH.out ?_
              change wpAnyH _ _ _ _ _ _ _ (Act.put _ (some 72) _) _
              simp only [Act.put, List.setIfInBounds_toArray, List.set_cons_zero, List.set_cons_succ]
              refine wpAnyH_take (i := 8) (v := undef) rfl (by kernel_rfl) (by kernel_rfl) (by kernel_rfl) (fun _ _ _ h => h) (Or.inr ⟨by rfl, rfl⟩) HH.out ?_
              change wpAnyH _ _ _ _ _ _ _ (Act.put _ (some 73) _) _
              simp only [Act.put, List.setIfInBounds_toArray, List.set_cons_zero, List.set_cons_succ]
              refine wpAnyH_take (i := 9) (v := undef) rfl (by kernel_rfl) (by kernel_rfl) (by kernel_rfl) (fun _ _ _ h => h) (Or.inr ⟨by rfl, rfl⟩) HH.out ?_
              change wpAnyH _ _ _ _ _ _ _ (Act.put _ (some 74) _) _
              simp only [Act.put, List.setIfInBounds_toArray, List.set_cons_zero, List.set_cons_succ]
              refine wpAnyH_take (i := 10) (v := undef) rfl (by kernel_rfl) (by kernel_rfl) (by kernel_rfl) (fun _ _ _ h => h) (Or.inr ⟨by rfl, rfl⟩) HH.out ?_
              change wpAnyH _ _ _ _ _ _ _ (Act.put _ (some 75) _) _
              simp only [Act.put, List.setIfInBounds_toArray, List.set_cons_zero, List.set_cons_succ]
              refine wpAnyH_take (i := 11) (v := undef) rfl (by kernel_rfl) (by kernel_rfl) (by kernel_rfl) (fun _ _ _ h => h) (Or.inr ⟨by rfl, rfl⟩) HH.out ?_
              change wpAnyH _ _ _ _ _ _ _ (Act.put _ (some 76) _) _
              simp only [Act.put, List.setIfInBounds_toArray, List.set_cons_zero, List.set_cons_succ]
              refine wpAnyH_take (i := 12) (v := undef) rfl (by kernel_rfl) (by kernel_rfl) (by kernel_rfl) (fun _ _ _ h => h) (Or.inr ⟨by rfl, rfl⟩) HH.out ?_
              change wpAnyH _ _ _ _ _ _ _ (Act.put _ (some 77) _) _
              simp only [Act.put, List.setIfInBounds_toArray, List.set_cons_zero, List.set_cons_succ]
              refine wpAnyH_take (i := 13) (v := undef) rfl (by kernel_rfl) (by kernel_rfl) (by kernel_rfl) (fun _ _ _ h => h) (Or.inr ⟨by rfl, rfl⟩) HH.out ?_
              change wpAnyH _ _ _ _ _ _ _ (Act.put _ (some 78) _) _
              simp only [Act.put, List.setIfInBounds_toArray, List.set_cons_zero, List.set_cons_succ]
              refine wpAnyH_take (i := 14) (v := undef) rfl (by kernel_rfl) (by kernel_rfl) (by kernel_rfl) (fun _ _ _ h => h) (Or.inr ⟨by rfl, rfl⟩) HH.out ?_
              change wpAnyH _ _ _ _ _ _ _ (Act.put _ (some 79) _) _
              simp only [Act.put, List.setIfInBounds_toArray, List.set_cons_zero, List.set_cons_succ]
              refine wpAnyH_take (i := 15) (v := undef) rfl (by kernel_rfl) (by kernel_rfl) (by kernel_rfl) (fun _ _ _ h => h) (Or.inr ⟨by rfl, rfl⟩) HH.out ?_
              change wpAnyH _ _ _ _ _ _ _ (Act.put _ (some 80) _) _
              simp only [Act.put, List.setIfInBounds_toArray, List.set_cons_zero, List.set_cons_succ]
              refine wpAnyH_take (i := 16) (v := undef) rfl (by kernel_rfl) (by kernel_rfl) (by kernel_rfl) (fun _ _ _ h => h) (Or.inr ⟨by rfl, rfl⟩) HH.out ?_
              change wpAnyH _ _ _ _ _ _ _ (Act.put _ (some 81) _) _
              simp only [Act.put, List.setIfInBounds_toArray, List.set_cons_zero, List.set_cons_succ]
              refine wpAnyH_take (i := 17) (v := undef) rfl (by kernel_rfl) (by kernel_rfl) (by kernel_rfl) (fun _ _ _ h => h) (Or.inr ⟨by rfl, rfl⟩) HH.out ?_
              change wpAnyH _ _ _ _ _ _ _ (Act.put _ (some 82) _) _
              simp only [Act.put, List.setIfInBounds_toArray, List.set_cons_zero, List.set_cons_succ]
              refine wpAnyH_take (i := 18) (v := undef) rfl (by kernel_rfl) (by kernel_rfl) (by kernel_rfl) (fun _ _ _ h => h) (Or.inr ⟨by rfl, rfl⟩) HH.out ?_
              change wpAnyH _ _ _ _ _ _ _ (Act.put _ (some 83) _) _
              simp only [Act.put, List.setIfInBounds_toArray, List.set_cons_zero, List.set_cons_succ]
              refine wpAnyH_take (i := 19) (v := undef) rfl (by kernel_rfl) (by kernel_rfl) (by kernel_rfl) (fun _ _ _ h => h) (Or.inr ⟨by rfl, rfl⟩) HH.out ?_
              change wpAnyH _ _ _ _ _ _ _ (Act.put _ (some 84) _) _
              simp only [Act.put, List.setIfInBounds_toArray, List.set_cons_zero, List.set_cons_succ]
              refine wpAnyH_take (i := 20) (v := undef) rfl (by kernel_rfl) (by kernel_rfl) (by kernel_rfl) (fun _ _ _ h => h) (Or.inr ⟨by rfl, rfl⟩) HH.out ?_
              change wpAnyH _ _ _ _ _ _ _ (Act.put _ (some 85) _) _
              simp only [Act.put, List.setIfInBounds_toArray, List.set_cons_zero, List.set_cons_succ]
              refine wpAnyH_take (i := 21) (v := undef) rfl (by kernel_rfl) (by kernel_rfl) (by kernel_rfl) (fun _ _ _ h => h) (Or.inr ⟨by rfl, rfl⟩) HH.out ?_
              change wpAnyH _ _ _ _ _ _ _ (Act.put _ (some 86) _) _
              simp only [Act.put, List.setIfInBounds_toArray, List.set_cons_zero, List.set_cons_succ]
              refine wpAnyH_take (i := 22) (v := undef) rfl (by kernel_rfl) (by kernel_rfl) (by kernel_rfl) (fun _ _ _ h => h) (Or.inr ⟨by rfl, rfl⟩) HH.out ?_
              change wpAnyH _ _ _ _ _ _ _ (Act.put _ (some 87) _) _
              simp only [Act.put, List.setIfInBounds_toArray, List.set_cons_zero, List.set_cons_succ]
              refine wpAnyH_take (i := 23) (v := ?_) rfl (by kernel_rfl) (by kernel_rfl) (by kernel_rfl) (fun _ _ _ h => h) (Or.inl ⟨by rfl, ?_⟩) HH.out ?_
              rotate_left
              · intro w hSw; go_simp; try with_reducible rfl
              change wpAnyH _ _ _ _ _ _ _ (Act.put _ (some 88) _) _
              simp only [Act.put, List.setIfInBounds_toArray, List.set_cons_zero, List.set_cons_succ]
              refine wpAnyH_done (by kernel_rfl) ?_ _
              go_wp2
              go_roundw
              case rel =>
                have q1 := hi1.out
                obtain rfl : i1 = 1 := q1.symm
                refine ⟨1, rfl, by omega, ?_, ?_, he.trans (hW0.trans HH.out)⟩
                · show ∀ (k : Nat) (_ : k < 1) (h : k < S.length), (S[k]).2 ≠ 0
                  exact hv1'.out
                · show ∀ (k : Nat) (_ : k + 1 < 1) (h : k + 1 < S.length), (S[k]).1 < (S[k + 1]).1
                  exact hk1'.out
              case measure => simp [intOf]; omega
            · obtain ⟨k, hk⟩ : ∃ k, Hid (i = k + 1) := ⟨i - 1, by show i = i - 1 + 1; omega⟩
              have zi : (0 : Int) < i := by omega
              have hkS : k < S.length := by have := hk.out; omega
              have jk : IntKind.i64.wrap ((i : Int) - 1) = (k : Int) := by have := hk.out; rw [IntKind.wrap_i64]; omega
              have zk : (k : Int) < sl := by have := hk.out; omega
              have zk0 : (0 : Int) ≤ k := by omega
              have hKi := hK i hil
              have hKk := hK k hkS
              have lki := hkl i hil
              have lkk := hkl k hkS
              have hle := less_sN (beL 32 (S[k]'hkS).1) (beL 32 (S[i]'hil).1) (by rw [len32 lkk, len32 lki]) (digits_beL 32 _) (digits_beL 32 _)
              rw [bev_beL, bev_beL] at hle
              have hk1 : ∀ (q : (S[k]'hkS).1 < (S[i]'hil).1) (m : Nat) (_ : m + 1 < i + 1) (h : m + 1 < S.length), (S[m]).1 < (S[m + 1]).1 := fun q m hm h => by
                rcases Nat.lt_or_ge (m + 1) i with q2 | q2
                · exact hk0.out m q2 h
                · have q3 : i = m + 1 := by omega
                  have q4 : k = m := by have := hk.out; omega
                  subst q4
                  subst q3
                  exact q
              have hkf : ¬ (S[k]'hkS).1 < (S[i]'hil).1 → slotsOKI S = false := fun q => by
                cases hq : slotsOKI S
                · rfl
                · have q3 := hk.out
                  subst q3
                  exact absurd ((hfin.1 hq).2 k hil) q
              generalize (S[k]'hkS).1 = ka at *
              generalize (S[i]'hil).1 = kb at *
              have hC1 := fun W (hW : Ext wr W) => row_str (cap := 32) (len32 lkk) (RowIn.ext hKk hbl' hW)
              have hC2 := fun W (hW : Ext wr W) => row_str (cap := 32) (len32 lki) (RowIn.ext hKi hbl' hW)
              obtain ⟨sa, hsa⟩ : ∃ z, Hid (sN (beL 32 ka) = z) := ⟨_, rfl⟩
              obtain ⟨sb2, hsb⟩ : ∃ z, Hid (sN (beL 32 kb) = z) := ⟨_, rfl⟩
              rw [hsa.out, hsb.out] at hle
              rw [hsa.out] at hC1
              rw [hsb.out] at hC2
              clear hK hkl hk0 hi0 hKi hKk
              rcases Nat.lt_or_ge ka kb with hab | hab
              · rw [decide_eq_true hab] at hle
                have hk1' : Hid (∀ (m : Nat) (_ : m + 1 < i + 1) (h : m + 1 < S.length), (S[m]).1 < (S[m + 1]).1) := hk1 hab
                clear hk1 hkf hab
                go_upto_region 10 with (first | ((with_reducible (refine Veil.out ?_; apply wl_loadR rt28 sb (off + i * 64 + 32) (bw val) (bwS hvl))); (case hx => rfl); (case hr => exact hRv)))
                refine w_ext ?_
                rintro W0 hW0
                refine wp_region_held_drew (S := fun w' => Ext W0 w') (by kernel_rfl) (Ext.refl _).drew (fun hHeld => ?_)
                have HH : Hid (Ext W0 _) := hHeld
                clear hHeld
                refine wpAnyH_take (i := 0) (v := ?_) rfl (by kernel_rfl) (by kernel_rfl) (by kernel_rfl) (fun _ _ _ h => h) (Or.inl ⟨by rfl, ?_⟩) HH.out ?_
                rotate_left
                · intro w hSw; go_simp; try with_reducible rfl
                change wpAnyH _ _ _ _ _ _ _ (Act.put _ (some 65) _) _
                simp only [Act.put, List.setIfInBounds_toArray, List.set_cons_zero, List.set_cons_succ]
                refine wpAnyH_take (i := 1) (v := .bool true) rfl (by kernel_rfl) (by kernel_rfl) (by kernel_rfl) (fun _ _ _ h => h) (Or.inl ⟨by rfl, ?_⟩) HH.out ?_
                · intro w hSw; go_simp; first | rfl | omega | done
                change wpAnyH _ _ _ _ _ _ _ (Act.put _ (some 66) _) _
                simp only [Act.put, List.setIfInBounds_toArray, List.set_cons_zero, List.set_cons_succ]
                refine wpAnyH_take (i := 2) (v := ?_) rfl (by kernel_rfl) (by kernel_rfl) (by kernel_rfl) (fun _ _ _ h => h) (Or.inl ⟨by rfl, ?_⟩) HH.out ?_
                rotate_left
                · intro w hSw; go_simp; try with_reducible rfl
                change wpAnyH _ _ _ _ _ _ _ (Act.put _ (some 67) _) _
                simp only [Act.put, List.setIfInBounds_toArray, List.set_cons_zero, List.set_cons_succ]
                refine wpAnyH_take (i := 3) (v := ?_) rfl (by kernel_rfl) (by kernel_rfl) (by kernel_rfl) (fun _ _ _ h => h) (Or.inl ⟨by rfl, ?_⟩) HH.out ?_
                rotate_left
                · intro w hSw; go_simp; try with_reducible rfl
                change wpAnyH _ _ _ _ _ _ _ (Act.put _ (some 68) _) _
                simp only [Act.put, List.setIfInBounds_toArray, List.set_cons_zero, List.set_cons_succ]
                refine wpAnyH_take (i := 4) (v := ?_) rfl (by kernel_rfl) (by kernel_rfl) (by kernel_rfl) (fun _ _ _ h => h) (Or.inl ⟨by rfl, ?_⟩) HH.out ?_
                rotate_left
                · intro w hSw; go_simp; try with_reducible rfl
                change wpAnyH _ _ _ _ _ _ _ (Act.put _ (some 69) _) _
                simp only [Act.put, List.setIfInBounds_toArray, List.set_cons_zero, List.set_cons_succ]
                refine wpAnyH_take (i := 5) (v := ?_) rfl (by kernel_rfl) (by kernel_rfl) (by kernel_rfl) (fun _ _ _ h => h) (Or.inl ⟨by rfl, ?_⟩) HH.out ?_
                rotate_left
                · intro w hSw; go_simp; try with_reducible rfl
                change wpAnyH _ _ _ _ _ _ _ (Act.put _ (some 70) _) _
                simp only [Act.put, List.setIfInBounds_toArray, List.set_cons_zero, List.set_cons_succ]
                refine wpAnyH_take (i := 6) rfl (by kernel_rfl) (by kernel_rfl) (by kernel_rfl) (fun _ _ _ h => h) (yieldsIf_load1 (by rfl) _ _ rfl _ _ rfl one112i _ (fun w hSw => ((hW0.trans hSw).cell (p := ⟨b, o + 54, none⟩) (lt_of_cell h54')).trans h54')) HH.out ?_
                change wpAnyH _ _ _ _ _ _ _ (Act.put _ (some 71) _) _
                simp only [Act.put, List.setIfInBounds_toArray, List.set_cons_zero, List.set_cons_succ]
                refine wpAnyH_take (i := 7) (v := ?_) rfl (by kernel_rfl) (by kernel_rfl) (by kernel_rfl) (fun _ _ _ h => h) (Or.inl ⟨by rfl, ?_⟩) HH.out ?_
                rotate_left
                · intro w hSw; go_simp; try with_reducible rfl
                change wpAnyH _ _ _ _ _ _ _ (Act.put _ (some 72) _) _
                simp only [Act.put, List.setIfInBounds_toArray, List.set_cons_zero, List.set_cons_succ]
                refine wpAnyH_take (i := 8) (v := ?_) rfl (by kernel_rfl) (by kernel_rfl) (by kernel_rfl) (fun _ _ _ h => h) (Or.inl ⟨by rfl, ?_⟩) HH.out ?_
                rotate_left
                · intro w hSw; go_simp; try with_reducible rfl
                change wpAnyH _ _ _ _ _ _ _ (Act.put _ (some 73) _) _
                simp only [Act.put, List.setIfInBounds_toArray, List.set_cons_zero, List.set_cons_succ]
                refine wpAnyH_take (i := 9) (v := ?_) rfl (by kernel_rfl) (by kernel_rfl) (by kernel_rfl) (fun _ _ _ h => h) (Or.inl ⟨by rfl, ?_⟩) HH.out ?_
                rotate_left
                · intro w hSw; go_simp; try with_reducible rfl
                change wpAnyH _ _ _ _ _ _ _ (Act.put _ (some 74) _) _
                simp only [Act.put, List.setIfInBounds_toArray, List.set_cons_zero, List.set_cons_succ]
                refine wpAnyH_take (i := 10) (v := ?_) rfl (by kernel_rfl) (by kernel_rfl) (by kernel_rfl) (fun _ _ _ h => h) (Or.inl ⟨by rfl, ?_⟩) HH.out ?_
                rotate_left
                · intro w hSw; go_simp; try with_reducible rfl
                change wpAnyH _ _ _ _ _ _ _ (Act.put _ (some 75) _) _
                simp only [Act.put, List.setIfInBounds_toArray, List.set_cons_zero, List.set_cons_succ]
                refine wpAnyH_take (i := 11) (v := ?_) rfl (by kernel_rfl) (by kernel_rfl) (by kernel_rfl) (fun _ _ _ h => h) (Or.inl ⟨by rfl, ?_⟩) HH.out ?_
                rotate_left
                · intro w hSw; go_simp; try with_reducible rfl
                change wpAnyH _ _ _ _ _ _ _ (Act.put _ (some 76) _) _
                simp only [Act.put, List.setIfInBounds_toArray, List.set_cons_zero, List.set_cons_succ]
                refine wpAnyH_take (i := 12) (v := .string sa) rfl (by kernel_rfl) (by kernel_rfl) (by kernel_rfl) (fun _ _ _ h => h) (Or.inl ⟨by rfl, ?_⟩) HH.out ?_
                · intro w hSw; have q1 := hC1 w (hW0.trans hSw); go_simp; first | rfl | done
                change wpAnyH _ _ _ _ _ _ _ (Act.put _ (some 77) _) _
                simp only [Act.put, List.setIfInBounds_toArray, List.set_cons_zero, List.set_cons_succ]
                refine wpAnyH_take (i := 13) (v := ?_) rfl (by kernel_rfl) (by kernel_rfl) (by kernel_rfl) (fun _ _ _ h => h) (Or.inl ⟨by rfl, ?_⟩) HH.out ?_
                rotate_left
                · intro w hSw; go_simp; try with_reducible rfl
                change wpAnyH _ _ _ _ _ _ _ (Act.put _ (some 78) _) _
                simp only [Act.put, List.setIfInBounds_toArray, List.set_cons_zero, List.set_cons_succ]
                refine wpAnyH_take (i := 14) (v := ?_) rfl (by kernel_rfl) (by kernel_rfl) (by kernel_rfl) (fun _ _ _ h => h) (Or.inl ⟨by rfl, ?_⟩) HH.out ?_
                rotate_left
                · intro w hSw; go_simp; try with_reducible rfl
                change wpAnyH _ _ _ _ _ _ _ (Act.put _ (some 79) _) _
                simp only [Act.put, List.setIfInBounds_toArray, List.set_cons_zero, List.set_cons_succ]
                refine wpAnyH_take (i := 15) (v := ?_) rfl (by kernel_rfl) (by kernel_rfl) (by kernel_rfl) (fun _ _ _ h => h) (Or.inl ⟨by rfl, ?_⟩) HH.out ?_
                rotate_left
                · intro w hSw; go_simp; try with_reducible rfl
                change wpAnyH _ _ _ _ _ _ _ (Act.put _ (some 80) _) _
                simp only [Act.put, List.setIfInBounds_toArray, List.set_cons_zero, List.set_cons_succ]
                refine wpAnyH_take (i := 16) rfl (by kernel_rfl) (by kernel_rfl) (by kernel_rfl) (fun _ _ _ h => h) (yieldsIf_load1 (by rfl) _ _ rfl _ _ rfl one112i _ (fun w hSw => ((hW0.trans hSw).cell (p := ⟨b, o + 54, none⟩) (lt_of_cell h54')).trans h54')) HH.out ?_
                change wpAnyH _ _ _ _ _ _ _ (Act.put _ (some 81) _) _
                simp only [Act.put, List.setIfInBounds_toArray, List.set_cons_zero, List.set_cons_succ]
                refine wpAnyH_take (i := 17) (v := ?_) rfl (by kernel_rfl) (by kernel_rfl) (by kernel_rfl) (fun _ _ _ h => h) (Or.inl ⟨by rfl, ?_⟩) HH.out ?_
                rotate_left
                · intro w hSw; go_simp; try with_reducible rfl
                change wpAnyH _ _ _ _ _ _ _ (Act.put _ (some 82) _) _
                simp only [Act.put, List.setIfInBounds_toArray, List.set_cons_zero, List.set_cons_succ]
                refine wpAnyH_take (i := 18) (v := ?_) rfl (by kernel_rfl) (by kernel_rfl) (by kernel_rfl) (fun _ _ _ h => h) (Or.inl ⟨by rfl, ?_⟩) HH.out ?_
                rotate_left
                · intro w hSw; go_simp; try with_reducible rfl
                change wpAnyH _ _ _ _ _ _ _ (Act.put _ (some 83) _) _
                simp only [Act.put, List.setIfInBounds_toArray, List.set_cons_zero, List.set_cons_succ]
                refine wpAnyH_take (i := 19) (v := ?_) rfl (by kernel_rfl) (by kernel_rfl) (by kernel_rfl) (fun _ _ _ h => h) (Or.inl ⟨by rfl, ?_⟩) HH.out ?_
                rotate_left
                · intro w hSw; go_simp; try with_reducible rfl
                change wpAnyH _ _ _ _ _ _ _ (Act.put _ (some 84) _) _
                simp only [Act.put, List.setIfInBounds_toArray, List.set_cons_zero, List.set_cons_succ]
                refine wpAnyH_take (i := 20) (v := ?_) rfl (by kernel_rfl) (by kernel_rfl) (by kernel_rfl) (fun _ _ _ h => h) (Or.inl ⟨by rfl, ?_⟩) HH.out ?_
                rotate_left
                · intro w hSw; go_simp; try with_reducible rfl
                change wpAnyH _ _ _ _ _ _ _ (Act.put _ (some 85) _) _
                simp only [Act.put, List.setIfInBounds_toArray, List.set_cons_zero, List.set_cons_succ]
                refine wpAnyH_take (i := 21) (v := .string sb2) rfl (by kernel_rfl) (by kernel_rfl) (by kernel_rfl) (fun _ _ _ h => h) (Or.inl ⟨by rfl, ?_⟩) HH.out ?_
                · intro w hSw; have q2 := hC2 w (hW0.trans hSw); go_simp; first | rfl | done
                change wpAnyH _ _ _ _ _ _ _ (Act.put _ (some 86) _) _
                simp only [Act.put, List.setIfInBounds_toArray, List.set_cons_zero, List.set_cons_succ]
                refine wpAnyH_take (i := 22) (v := .bool false) rfl (by kernel_rfl) (by kernel_rfl) (by kernel_rfl) (fun _ _ _ h => h) (Or.inl ⟨by rfl, ?_⟩) HH.out ?_
                · intro w hSw; go_simp; first | rfl | simp [hle] | done
                change wpAnyH _ _ _ _ _ _ _ (Act.put _ (some 87) _) _
                simp only [Act.put, List.setIfInBounds_toArray, List.set_cons_zero, List.set_cons_succ]
                refine wpAnyH_take (i := 23) (v := ?_) rfl (by kernel_rfl) (by kernel_rfl) (by kernel_rfl) (fun _ _ _ h => h) (Or.inl ⟨by rfl, ?_⟩) HH.out ?_
                rotate_left
                · intro w hSw; go_simp; try with_reducible rfl
                change wpAnyH _ _ _ _ _ _ _ (Act.put _ (some 88) _) _
                simp only [Act.put, List.setIfInBounds_toArray, List.set_cons_zero, List.set_cons_succ]
                refine wpAnyH_done (by kernel_rfl) ?_ _
                go_wp2
                go_roundw
                case rel =>
                  have q1 := hi1.out
                  refine ⟨i1, rfl, by omega, ?_, ?_, he.trans (hW0.trans HH.out)⟩
                  · show ∀ (k : Nat) (_ : k < i1) (h : k < S.length), (S[k]).2 ≠ 0
                    rw [← q1]; exact hv1'.out
                  · show ∀ (k : Nat) (_ : k + 1 < i1) (h : k + 1 < S.length), (S[k]).1 < (S[k + 1]).1
                    rw [← q1]; exact hk1'.out
                case measure => have q1 := hi1.out; simp [intOf]; omega
              · rw [decide_eq_false (by omega)] at hle
                have hz' : Hid (slotsOKI S = false) := hkf (by omega)
                clear hk1 hkf hab
                go_upto_region 10 with (first | ((with_reducible (refine Veil.out ?_; apply wl_loadR rt28 sb (off + i * 64 + 32) (bw val) (bwS hvl))); (case hx => rfl); (case hr => exact hRv)))
                refine w_ext ?_
                rintro W0 hW0
                refine wp_region_held_drew (S := fun w' => Ext W0 w') (by kernel_rfl) (Ext.refl _).drew (fun hHeld => ?_)
                have HH : Hid (Ext W0 _) := hHeld
                clear hHeld
                refine wpAnyH_take (i := 0) (v := ?_) rfl (by kernel_rfl) (by kernel_rfl) (by kernel_rfl) (fun _ _ _ h => h) (Or.inl ⟨by rfl, ?_⟩) HH.out ?_
                rotate_left
                · intro w hSw; go_simp; try with_reducible rfl
                change wpAnyH _ _ _ _ _ _ _ (Act.put _ (some 65) _) _
                simp only [Act.put, List.setIfInBounds_toArray, List.set_cons_zero, List.set_cons_succ]
                refine wpAnyH_take (i := 1) (v := .bool true) rfl (by kernel_rfl) (by kernel_rfl) (by kernel_rfl) (fun _ _ _ h => h) (Or.inl ⟨by rfl, ?_⟩) HH.out ?_
                · intro w hSw; go_simp; first | rfl | omega | done
                change wpAnyH _ _ _ _ _ _ _ (Act.put _ (some 66) _) _
                simp only [Act.put, List.setIfInBounds_toArray, List.set_cons_zero, List.set_cons_succ]
                refine wpAnyH_take (i := 2) (v := ?_) rfl (by kernel_rfl) (by kernel_rfl) (by kernel_rfl) (fun _ _ _ h => h) (Or.inl ⟨by rfl, ?_⟩) HH.out ?_
                rotate_left
                · intro w hSw; go_simp; try with_reducible rfl
                change wpAnyH _ _ _ _ _ _ _ (Act.put _ (some 67) _) _
                simp only [Act.put, List.setIfInBounds_toArray, List.set_cons_zero, List.set_cons_succ]
                refine wpAnyH_take (i := 3) (v := ?_) rfl (by kernel_rfl) (by kernel_rfl) (by kernel_rfl) (fun _ _ _ h => h) (Or.inl ⟨by rfl, ?_⟩) HH.out ?_
                rotate_left
                · intro w hSw; go_simp; try with_reducible rfl
                change wpAnyH _ _ _ _ _ _ _ (Act.put _ (some 68) _) _
                simp only [Act.put, List.setIfInBounds_toArray, List.set_cons_zero, List.set_cons_succ]
                refine wpAnyH_take (i := 4) (v := ?_) rfl (by kernel_rfl) (by kernel_rfl) (by kernel_rfl) (fun _ _ _ h => h) (Or.inl ⟨by rfl, ?_⟩) HH.out ?_
                rotate_left
                · intro w hSw; go_simp; try with_reducible rfl
                change wpAnyH _ _ _ _ _ _ _ (Act.put _ (some 69) _) _
                simp only [Act.put, List.setIfInBounds_toArray, List.set_cons_zero, List.set_cons_succ]
                refine wpAnyH_take (i := 5) (v := ?_) rfl (by kernel_rfl) (by kernel_rfl) (by kernel_rfl) (fun _ _ _ h => h) (Or.inl ⟨by rfl, ?_⟩) HH.out ?_
                rotate_left
                · intro w hSw; go_simp; try with_reducible rfl
                change wpAnyH _ _ _ _ _ _ _ (Act.put _ (some 70) _) _
                simp only [Act.put, List.setIfInBounds_toArray, List.set_cons_zero, List.set_cons_succ]
                refine wpAnyH_take (i := 6) rfl (by kernel_rfl) (by kernel_rfl) (by kernel_rfl) (fun _ _ _ h => h) (yieldsIf_load1 (by rfl) _ _ rfl _ _ rfl one112i _ (fun w hSw => ((hW0.trans hSw).cell (p := ⟨b, o + 54, none⟩) (lt_of_cell h54')).trans h54')) HH.out ?_
                change wpAnyH _ _ _ _ _ _ _ (Act.put _ (some 71) _) _
                simp only [Act.put, List.setIfInBounds_toArray, List.set_cons_zero, List.set_cons_succ]
                refine wpAnyH_take (i := 7) (v := ?_) rfl (by kernel_rfl) (by kernel_rfl) (by kernel_rfl) (fun _ _ _ h => h) (Or.inl ⟨by rfl, ?_⟩) HH.out ?_
                rotate_left
                · intro w hSw; go_simp; try with_reducible rfl
                change wpAnyH _ _ _ _ _ _ _ (Act.put _ (some 72) _) _
                simp only [Act.put, List.setIfInBounds_toArray, List.set_cons_zero, List.set_cons_succ]
                refine wpAnyH_take (i := 8) (v := ?_) rfl (by kernel_rfl) (by kernel_rfl) (by kernel_rfl) (fun _ _ _ h => h) (Or.inl ⟨by rfl, ?_⟩) HH.out ?_
                rotate_left
                · intro w hSw; go_simp; try with_reducible rfl
                change wpAnyH _ _ _ _ _ _ _ (Act.put _ (some 73) _) _
                simp only [Act.put, List.setIfInBounds_toArray, List.set_cons_zero, List.set_cons_succ]
                refine wpAnyH_take (i := 9) (v := ?_) rfl (by kernel_rfl) (by kernel_rfl) (by kernel_rfl) (fun _ _ _ h => h) (Or.inl ⟨by rfl, ?_⟩) HH.out ?_
                rotate_left
                · intro w hSw; go_simp; try with_reducible rfl
                change wpAnyH _ _ _ _ _ _ _ (Act.put _ (some 74) _) _
                simp only [Act.put, List.setIfInBounds_toArray, List.set_cons_zero, List.set_cons_succ]
                refine wpAnyH_take (i := 10) (v := ?_) rfl (by kernel_rfl) (by kernel_rfl) (by kernel_rfl) (fun _ _ _ h => h) (Or.inl ⟨by rfl, ?_⟩) HH.out ?_
                rotate_left
                · intro w hSw; go_simp; try with_reducible rfl
                change wpAnyH _ _ _ _ _ _ _ (Act.put _ (some 75) _) _
                simp only [Act.put, List.setIfInBounds_toArray, List.set_cons_zero, List.set_cons_succ]
                refine wpAnyH_take (i := 11) (v := ?_) rfl (by kernel_rfl) (by kernel_rfl) (by kernel_rfl) (fun _ _ _ h => h) (Or.inl ⟨by rfl, ?_⟩) HH.out ?_
                rotate_left
                · intro w hSw; go_simp; try with_reducible rfl
                change wpAnyH _ _ _ _ _ _ _ (Act.put _ (some 76) _) _
                simp only [Act.put, List.setIfInBounds_toArray, List.set_cons_zero, List.set_cons_succ]
                refine wpAnyH_take (i := 12) (v := .string sa) rfl (by kernel_rfl) (by kernel_rfl) (by kernel_rfl) (fun _ _ _ h => h) (Or.inl ⟨by rfl, ?_⟩) HH.out ?_
                · intro w hSw; have q1 := hC1 w (hW0.trans hSw); go_simp; first | rfl | done
                change wpAnyH _ _ _ _ _ _ _ (Act.put _ (some 77) _) _
                simp only [Act.put, List.setIfInBounds_toArray, List.set_cons_zero, List.set_cons_succ]
                refine wpAnyH_take (i := 13) (v := ?_) rfl (by kernel_rfl) (by kernel_rfl) (by kernel_rfl) (fun _ _ _ h => h) (Or.inl ⟨by rfl, ?_⟩) HH.out ?_
                rotate_left
                · intro w hSw; go_simp; try with_reducible rfl
                change wpAnyH _ _ _ _ _ _ _ (Act.put _ (some 78) _) _
                simp only [Act.put, List.setIfInBounds_toArray, List.set_cons_zero, List.set_cons_succ]
                refine wpAnyH_take (i := 14) (v := ?_) rfl (by kernel_rfl) (by kernel_rfl) (by kernel_rfl) (fun _ _ _ h => h) (Or.inl ⟨by rfl, ?_⟩) HH.out ?_
                rotate_left
                · intro w hSw; go_simp; try with_reducible rfl
                change wpAnyH _ _ _ _ _ _ _ (Act.put _ (some 79) _) _
                simp only [Act.put, List.setIfInBounds_toArray, List.set_cons_zero, List.set_cons_succ]
                refine wpAnyH_take (i := 15) (v := ?_) rfl (by kernel_rfl) (by kernel_rfl) (by kernel_rfl) (fun _ _ _ h => h) (Or.inl ⟨by rfl, ?_⟩) HH.out ?_
                rotate_left
                · intro w hSw; go_simp; try with_reducible rfl
                change wpAnyH _ _ _ _ _ _ _ (Act.put _ (some 80) _) _
                simp only [Act.put, List.setIfInBounds_toArray, List.set_cons_zero, List.set_cons_succ]
                refine wpAnyH_take (i := 16) rfl (by kernel_rfl) (by kernel_rfl) (by kernel_rfl) (fun _ _ _ h => h) (yieldsIf_load1 (by rfl) _ _ rfl _ _ rfl one112i _ (fun w hSw => ((hW0.trans hSw).cell (p := ⟨b, o + 54, none⟩) (lt_of_cell h54')).trans h54')) HH.out ?_
                change wpAnyH _ _ _ _ _ _ _ (Act.put _ (some 81) _) _
                simp only [Act.put, List.setIfInBounds_toArray, List.set_cons_zero, List.set_cons_succ]
                refine wpAnyH_take (i := 17) (v := ?_) rfl (by kernel_rfl) (by kernel_rfl) (by kernel_rfl) (fun _ _ _ h => h) (Or.inl ⟨by rfl, ?_⟩) HH.out ?_
                rotate_left
                · intro w hSw; go_simp; try with_reducible rfl
                change wpAnyH _ _ _ _ _ _ _ (Act.put _ (some 82) _) _
                simp only [Act.put, List.setIfInBounds_toArray, List.set_cons_zero, List.set_cons_succ]
                refine wpAnyH_take (i := 18) (v := ?_) rfl (by kernel_rfl) (by kernel_rfl) (by kernel_rfl) (fun _ _ _ h => h) (Or.inl ⟨by rfl, ?_⟩) HH.out ?_
                rotate_left
                · intro w hSw; go_simp; try with_reducible rfl
                change wpAnyH _ _ _ _ _ _ _ (Act.put _ (some 83) _) _
                simp only [Act.put, List.setIfInBounds_toArray, List.set_cons_zero, List.set_cons_succ]
                refine wpAnyH_take (i := 19) (v := ?_) rfl (by kernel_rfl) (by kernel_rfl) (by kernel_rfl) (fun _ _ _ h => h) (Or.inl ⟨by rfl, ?_⟩) HH.out ?_
                rotate_left
                · intro w hSw; go_simp; try with_reducible rfl
                change wpAnyH _ _ _ _ _ _ _ (Act.put _ (some 84) _) _
                simp only [Act.put, List.setIfInBounds_toArray, List.set_cons_zero, List.set_cons_succ]
                refine wpAnyH_take (i := 20) (v := ?_) rfl (by kernel_rfl) (by kernel_rfl) (by kernel_rfl) (fun _ _ _ h => h) (Or.inl ⟨by rfl, ?_⟩) HH.out ?_
                rotate_left
                · intro w hSw; go_simp; try with_reducible rfl
                change wpAnyH _ _ _ _ _ _ _ (Act.put _ (some 85) _) _
                simp only [Act.put, List.setIfInBounds_toArray, List.set_cons_zero, List.set_cons_succ]
                refine wpAnyH_take (i := 21) (v := .string sb2) rfl (by kernel_rfl) (by kernel_rfl) (by kernel_rfl) (fun _ _ _ h => h) (Or.inl ⟨by rfl, ?_⟩) HH.out ?_
                · intro w hSw; have q2 := hC2 w (hW0.trans hSw); go_simp; first | rfl | done
                change wpAnyH _ _ _ _ _ _ _ (Act.put _ (some 86) _) _
                simp only [Act.put, List.setIfInBounds_toArray, List.set_cons_zero, List.set_cons_succ]
                refine wpAnyH_take (i := 22) (v := .bool true) rfl (by kernel_rfl) (by kernel_rfl) (by kernel_rfl) (fun _ _ _ h => h) (Or.inl ⟨by rfl, ?_⟩) HH.out ?_
                · intro w hSw; go_simp; first | rfl | simp [hle] | done
                change wpAnyH _ _ _ _ _ _ _ (Act.put _ (some 87) _) _
                simp only [Act.put, List.setIfInBounds_toArray, List.set_cons_zero, List.set_cons_succ]
                refine wpAnyH_take (i := 23) (v := ?_) rfl (by kernel_rfl) (by kernel_rfl) (by kernel_rfl) (fun _ _ _ h => h) (Or.inl ⟨by rfl, ?_⟩) HH.out ?_
                rotate_left
                · intro w hSw; go_simp; try with_reducible rfl
                change wpAnyH _ _ _ _ _ _ _ (Act.put _ (some 88) _) _
                simp only [Act.put, List.setIfInBounds_toArray, List.set_cons_zero, List.set_cons_succ]
                refine wpAnyH_done (by kernel_rfl) ?_ _
                go_wp2
                go_ret
                exact ⟨by rw [hz'.out]; rfl, he.trans (hW0.trans HH.out)⟩
        · have z1 : ¬ (i : Int) < sl := by omega
          have q : Hid (slotsOKI S = true) := hfin.2 ⟨fun k h => hv0.out k (by have := hsle.out; omega) h, fun k h => hk0.out k (by have := hsle.out; omega) h⟩
          go_wp2
          go_ret
          exact ⟨by rw [q.out]; rfl, he⟩
  · have zn : ¬ (n : Int) = 0 := by omega
    have hno : Hid (¬ (n = 0 ∧ cl = 0 ∧ (bal = 0 ∨ sl ≠ 0))) := (by omega : ¬ (n = 0 ∧ cl = 0 ∧ (bal = 0 ∨ sl ≠ 0)))
    rcases Nat.lt_or_ge 256 cl with hcg | hcg
    · have z256 : (256 : Int) < cl := by omega
      go_enter Hvah.func94, Hvah.ntmps94
      go_wp2_with (first | ((with_reducible (refine Veil.out ?_; apply wl_loadG rt28)); (case hw => go_simp); (case hx => rfl); (case hr => exact hbR); (case hn => exact bwS hb)))
      go_ret
      exact ⟨by simp; omega, Ext.refl _⟩
    have z256 : ¬ (256 : Int) < cl := by omega
    rcases Nat.lt_or_ge 16 sl with hsg | hsg
    · have z16 : (16 : Int) < sl := by omega
      go_enter Hvah.func94, Hvah.ntmps94
      go_wp2_with (first | ((with_reducible (refine Veil.out ?_; apply wl_loadG rt28)); (case hw => go_simp); (case hx => rfl); (case hr => exact hbR); (case hn => exact bwS hb)))
      go_ret
      exact ⟨by simp; omega, Ext.refl _⟩
    have z16 : ¬ (16 : Int) < sl := by omega
    rw [show (!decide (n = 0 ∧ cl = 0 ∧ (bal = 0 ∨ sl ≠ 0)) && decide (cl ≤ 256 ∧ sl ≤ 16) && slotsOKI S) = slotsOKI S by have q : ¬ (n = 0 ∧ cl = 0 ∧ (bal = 0 ∨ sl ≠ 0)) := hno.out; rw [decide_eq_false q, decide_eq_true ⟨hcg, hsg⟩]; rfl]
    go_enter Hvah.func94, Hvah.ntmps94
    go_upto_region 6 with (first | ((with_reducible (refine Veil.out ?_; apply wl_loadG rt28)); (case hw => go_simp); (case hx => rfl); (case hr => exact hbR); (case hn => exact bwS hb)))
    try simp only [Act.put]
    go_loopw [52] (fun iv wr => ∃ (i : Nat), iv = .int .i64 (i : Nat) ∧ i ≤ sl ∧ Hid (∀ (k : Nat) (_ : k < i) (h : k < S.length), (S[k]).2 ≠ 0) ∧ Hid (∀ (k : Nat) (_ : k + 1 < i) (h : k + 1 < S.length), (S[k]).1 < (S[k + 1]).1) ∧ Ext w wr) (fun iv _ => sl - (intOf iv).toNat)
    case atStart => exact ⟨0, rfl, Nat.zero_le _, (fun k hk _ => absurd hk (Nat.not_lt_zero _) : ∀ (k : Nat) (_ : k < 0) (h : k < S.length), (S[k]).2 ≠ 0), (fun k hk _ => absurd hk (Nat.not_lt_zero _) : ∀ (k : Nat) (_ : k + 1 < 0) (h : k + 1 < S.length), (S[k]).1 < (S[k + 1]).1), Ext.refl _⟩
    case round =>
      obtain ⟨i, rfl, hi, hv0, hk0, he⟩ := hrel
      rcases Nat.lt_or_ge i sl with hlt | hge
      · have z1 : (i : Int) < sl := by omega
        have hil : i < S.length := by have := hsle.out; omega
        rcases hsl with ⟨rfl, _⟩ | ⟨sb, off, cap, cs, hv, hcap, hc2', hOb, hbl, hcell, hrow⟩
        · simp at hil
        injection hv with hv1 hv2 hv3
        clear hv2
        subst hv1
        subst hv3
        have hbl' : sb < wr.heap.size := Nat.lt_of_lt_of_le hbl he.size
        have hri := hrow i hil
        have hcl' : ∀ (q j : Nat) (hq : q < S.length), j < 64 → wr.cell? ⟨sb, off + (q * 64 + j), none⟩ = some (cs (q * 64 + j)) := fun q j hq hj => (he.cell (p := ⟨sb, off + (q * 64 + j), none⟩) hbl).trans (hcell _ (by omega))
        have hRv : RowIn wr sb (off + i * 64 + 32) (bw (S[i]).2) := fun j v hv => by
          have hj := (Array.getElem?_eq_some_iff.1 hv).1
          rw [bwS hri.vLt] at hj
          rw [show off + i * 64 + 32 + j = off + (i * 64 + (32 + j)) by omega, hcl' i _ hil (by omega), ← Nat.add_assoc, hri.val j v hv]
        have hK : ∀ (q : Nat) (hq : q < S.length), RowIn wr sb (off + q * 64) (bcells (beL 32 (S[q]).1)).toArray := fun q hq j v hv => by
          have hv' : (bw (S[q]).1)[j]? = some v := hv
          have hj := (Array.getElem?_eq_some_iff.1 hv').1
          have hrq := hrow q hq
          rw [bwS hrq.kLt] at hj
          rw [show off + q * 64 + j = off + (q * 64 + j) by omega, hcl' q _ hq (by omega), hrq.key j v hv']
        have h54' : wr.cell? ⟨b, o + 54, none⟩ = some (.slice (some ⟨sb, off, none⟩) sl sc) := (he.cell (p := ⟨b, o + 54, none⟩) (lt_of_cell h54)).trans h54
        have hvl := hri.vLt
        have hkl : ∀ (q : Nat) (hq : q < S.length), (S[q]).1 < P256 := fun q hq => (hrow q hq).kLt
        have hv0' := fun (hnz : (S[i]).2 ≠ 0) (k : Nat) (hk : k < i + 1) (h : k < S.length) => (show (S[k]).2 ≠ 0 by
          rcases Nat.lt_or_ge k i with q | q
          · exact hv0.out k q h
          · obtain rfl : k = i := by omega
            exact hnz)
        obtain ⟨i1, hi1⟩ : ∃ z : Nat, Hid ((i + 1 : Nat) = z) := ⟨_, rfl⟩
        have j1 : IntKind.i64.wrap ((i : Int) + 1) = (i1 : Int) := by rw [IntKind.wrap_i64, ← hi1.out]; omega
        have hz : (S[i]).2 = 0 → slotsOKI S = false := fun q => by
          cases hq : slotsOKI S
          · rfl
          · exact absurd q ((hfin.1 hq).1 i hil)
        obtain ⟨val, hvale⟩ : ∃ z, Hid ((S[i]'hil).2 = z) := ⟨(S[i]'hil).2, (rfl : (S[i]'hil).2 = _)⟩
        rw [hvale.out] at hRv hvl hz hv0'
        clear hrow hcell hri hcl'
        by_cases hval : val = 0
        · have hz' : Hid (slotsOKI S = false) := hz hval
          clear hz
          subst hval
          go_wp2_with (first | ((with_reducible (refine Veil.out ?_; apply wl_loadR rt28 sb (off + i * 64 + 32) (bw 0) (bwS hP0))); (case hx => rfl); (case hr => exact hRv)))
          go_ret
          exact ⟨by rw [hz'.out]; rfl, he⟩
        · clear hz
          have hv1' : Hid (∀ (k : Nat) (_ : k < i + 1) (h : k < S.length), (S[k]).2 ≠ 0) := hv0' hval
          clear hv0' hv0
          rcases Nat.eq_zero_or_pos i with hi0 | hi0
          · subst hi0
            rw [Nat.zero_mul, Nat.add_zero] at hRv
            have hk1' : Hid (∀ (k : Nat) (_ : k + 1 < 0 + 1) (h : k + 1 < S.length), (S[k]).1 < (S[k + 1]).1) := (fun k hk _ => absurd hk (by omega) : ∀ (k : Nat) (_ : k + 1 < 0 + 1) (h : k + 1 < S.length), (S[k]).1 < (S[k + 1]).1)
            clear hk0
            go_upto_region 10 with (first | ((with_reducible (refine Veil.out ?_; apply wl_loadR rt28 sb (off + 32) (bw val) (bwS hvl))); (case hx => rfl); (case hr => exact hRv)))
            refine w_ext ?_
            rintro W0 hW0
            refine wp_region_held_drew (S := fun w' => Ext W0 w') (by kernel_rfl) (Ext.refl _).drew (fun hHeld => ?_)
            have HH : Hid (Ext W0 _) := hHeld
            clear hHeld
            refine wpAnyH_take (i := 0) (v := ?_) rfl (by kernel_rfl) (by kernel_rfl) (by kernel_rfl) (fun _ _ _ h => h) (Or.inl ⟨by rfl, ?_⟩) HH.out ?_
            rotate_left
            · intro w hSw; go_simp; try with_reducible rfl
            change wpAnyH _ _ _ _ _ _ _ (Act.put _ (some 65) _) _
            simp only [Act.put, List.setIfInBounds_toArray, List.set_cons_zero, List.set_cons_succ]
            refine wpAnyH_take (i := 1) (v := ?_) rfl (by kernel_rfl) (by kernel_rfl) (by kernel_rfl) (fun _ _ _ h => h) (Or.inl ⟨by rfl, ?_⟩) HH.out ?_
            rotate_left
            · intro w hSw; go_simp; try with_reducible rfl
            change wpAnyH _ _ _ _ _ _ _ (Act.put _ (some 66) _) _
            simp only [Act.put, List.setIfInBounds_toArray, List.set_cons_zero, List.set_cons_succ]
            refine wpAnyH_take (i := 2) (v := ?_) rfl (by kernel_rfl) (by kernel_rfl) (by kernel_rfl) (fun _ _ _ h => h) (Or.inl ⟨by rfl, ?_⟩) HH.out ?_
            rotate_left
            · intro w hSw; go_simp; try with_reducible rfl
            change wpAnyH _ _ _ _ _ _ _ (Act.put _ (some 67) _) _
            simp only [Act.put, List.setIfInBounds_toArray, List.set_cons_zero, List.set_cons_succ]
            refine wpAnyH_take (i := 3) (v := undef) rfl (by kernel_rfl) (by kernel_rfl) (by kernel_rfl) (fun _ _ _ h => h) (Or.inr ⟨by rfl, rfl⟩) HH.out ?_
            change wpAnyH _ _ _ _ _ _ _ (Act.put _ (some 68) _) _
            simp only [Act.put, List.setIfInBounds_toArray, List.set_cons_zero, List.set_cons_succ]
            refine wpAnyH_take (i := 4) (v := undef) rfl (by kernel_rfl) (by kernel_rfl) (by kernel_rfl) (fun _ _ _ h => h) (Or.inr ⟨by rfl, rfl⟩) HH.out ?_
            change wpAnyH _ _ _ _ _ _ _ (Act.put _ (some 69) _) _
            simp only [Act.put, List.setIfInBounds_toArray, List.set_cons_zero, List.set_cons_succ]
            refine wpAnyH_take (i := 5) (v := undef) rfl (by kernel_rfl) (by kernel_rfl) (by kernel_rfl) (fun _ _ _ h => h) (Or.inr ⟨by rfl, rfl⟩) HH.out ?_
            change wpAnyH _ _ _ _ _ _ _ (Act.put _ (some 70) _) _
            simp only [Act.put, List.setIfInBounds_toArray, List.set_cons_zero, List.set_cons_succ]
            refine wpAnyH_take (i := 6) (v := undef) rfl (by kernel_rfl) (by kernel_rfl) (by kernel_rfl) (fun _ _ _ h => h) (Or.inr ⟨by rfl, rfl⟩) HH.out ?_
            change wpAnyH _ _ _ _ _ _ _ (Act.put _ (some 71) _) _
            simp only [Act.put, List.setIfInBounds_toArray, List.set_cons_zero, List.set_cons_succ]
            refine wpAnyH_take (i := 7) (v := undef) rfl (by kernel_rfl) (by kernel_rfl) (by kernel_rfl) (fun _ _ _ h => h) (Or.inr ⟨by rfl, rfl⟩) HH.out ?_
            change wpAnyH _ _ _ _ _ _ _ (Act.put _ (some 72) _) _
            simp only [Act.put, List.setIfInBounds_toArray, List.set_cons_zero, List.set_cons_succ]
            refine wpAnyH_take (i := 8) (v := undef) rfl (by kernel_rfl) (by kernel_rfl) (by kernel_rfl) (fun _ _ _ h => h) (Or.inr ⟨by rfl, rfl⟩) HH.out ?_
            change wpAnyH _ _ _ _ _ _ _ (Act.put _ (some 73) _) _
            simp only [Act.put, List.setIfInBounds_toArray, List.set_cons_zero, List.set_cons_succ]
            refine wpAnyH_take (i := 9) (v := undef) rfl (by kernel_rfl) (by kernel_rfl) (by kernel_rfl) (fun _ _ _ h => h) (Or.inr ⟨by rfl, rfl⟩) HH.out ?_
            change wpAnyH _ _ _ _ _ _ _ (Act.put _ (some 74) _) _
            simp only [Act.put, List.setIfInBounds_toArray, List.set_cons_zero, List.set_cons_succ]
            refine wpAnyH_take (i := 10) (v := undef) rfl (by kernel_rfl) (by kernel_rfl) (by kernel_rfl) (fun _ _ _ h => h) (Or.inr ⟨by rfl, rfl⟩) HH.out ?_
            change wpAnyH _ _ _ _ _ _ _ (Act.put _ (some 75) _) _
            simp only [Act.put, List.setIfInBounds_toArray, List.set_cons_zero, List.set_cons_succ]
            refine wpAnyH_take (i := 11) (v := undef) rfl (by kernel_rfl) (by kernel_rfl) (by kernel_rfl) (fun _ _ _ h => h) (Or.inr ⟨by rfl, rfl⟩) HH.out ?_
            change wpAnyH _ _ _ _ _ _ _ (Act.put _ (some 76) _) _
            simp only [Act.put, List.setIfInBounds_toArray, List.set_cons_zero, List.set_cons_succ]
            refine wpAnyH_take (i := 12) (v := undef) rfl (by kernel_rfl) (by kernel_rfl) (by kernel_rfl) (fun _ _ _ h => h) (Or.inr ⟨by rfl, rfl⟩) HH.out ?_
            change wpAnyH _ _ _ _ _ _ _ (Act.put _ (some 77) _) _
            simp only [Act.put, List.setIfInBounds_toArray, List.set_cons_zero, List.set_cons_succ]
            refine wpAnyH_take (i := 13) (v := undef) rfl (by kernel_rfl) (by kernel_rfl) (by kernel_rfl) (fun _ _ _ h => h) (Or.inr ⟨by rfl, rfl⟩) HH.out ?_
            change wpAnyH _ _ _ _ _ _ _ (Act.put _ (some 78) _) _
            simp only [Act.put, List.setIfInBounds_toArray, List.set_cons_zero, List.set_cons_succ]
            refine wpAnyH_take (i := 14) (v := undef) rfl (by kernel_rfl) (by kernel_rfl) (by kernel_rfl) (fun _ _ _ h => h) (Or.inr ⟨by rfl, rfl⟩) HH.out ?_
            change wpAnyH _ _ _ _ _ _ _ (Act.put _ (some 79) _) _
            simp only [Act.put, List.setIfInBounds_toArray, List.set_cons_zero, List.set_cons_succ]
            refine wpAnyH_take (i := 15) (v := undef) rfl (by kernel_rfl) (by kernel_rfl) (by kernel_rfl) (fun _ _ _ h => h) (Or.inr ⟨by rfl, rfl⟩) HH.out ?_
            change wpAnyH _ _ _ _ _ _ _ (Act.put _ (some 80) _) _
            simp only [Act.put, List.setIfInBounds_toArray, List.set_cons_zero, List.set_cons_succ]
            refine wpAnyH_take (i := 16) (v := undef) rfl (by kernel_rfl) (by kernel_rfl) (by kernel_rfl) (fun _ _ _ h => h) (Or.inr ⟨by rfl, rfl⟩) HH.out ?_
            change wpAnyH _ _ _ _ _ _ _ (Act.put _ (some 81) _) _
            simp only [Act.put, List.setIfInBounds_toArray, List.set_cons_zero, List.set_cons_succ]
            refine wpAnyH_take (i := 17) (v := undef) rfl (by kernel_rfl) (by kernel_rfl) (by kernel_rfl) (fun _ _ _ h => h) (Or.inr ⟨by rfl, rfl⟩) HH.out ?_
            change wpAnyH _ _ _ _ _ _ _ (Act.put _ (some 82) _) _
            simp only [Act.put, List.setIfInBounds_toArray, List.set_cons_zero, List.set_cons_succ]
            refine wpAnyH_take (i := 18) (v := undef) rfl (by kernel_rfl) (by kernel_rfl) (by kernel_rfl) (fun _ _ _ h => h) (Or.inr ⟨by rfl, rfl⟩) HH.out ?_
            change wpAnyH _ _ _ _ _ _ _ (Act.put _ (some 83) _) _
            simp only [Act.put, List.setIfInBounds_toArray, List.set_cons_zero, List.set_cons_succ]
            refine wpAnyH_take (i := 19) (v := undef) rfl (by kernel_rfl) (by kernel_rfl) (by kernel_rfl) (fun _ _ _ h => h) (Or.inr ⟨by rfl, rfl⟩) HH.out ?_
            change wpAnyH _ _ _ _ _ _ _ (Act.put _ (some 84) _) _
            simp only [Act.put, List.setIfInBounds_toArray, List.set_cons_zero, List.set_cons_succ]
            refine wpAnyH_take (i := 20) (v := undef) rfl (by kernel_rfl) (by kernel_rfl) (by kernel_rfl) (fun _ _ _ h => h) (Or.inr ⟨by rfl, rfl⟩) HH.out ?_
            change wpAnyH _ _ _ _ _ _ _ (Act.put _ (some 85) _) _
            simp only [Act.put, List.setIfInBounds_toArray, List.set_cons_zero, List.set_cons_succ]
            refine wpAnyH_take (i := 21) (v := undef) rfl (by kernel_rfl) (by kernel_rfl) (by kernel_rfl) (fun _ _ _ h => h) (Or.inr ⟨by rfl, rfl⟩) HH.out ?_
            change wpAnyH _ _ _ _ _ _ _ (Act.put _ (some 86) _) _
            simp only [Act.put, List.setIfInBounds_toArray, List.set_cons_zero, List.set_cons_succ]
            refine wpAnyH_take (i := 22) (v := undef) rfl (by kernel_rfl) (by kernel_rfl) (by kernel_rfl) (fun _ _ _ h => h) (Or.inr ⟨by rfl, rfl⟩) HH.out ?_
            change wpAnyH _ _ _ _ _ _ _ (Act.put _ (some 87) _) _
            simp only [Act.put, List.setIfInBounds_toArray, List.set_cons_zero, List.set_cons_succ]
            refine wpAnyH_take (i := 23) (v := ?_) rfl (by kernel_rfl) (by kernel_rfl) (by kernel_rfl) (fun _ _ _ h => h) (Or.inl ⟨by rfl, ?_⟩) HH.out ?_
            rotate_left
            · intro w hSw; go_simp; try with_reducible rfl
            change wpAnyH _ _ _ _ _ _ _ (Act.put _ (some 88) _) _
            simp only [Act.put, List.setIfInBounds_toArray, List.set_cons_zero, List.set_cons_succ]
            refine wpAnyH_done (by kernel_rfl) ?_ _
            go_wp2
            go_roundw
            case rel =>
              have q1 := hi1.out
              obtain rfl : i1 = 1 := q1.symm
              refine ⟨1, rfl, by omega, ?_, ?_, he.trans (hW0.trans HH.out)⟩
              · show ∀ (k : Nat) (_ : k < 1) (h : k < S.length), (S[k]).2 ≠ 0
                exact hv1'.out
              · show ∀ (k : Nat) (_ : k + 1 < 1) (h : k + 1 < S.length), (S[k]).1 < (S[k + 1]).1
                exact hk1'.out
            case measure => simp [intOf]; omega
          · obtain ⟨k, hk⟩ : ∃ k, Hid (i = k + 1) := ⟨i - 1, by show i = i - 1 + 1; omega⟩
            have zi : (0 : Int) < i := by omega
            have hkS : k < S.length := by have := hk.out; omega
            have jk : IntKind.i64.wrap ((i : Int) - 1) = (k : Int) := by have := hk.out; rw [IntKind.wrap_i64]; omega
            have zk : (k : Int) < sl := by have := hk.out; omega
            have zk0 : (0 : Int) ≤ k := by omega
            have hKi := hK i hil
            have hKk := hK k hkS
            have lki := hkl i hil
            have lkk := hkl k hkS
            have hle := less_sN (beL 32 (S[k]'hkS).1) (beL 32 (S[i]'hil).1) (by rw [len32 lkk, len32 lki]) (digits_beL 32 _) (digits_beL 32 _)
            rw [bev_beL, bev_beL] at hle
            have hk1 : ∀ (q : (S[k]'hkS).1 < (S[i]'hil).1) (m : Nat) (_ : m + 1 < i + 1) (h : m + 1 < S.length), (S[m]).1 < (S[m + 1]).1 := fun q m hm h => by
              rcases Nat.lt_or_ge (m + 1) i with q2 | q2
              · exact hk0.out m q2 h
              · have q3 : i = m + 1 := by omega
                have q4 : k = m := by have := hk.out; omega
                subst q4
                subst q3
                exact q
            have hkf : ¬ (S[k]'hkS).1 < (S[i]'hil).1 → slotsOKI S = false := fun q => by
              cases hq : slotsOKI S
              · rfl
              · have q3 := hk.out
                subst q3
                exact absurd ((hfin.1 hq).2 k hil) q
            generalize (S[k]'hkS).1 = ka at *
            generalize (S[i]'hil).1 = kb at *
            have hC1 := fun W (hW : Ext wr W) => row_str (cap := 32) (len32 lkk) (RowIn.ext hKk hbl' hW)
            have hC2 := fun W (hW : Ext wr W) => row_str (cap := 32) (len32 lki) (RowIn.ext hKi hbl' hW)
            obtain ⟨sa, hsa⟩ : ∃ z, Hid (sN (beL 32 ka) = z) := ⟨_, rfl⟩
            obtain ⟨sb2, hsb⟩ : ∃ z, Hid (sN (beL 32 kb) = z) := ⟨_, rfl⟩
            rw [hsa.out, hsb.out] at hle
            rw [hsa.out] at hC1
            rw [hsb.out] at hC2
            clear hK hkl hk0 hi0 hKi hKk
            rcases Nat.lt_or_ge ka kb with hab | hab
            · rw [decide_eq_true hab] at hle
              have hk1' : Hid (∀ (m : Nat) (_ : m + 1 < i + 1) (h : m + 1 < S.length), (S[m]).1 < (S[m + 1]).1) := hk1 hab
              clear hk1 hkf hab
              go_upto_region 10 with (first | ((with_reducible (refine Veil.out ?_; apply wl_loadR rt28 sb (off + i * 64 + 32) (bw val) (bwS hvl))); (case hx => rfl); (case hr => exact hRv)))
              refine w_ext ?_
              rintro W0 hW0
              refine wp_region_held_drew (S := fun w' => Ext W0 w') (by kernel_rfl) (Ext.refl _).drew (fun hHeld => ?_)
              have HH : Hid (Ext W0 _) := hHeld
              clear hHeld
              refine wpAnyH_take (i := 0) (v := ?_) rfl (by kernel_rfl) (by kernel_rfl) (by kernel_rfl) (fun _ _ _ h => h) (Or.inl ⟨by rfl, ?_⟩) HH.out ?_
              rotate_left
              · intro w hSw; go_simp; try with_reducible rfl
              change wpAnyH _ _ _ _ _ _ _ (Act.put _ (some 65) _) _
              simp only [Act.put, List.setIfInBounds_toArray, List.set_cons_zero, List.set_cons_succ]
              refine wpAnyH_take (i := 1) (v := .bool true) rfl (by kernel_rfl) (by kernel_rfl) (by kernel_rfl) (fun _ _ _ h => h) (Or.inl ⟨by rfl, ?_⟩) HH.out ?_
              · intro w hSw; go_simp; first | rfl | omega | done
              change wpAnyH _ _ _ _ _ _ _ (Act.put _ (some 66) _) _
              simp only [Act.put, List.setIfInBounds_toArray, List.set_cons_zero, List.set_cons_succ]
              refine wpAnyH_take (i := 2) (v := ?_) rfl (by kernel_rfl) (by kernel_rfl) (by kernel_rfl) (fun _ _ _ h => h) (Or.inl ⟨by rfl, ?_⟩) HH.out ?_
              rotate_left
              · intro w hSw; go_simp; try with_reducible rfl
              change wpAnyH _ _ _ _ _ _ _ (Act.put _ (some 67) _) _
              simp only [Act.put, List.setIfInBounds_toArray, List.set_cons_zero, List.set_cons_succ]
              refine wpAnyH_take (i := 3) (v := ?_) rfl (by kernel_rfl) (by kernel_rfl) (by kernel_rfl) (fun _ _ _ h => h) (Or.inl ⟨by rfl, ?_⟩) HH.out ?_
              rotate_left
              · intro w hSw; go_simp; try with_reducible rfl
              change wpAnyH _ _ _ _ _ _ _ (Act.put _ (some 68) _) _
              simp only [Act.put, List.setIfInBounds_toArray, List.set_cons_zero, List.set_cons_succ]
              refine wpAnyH_take (i := 4) (v := ?_) rfl (by kernel_rfl) (by kernel_rfl) (by kernel_rfl) (fun _ _ _ h => h) (Or.inl ⟨by rfl, ?_⟩) HH.out ?_
              rotate_left
              · intro w hSw; go_simp; try with_reducible rfl
              change wpAnyH _ _ _ _ _ _ _ (Act.put _ (some 69) _) _
              simp only [Act.put, List.setIfInBounds_toArray, List.set_cons_zero, List.set_cons_succ]
              refine wpAnyH_take (i := 5) (v := ?_) rfl (by kernel_rfl) (by kernel_rfl) (by kernel_rfl) (fun _ _ _ h => h) (Or.inl ⟨by rfl, ?_⟩) HH.out ?_
              rotate_left
              · intro w hSw; go_simp; try with_reducible rfl
              change wpAnyH _ _ _ _ _ _ _ (Act.put _ (some 70) _) _
              simp only [Act.put, List.setIfInBounds_toArray, List.set_cons_zero, List.set_cons_succ]
              refine wpAnyH_take (i := 6) rfl (by kernel_rfl) (by kernel_rfl) (by kernel_rfl) (fun _ _ _ h => h) (yieldsIf_load1 (by rfl) _ _ rfl _ _ rfl one112i _ (fun w hSw => ((hW0.trans hSw).cell (p := ⟨b, o + 54, none⟩) (lt_of_cell h54')).trans h54')) HH.out ?_
              change wpAnyH _ _ _ _ _ _ _ (Act.put _ (some 71) _) _
              simp only [Act.put, List.setIfInBounds_toArray, List.set_cons_zero, List.set_cons_succ]
              refine wpAnyH_take (i := 7) (v := ?_) rfl (by kernel_rfl) (by kernel_rfl) (by kernel_rfl) (fun _ _ _ h => h) (Or.inl ⟨by rfl, ?_⟩) HH.out ?_
              rotate_left
              · intro w hSw; go_simp; try with_reducible rfl
              change wpAnyH _ _ _ _ _ _ _ (Act.put _ (some 72) _) _
              simp only [Act.put, List.setIfInBounds_toArray, List.set_cons_zero, List.set_cons_succ]
              refine wpAnyH_take (i := 8) (v := ?_) rfl (by kernel_rfl) (by kernel_rfl) (by kernel_rfl) (fun _ _ _ h => h) (Or.inl ⟨by rfl, ?_⟩) HH.out ?_
              rotate_left
              · intro w hSw; go_simp; try with_reducible rfl
              change wpAnyH _ _ _ _ _ _ _ (Act.put _ (some 73) _) _
              simp only [Act.put, List.setIfInBounds_toArray, List.set_cons_zero, List.set_cons_succ]
              refine wpAnyH_take (i := 9) (v := ?_) rfl (by kernel_rfl) (by kernel_rfl) (by kernel_rfl) (fun _ _ _ h => h) (Or.inl ⟨by rfl, ?_⟩) HH.out ?_
              rotate_left
              · intro w hSw; go_simp; try with_reducible rfl
              change wpAnyH _ _ _ _ _ _ _ (Act.put _ (some 74) _) _
              simp only [Act.put, List.setIfInBounds_toArray, List.set_cons_zero, List.set_cons_succ]
              refine wpAnyH_take (i := 10) (v := ?_) rfl (by kernel_rfl) (by kernel_rfl) (by kernel_rfl) (fun _ _ _ h => h) (Or.inl ⟨by rfl, ?_⟩) HH.out ?_
              rotate_left
              · intro w hSw; go_simp; try with_reducible rfl
              change wpAnyH _ _ _ _ _ _ _ (Act.put _ (some 75) _) _
              simp only [Act.put, List.setIfInBounds_toArray, List.set_cons_zero, List.set_cons_succ]
              refine wpAnyH_take (i := 11) (v := ?_) rfl (by kernel_rfl) (by kernel_rfl) (by kernel_rfl) (fun _ _ _ h => h) (Or.inl ⟨by rfl, ?_⟩) HH.out ?_
              rotate_left
              · intro w hSw; go_simp; try with_reducible rfl
              change wpAnyH _ _ _ _ _ _ _ (Act.put _ (some 76) _) _
              simp only [Act.put, List.setIfInBounds_toArray, List.set_cons_zero, List.set_cons_succ]
              refine wpAnyH_take (i := 12) (v := .string sa) rfl (by kernel_rfl) (by kernel_rfl) (by kernel_rfl) (fun _ _ _ h => h) (Or.inl ⟨by rfl, ?_⟩) HH.out ?_
              · intro w hSw; have q1 := hC1 w (hW0.trans hSw); go_simp; first | rfl | done
              change wpAnyH _ _ _ _ _ _ _ (Act.put _ (some 77) _) _
              simp only [Act.put, List.setIfInBounds_toArray, List.set_cons_zero, List.set_cons_succ]
              refine wpAnyH_take (i := 13) (v := ?_) rfl (by kernel_rfl) (by kernel_rfl) (by kernel_rfl) (fun _ _ _ h => h) (Or.inl ⟨by rfl, ?_⟩) HH.out ?_
              rotate_left
              · intro w hSw; go_simp; try with_reducible rfl
              change wpAnyH _ _ _ _ _ _ _ (Act.put _ (some 78) _) _
              simp only [Act.put, List.setIfInBounds_toArray, List.set_cons_zero, List.set_cons_succ]
              refine wpAnyH_take (i := 14) (v := ?_) rfl (by kernel_rfl) (by kernel_rfl) (by kernel_rfl) (fun _ _ _ h => h) (Or.inl ⟨by rfl, ?_⟩) HH.out ?_
              rotate_left
              · intro w hSw; go_simp; try with_reducible rfl
              change wpAnyH _ _ _ _ _ _ _ (Act.put _ (some 79) _) _
              simp only [Act.put, List.setIfInBounds_toArray, List.set_cons_zero, List.set_cons_succ]
              refine wpAnyH_take (i := 15) (v := ?_) rfl (by kernel_rfl) (by kernel_rfl) (by kernel_rfl) (fun _ _ _ h => h) (Or.inl ⟨by rfl, ?_⟩) HH.out ?_
              rotate_left
              · intro w hSw; go_simp; try with_reducible rfl
              change wpAnyH _ _ _ _ _ _ _ (Act.put _ (some 80) _) _
              simp only [Act.put, List.setIfInBounds_toArray, List.set_cons_zero, List.set_cons_succ]
              refine wpAnyH_take (i := 16) rfl (by kernel_rfl) (by kernel_rfl) (by kernel_rfl) (fun _ _ _ h => h) (yieldsIf_load1 (by rfl) _ _ rfl _ _ rfl one112i _ (fun w hSw => ((hW0.trans hSw).cell (p := ⟨b, o + 54, none⟩) (lt_of_cell h54')).trans h54')) HH.out ?_
              change wpAnyH _ _ _ _ _ _ _ (Act.put _ (some 81) _) _
              simp only [Act.put, List.setIfInBounds_toArray, List.set_cons_zero, List.set_cons_succ]
              refine wpAnyH_take (i := 17) (v := ?_) rfl (by kernel_rfl) (by kernel_rfl) (by kernel_rfl) (fun _ _ _ h => h) (Or.inl ⟨by rfl, ?_⟩) HH.out ?_
              rotate_left
              · intro w hSw; go_simp; try with_reducible rfl
              change wpAnyH _ _ _ _ _ _ _ (Act.put _ (some 82) _) _
              simp only [Act.put, List.setIfInBounds_toArray, List.set_cons_zero, List.set_cons_succ]
              refine wpAnyH_take (i := 18) (v := ?_) rfl (by kernel_rfl) (by kernel_rfl) (by kernel_rfl) (fun _ _ _ h => h) (Or.inl ⟨by rfl, ?_⟩) HH.out ?_
              rotate_left
              · intro w hSw; go_simp; try with_reducible rfl
              change wpAnyH _ _ _ _ _ _ _ (Act.put _ (some 83) _) _
              simp only [Act.put, List.setIfInBounds_toArray, List.set_cons_zero, List.set_cons_succ]
              refine wpAnyH_take (i := 19) (v := ?_) rfl (by kernel_rfl) (by kernel_rfl) (by kernel_rfl) (fun _ _ _ h => h) (Or.inl ⟨by rfl, ?_⟩) HH.out ?_
              rotate_left
              · intro w hSw; go_simp; try with_reducible rfl
              change wpAnyH _ _ _ _ _ _ _ (Act.put _ (some 84) _) _
              simp only [Act.put, List.setIfInBounds_toArray, List.set_cons_zero, List.set_cons_succ]
              refine wpAnyH_take (i := 20) (v := ?_) rfl (by kernel_rfl) (by kernel_rfl) (by kernel_rfl) (fun _ _ _ h => h) (Or.inl ⟨by rfl, ?_⟩) HH.out ?_
              rotate_left
              · intro w hSw; go_simp; try with_reducible rfl
              change wpAnyH _ _ _ _ _ _ _ (Act.put _ (some 85) _) _
              simp only [Act.put, List.setIfInBounds_toArray, List.set_cons_zero, List.set_cons_succ]
              refine wpAnyH_take (i := 21) (v := .string sb2) rfl (by kernel_rfl) (by kernel_rfl) (by kernel_rfl) (fun _ _ _ h => h) (Or.inl ⟨by rfl, ?_⟩) HH.out ?_
              · intro w hSw; have q2 := hC2 w (hW0.trans hSw); go_simp; first | rfl | done
              change wpAnyH _ _ _ _ _ _ _ (Act.put _ (some 86) _) _
              simp only [Act.put, List.setIfInBounds_toArray, List.set_cons_zero, List.set_cons_succ]
              refine wpAnyH_take (i := 22) (v := .bool false) rfl (by kernel_rfl) (by kernel_rfl) (by kernel_rfl) (fun _ _ _ h => h) (Or.inl ⟨by rfl, ?_⟩) HH.out ?_
              · intro w hSw; go_simp; first | rfl | simp [hle] | done
              change wpAnyH _ _ _ _ _ _ _ (Act.put _ (some 87) _) _
              simp only [Act.put, List.setIfInBounds_toArray, List.set_cons_zero, List.set_cons_succ]
              refine wpAnyH_take (i := 23) (v := ?_) rfl (by kernel_rfl) (by kernel_rfl) (by kernel_rfl) (fun _ _ _ h => h) (Or.inl ⟨by rfl, ?_⟩) HH.out ?_
              rotate_left
              · intro w hSw; go_simp; try with_reducible rfl
              change wpAnyH _ _ _ _ _ _ _ (Act.put _ (some 88) _) _
              simp only [Act.put, List.setIfInBounds_toArray, List.set_cons_zero, List.set_cons_succ]
              refine wpAnyH_done (by kernel_rfl) ?_ _
              go_wp2
              go_roundw
              case rel =>
                have q1 := hi1.out
                refine ⟨i1, rfl, by omega, ?_, ?_, he.trans (hW0.trans HH.out)⟩
                · show ∀ (k : Nat) (_ : k < i1) (h : k < S.length), (S[k]).2 ≠ 0
                  rw [← q1]; exact hv1'.out
                · show ∀ (k : Nat) (_ : k + 1 < i1) (h : k + 1 < S.length), (S[k]).1 < (S[k + 1]).1
                  rw [← q1]; exact hk1'.out
              case measure => have q1 := hi1.out; simp [intOf]; omega
            · rw [decide_eq_false (by omega)] at hle
              have hz' : Hid (slotsOKI S = false) := hkf (by omega)
              clear hk1 hkf hab
              go_upto_region 10 with (first | ((with_reducible (refine Veil.out ?_; apply wl_loadR rt28 sb (off + i * 64 + 32) (bw val) (bwS hvl))); (case hx => rfl); (case hr => exact hRv)))
              refine w_ext ?_
              rintro W0 hW0
              refine wp_region_held_drew (S := fun w' => Ext W0 w') (by kernel_rfl) (Ext.refl _).drew (fun hHeld => ?_)
              have HH : Hid (Ext W0 _) := hHeld
              clear hHeld
              refine wpAnyH_take (i := 0) (v := ?_) rfl (by kernel_rfl) (by kernel_rfl) (by kernel_rfl) (fun _ _ _ h => h) (Or.inl ⟨by rfl, ?_⟩) HH.out ?_
              rotate_left
              · intro w hSw; go_simp; try with_reducible rfl
              change wpAnyH _ _ _ _ _ _ _ (Act.put _ (some 65) _) _
              simp only [Act.put, List.setIfInBounds_toArray, List.set_cons_zero, List.set_cons_succ]
              refine wpAnyH_take (i := 1) (v := .bool true) rfl (by kernel_rfl) (by kernel_rfl) (by kernel_rfl) (fun _ _ _ h => h) (Or.inl ⟨by rfl, ?_⟩) HH.out ?_
              · intro w hSw; go_simp; first | rfl | omega | done
              change wpAnyH _ _ _ _ _ _ _ (Act.put _ (some 66) _) _
              simp only [Act.put, List.setIfInBounds_toArray, List.set_cons_zero, List.set_cons_succ]
              refine wpAnyH_take (i := 2) (v := ?_) rfl (by kernel_rfl) (by kernel_rfl) (by kernel_rfl) (fun _ _ _ h => h) (Or.inl ⟨by rfl, ?_⟩) HH.out ?_
              rotate_left
              · intro w hSw; go_simp; try with_reducible rfl
              change wpAnyH _ _ _ _ _ _ _ (Act.put _ (some 67) _) _
              simp only [Act.put, List.setIfInBounds_toArray, List.set_cons_zero, List.set_cons_succ]
              refine wpAnyH_take (i := 3) (v := ?_) rfl (by kernel_rfl) (by kernel_rfl) (by kernel_rfl) (fun _ _ _ h => h) (Or.inl ⟨by rfl, ?_⟩) HH.out ?_
              rotate_left
              · intro w hSw; go_simp; try with_reducible rfl
              change wpAnyH _ _ _ _ _ _ _ (Act.put _ (some 68) _) _
              simp only [Act.put, List.setIfInBounds_toArray, List.set_cons_zero, List.set_cons_succ]
              refine wpAnyH_take (i := 4) (v := ?_) rfl (by kernel_rfl) (by kernel_rfl) (by kernel_rfl) (fun _ _ _ h => h) (Or.inl ⟨by rfl, ?_⟩) HH.out ?_
              rotate_left
              · intro w hSw; go_simp; try with_reducible rfl
              change wpAnyH _ _ _ _ _ _ _ (Act.put _ (some 69) _) _
              simp only [Act.put, List.setIfInBounds_toArray, List.set_cons_zero, List.set_cons_succ]
              refine wpAnyH_take (i := 5) (v := ?_) rfl (by kernel_rfl) (by kernel_rfl) (by kernel_rfl) (fun _ _ _ h => h) (Or.inl ⟨by rfl, ?_⟩) HH.out ?_
              rotate_left
              · intro w hSw; go_simp; try with_reducible rfl
              change wpAnyH _ _ _ _ _ _ _ (Act.put _ (some 70) _) _
              simp only [Act.put, List.setIfInBounds_toArray, List.set_cons_zero, List.set_cons_succ]
              refine wpAnyH_take (i := 6) rfl (by kernel_rfl) (by kernel_rfl) (by kernel_rfl) (fun _ _ _ h => h) (yieldsIf_load1 (by rfl) _ _ rfl _ _ rfl one112i _ (fun w hSw => ((hW0.trans hSw).cell (p := ⟨b, o + 54, none⟩) (lt_of_cell h54')).trans h54')) HH.out ?_
              change wpAnyH _ _ _ _ _ _ _ (Act.put _ (some 71) _) _
              simp only [Act.put, List.setIfInBounds_toArray, List.set_cons_zero, List.set_cons_succ]
              refine wpAnyH_take (i := 7) (v := ?_) rfl (by kernel_rfl) (by kernel_rfl) (by kernel_rfl) (fun _ _ _ h => h) (Or.inl ⟨by rfl, ?_⟩) HH.out ?_
              rotate_left
              · intro w hSw; go_simp; try with_reducible rfl
              change wpAnyH _ _ _ _ _ _ _ (Act.put _ (some 72) _) _
              simp only [Act.put, List.setIfInBounds_toArray, List.set_cons_zero, List.set_cons_succ]
              refine wpAnyH_take (i := 8) (v := ?_) rfl (by kernel_rfl) (by kernel_rfl) (by kernel_rfl) (fun _ _ _ h => h) (Or.inl ⟨by rfl, ?_⟩) HH.out ?_
              rotate_left
              · intro w hSw; go_simp; try with_reducible rfl
              change wpAnyH _ _ _ _ _ _ _ (Act.put _ (some 73) _) _
              simp only [Act.put, List.setIfInBounds_toArray, List.set_cons_zero, List.set_cons_succ]
              refine wpAnyH_take (i := 9) (v := ?_) rfl (by kernel_rfl) (by kernel_rfl) (by kernel_rfl) (fun _ _ _ h => h) (Or.inl ⟨by rfl, ?_⟩) HH.out ?_
              rotate_left
              · intro w hSw; go_simp; try with_reducible rfl
              change wpAnyH _ _ _ _ _ _ _ (Act.put _ (some 74) _) _
              simp only [Act.put, List.setIfInBounds_toArray, List.set_cons_zero, List.set_cons_succ]
              refine wpAnyH_take (i := 10) (v := ?_) rfl (by kernel_rfl) (by kernel_rfl) (by kernel_rfl) (fun _ _ _ h => h) (Or.inl ⟨by rfl, ?_⟩) HH.out ?_
              rotate_left
              · intro w hSw; go_simp; try with_reducible rfl
              change wpAnyH _ _ _ _ _ _ _ (Act.put _ (some 75) _) _
              simp only [Act.put, List.setIfInBounds_toArray, List.set_cons_zero, List.set_cons_succ]
              refine wpAnyH_take (i := 11) (v := ?_) rfl (by kernel_rfl) (by kernel_rfl) (by kernel_rfl) (fun _ _ _ h => h) (Or.inl ⟨by rfl, ?_⟩) HH.out ?_
              rotate_left
              · intro w hSw; go_simp; try with_reducible rfl
              change wpAnyH _ _ _ _ _ _ _ (Act.put _ (some 76) _) _
              simp only [Act.put, List.setIfInBounds_toArray, List.set_cons_zero, List.set_cons_succ]
              refine wpAnyH_take (i := 12) (v := .string sa) rfl (by kernel_rfl) (by kernel_rfl) (by kernel_rfl) (fun _ _ _ h => h) (Or.inl ⟨by rfl, ?_⟩) HH.out ?_
              · intro w hSw; have q1 := hC1 w (hW0.trans hSw); go_simp; first | rfl | done
              change wpAnyH _ _ _ _ _ _ _ (Act.put _ (some 77) _) _
              simp only [Act.put, List.setIfInBounds_toArray, List.set_cons_zero, List.set_cons_succ]
              refine wpAnyH_take (i := 13) (v := ?_) rfl (by kernel_rfl) (by kernel_rfl) (by kernel_rfl) (fun _ _ _ h => h) (Or.inl ⟨by rfl, ?_⟩) HH.out ?_
              rotate_left
              · intro w hSw; go_simp; try with_reducible rfl
              change wpAnyH _ _ _ _ _ _ _ (Act.put _ (some 78) _) _
              simp only [Act.put, List.setIfInBounds_toArray, List.set_cons_zero, List.set_cons_succ]
              refine wpAnyH_take (i := 14) (v := ?_) rfl (by kernel_rfl) (by kernel_rfl) (by kernel_rfl) (fun _ _ _ h => h) (Or.inl ⟨by rfl, ?_⟩) HH.out ?_
              rotate_left
              · intro w hSw; go_simp; try with_reducible rfl
              change wpAnyH _ _ _ _ _ _ _ (Act.put _ (some 79) _) _
              simp only [Act.put, List.setIfInBounds_toArray, List.set_cons_zero, List.set_cons_succ]
              refine wpAnyH_take (i := 15) (v := ?_) rfl (by kernel_rfl) (by kernel_rfl) (by kernel_rfl) (fun _ _ _ h => h) (Or.inl ⟨by rfl, ?_⟩) HH.out ?_
              rotate_left
              · intro w hSw; go_simp; try with_reducible rfl
              change wpAnyH _ _ _ _ _ _ _ (Act.put _ (some 80) _) _
              simp only [Act.put, List.setIfInBounds_toArray, List.set_cons_zero, List.set_cons_succ]
              refine wpAnyH_take (i := 16) rfl (by kernel_rfl) (by kernel_rfl) (by kernel_rfl) (fun _ _ _ h => h) (yieldsIf_load1 (by rfl) _ _ rfl _ _ rfl one112i _ (fun w hSw => ((hW0.trans hSw).cell (p := ⟨b, o + 54, none⟩) (lt_of_cell h54')).trans h54')) HH.out ?_
              change wpAnyH _ _ _ _ _ _ _ (Act.put _ (some 81) _) _
              simp only [Act.put, List.setIfInBounds_toArray, List.set_cons_zero, List.set_cons_succ]
              refine wpAnyH_take (i := 17) (v := ?_) rfl (by kernel_rfl) (by kernel_rfl) (by kernel_rfl) (fun _ _ _ h => h) (Or.inl ⟨by rfl, ?_⟩) HH.out ?_
              rotate_left
              · intro w hSw; go_simp; try with_reducible rfl
              change wpAnyH _ _ _ _ _ _ _ (Act.put _ (some 82) _) _
              simp only [Act.put, List.setIfInBounds_toArray, List.set_cons_zero, List.set_cons_succ]
              refine wpAnyH_take (i := 18) (v := ?_) rfl (by kernel_rfl) (by kernel_rfl) (by kernel_rfl) (fun _ _ _ h => h) (Or.inl ⟨by rfl, ?_⟩) HH.out ?_
              rotate_left
              · intro w hSw; go_simp; try with_reducible rfl
              change wpAnyH _ _ _ _ _ _ _ (Act.put _ (some 83) _) _
              simp only [Act.put, List.setIfInBounds_toArray, List.set_cons_zero, List.set_cons_succ]
              refine wpAnyH_take (i := 19) (v := ?_) rfl (by kernel_rfl) (by kernel_rfl) (by kernel_rfl) (fun _ _ _ h => h) (Or.inl ⟨by rfl, ?_⟩) HH.out ?_
              rotate_left
              · intro w hSw; go_simp; try with_reducible rfl
              change wpAnyH _ _ _ _ _ _ _ (Act.put _ (some 84) _) _
              simp only [Act.put, List.setIfInBounds_toArray, List.set_cons_zero, List.set_cons_succ]
              refine wpAnyH_take (i := 20) (v := ?_) rfl (by kernel_rfl) (by kernel_rfl) (by kernel_rfl) (fun _ _ _ h => h) (Or.inl ⟨by rfl, ?_⟩) HH.out ?_
              rotate_left
              · intro w hSw; go_simp; try with_reducible rfl
              change wpAnyH _ _ _ _ _ _ _ (Act.put _ (some 85) _) _
              simp only [Act.put, List.setIfInBounds_toArray, List.set_cons_zero, List.set_cons_succ]
              refine wpAnyH_take (i := 21) (v := .string sb2) rfl (by kernel_rfl) (by kernel_rfl) (by kernel_rfl) (fun _ _ _ h => h) (Or.inl ⟨by rfl, ?_⟩) HH.out ?_
              · intro w hSw; have q2 := hC2 w (hW0.trans hSw); go_simp; first | rfl | done
              change wpAnyH _ _ _ _ _ _ _ (Act.put _ (some 86) _) _
              simp only [Act.put, List.setIfInBounds_toArray, List.set_cons_zero, List.set_cons_succ]
              refine wpAnyH_take (i := 22) (v := .bool true) rfl (by kernel_rfl) (by kernel_rfl) (by kernel_rfl) (fun _ _ _ h => h) (Or.inl ⟨by rfl, ?_⟩) HH.out ?_
              · intro w hSw; go_simp; first | rfl | simp [hle] | done
              change wpAnyH _ _ _ _ _ _ _ (Act.put _ (some 87) _) _
              simp only [Act.put, List.setIfInBounds_toArray, List.set_cons_zero, List.set_cons_succ]
              refine wpAnyH_take (i := 23) (v := ?_) rfl (by kernel_rfl) (by kernel_rfl) (by kernel_rfl) (fun _ _ _ h => h) (Or.inl ⟨by rfl, ?_⟩) HH.out ?_
              rotate_left
              · intro w hSw; go_simp; try with_reducible rfl
              change wpAnyH _ _ _ _ _ _ _ (Act.put _ (some 88) _) _
              simp only [Act.put, List.setIfInBounds_toArray, List.set_cons_zero, List.set_cons_succ]
              refine wpAnyH_done (by kernel_rfl) ?_ _
              go_wp2
              go_ret
              exact ⟨by rw [hz'.out]; rfl, he.trans (hW0.trans HH.out)⟩
      · have z1 : ¬ (i : Int) < sl := by omega
        have q : Hid (slotsOKI S = true) := hfin.2 ⟨fun k h => hv0.out k (by have := hsle.out; omega) h, fun k h => hk0.out k (by have := hsle.out; omega) h⟩
        go_wp2
        go_ret
        exact ⟨by rw [q.out]; rfl, he⟩
end
end Go.Proofs.YgvahwGreat
