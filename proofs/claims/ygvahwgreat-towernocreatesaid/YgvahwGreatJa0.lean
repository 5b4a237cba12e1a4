import Derived.Test.YgvahwGreatIa
import Derived.Test.YgvahwGreatYpB
import Derived.ProofKit
import Derived.Deep.Slices
import Derived.OpenShut
namespace Go.Proofs.YgvahwGreat
open Go.RowKit
/-! What a claim hands over, as the walks want it. -/
theorem list_of {α : Type} {p : Nat → α → Prop} (n : Nat) (h : ∀ i, i < n → ∃ y, p i y) : ∃ l : List α, l.length = n ∧ ∀ (i : Nat) (hi : i < l.length), p i l[i] := by
  induction n with
  | zero => exact ⟨[], rfl, fun i hi => absurd hi (Nat.not_lt_zero _)⟩
  | succ n ih =>
    obtain ⟨l, h1, h2⟩ := ih (fun i hi => h i (Nat.lt_succ_of_lt hi))
    obtain ⟨y, hy⟩ := h n (Nat.lt_succ_self n)
    refine ⟨l ++ [y], by simp [h1], fun i hi => ?_⟩
    by_cases q : i < l.length
    · rw [List.getElem_append_left q]; exact h2 i q
    · have e : i = l.length := by rw [List.length_append, List.length_singleton] at hi; omega
      subst e
      rw [List.getElem_append_right (Nat.le_refl _)]
      simp only [Nat.sub_self, List.getElem_cons_zero]
      rw [h1]; exact hy
theorem cO5 : Hvah.prog.cellsOf 5 = 1 := by kernel_rfl
theorem cO25 : Hvah.prog.cellsOf 31 = 20 := by kernel_rfl
theorem cO28 : Hvah.prog.cellsOf 33 = 32 := by kernel_rfl
theorem cO26 : Hvah.prog.cellsOf 24 = 1 := by kernel_rfl
theorem cO4 : Hvah.prog.cellsOf 4 = 1 := by kernel_rfl
theorem cO32 : Hvah.prog.cellsOf 23 = 1 := by kernel_rfl
theorem cO29 : Hvah.prog.cellsOf 34 = 1 := by kernel_rfl
theorem cO33 : Hvah.prog.cellsOf 38 = 1 := by kernel_rfl
theorem cO112 : Hvah.prog.cellsOf 56 = 1 := by kernel_rfl
theorem cO118 : Hvah.prog.cellsOf 127 = 64 := by kernel_rfl
theorem cO114 : Hvah.prog.cellsOf 58 = 55 := by kernel_rfl
theorem cO144 : Hvah.prog.cellsOf 153 = 21 := by kernel_rfl
theorem cO31 : Hvah.prog.cellsOf 36 = 120 := by kernel_rfl
theorem cO35 : Hvah.prog.cellsOf 40 = 174 := by kernel_rfl
theorem at20 {l : List Nat} (hl : l.length = 20) (hd : Digits l) : bev l < 2 ^ 160 ∧ av (bev l) = (bcells l).toArray := by
  have h1 : bev l < 2 ^ 160 := by
    have := bev_lt l hd
    rw [hl, show (256 : Nat) ^ 20 = 2 ^ 160 from by decide +kernel] at this
    exact this
  refine ⟨h1, ?_⟩
  unfold av
  rw [bev_inj (beL 20 (bev l)) l (digits_beL 20 _) hd (by rw [len20 h1, hl]) (bev_beL 20 _)]
theorem at32 {l : List Nat} (hl : l.length = 32) (hd : Digits l) : bev l < P256 ∧ bw (bev l) = (bcells l).toArray := by
  have h1 : bev l < P256 := by
    have := bev_lt l hd
    rw [hl, show (256 : Nat) ^ 32 = 2 ^ 256 from by decide +kernel] at this
    rw [P256_eq]; exact this
  refine ⟨h1, ?_⟩
  unfold bw
  rw [bev_inj (beL 32 (bev l)) l (digits_beL 32 _) hd (by rw [len32 h1, hl]) (bev_beL 32 _)]
section
variable {H : Type} {enc : TypeId × Value → H} {w : World} {n : Nat} {t : TypeId} {cs : List Value} {c : Nat → Value} {o : Nat}
/-- Cells that can be read as a value of a type. -/
def Tr (enc : TypeId × Value → H) (w : World) (n : Nat) (t : TypeId) (cs : List Value) : Prop := ∃ x, DataW.trod enc Hvah.prog w 0 (fun _ => true) true n t cs = some x
theorem Tr.struct {fs : Array Field} (ht : Hvah.prog.underlying t = some (.struct fs)) (h : Tr enc w n t cs) : cs.length = Hvah.prog.cellsOf t ∧ ∃ m, ∀ (i : Nat) (f : Field), fs[i]? = some f → Tr enc w m f.type ((cs.drop f.offset).take (Hvah.prog.cellsOf f.type)) := by
  obtain ⟨x, hx⟩ := h
  obtain ⟨xs, m, _, _, h1, h2, h3⟩ := DataW.trod_struct ht hx
  refine ⟨h1, m, fun i f hf => ?_⟩
  have hi : i < xs.length := by rw [h2]; exact (Array.getElem?_eq_some_iff.1 hf).1
  exact ⟨xs[i], by rw [h3 i f hf, List.getElem?_eq_getElem hi]⟩
theorem Tr.bytes {k : Nat} (ht : Hvah.prog.underlying t = some (.array k 5)) (hk : Hvah.prog.cellsOf t = k) (h : Tr enc w n t cs) : ∃ l : List Nat, l.length = k ∧ Digits l ∧ cs = bcells l := by
  obtain ⟨x, hx⟩ := h
  obtain ⟨xs, m, _, _, h1, h2, h3⟩ := DataW.trod_array ht hx
  rw [hk] at h1
  obtain ⟨l, q1, q2⟩ := list_of (α := Nat) (p := fun i d => d < 256 ∧ cs[i]? = some (.int .u8 (d : Int))) k (fun i hi => by
    have h4 := h3 i hi
    rw [cO5, Nat.mul_one, List.getElem?_eq_getElem (by omega)] at h4
    obtain ⟨z, e1, _, e3⟩ := DataW.trod_int Hvah.underlying5 h4
    simp [Lit.wf, IntKind.min, IntKind.max, IntKind.signed, IntKind.bits] at e3
    refine ⟨z.toNat, by omega, ?_⟩
    have e4 : ((cs.drop i).take 1)[0]? = some (.int .u8 z) := by rw [e1]; rfl
    rw [List.getElem?_take_of_lt (by decide), List.getElem?_drop] at e4
    rw [show z = ((z.toNat : Nat) : Int) from by omega] at e4
    exact e4)
  refine ⟨l, q1, fun d hd => ?_, List.ext_getElem? (fun i => ?_)⟩
  · obtain ⟨i, hi, rfl⟩ := List.getElem_of_mem hd
    exact (q2 i hi).1
  · by_cases hi : i < l.length
    · rw [(q2 i hi).2]; simp [bcells, hi]
    · rw [List.getElem?_eq_none (by omega), List.getElem?_eq_none (by rw [bcells_length]; omega)]
theorem Tr.u64 (h : Tr enc w n 24 cs) : ∃ z : Nat, z < 18446744073709551616 ∧ cs = [.int .u64 (z : Nat)] := by
  obtain ⟨x, hx⟩ := h
  obtain ⟨z, e1, _, e3⟩ := DataW.trod_int Hvah.underlying24 hx
  simp [Lit.wf, IntKind.min, IntKind.max, IntKind.signed, IntKind.bits] at e3
  refine ⟨z.toNat, by omega, ?_⟩
  rw [e1, show ((z.toNat : Nat) : Int) = z from by omega]
theorem Tr.bool (h : Tr enc w n 4 cs) : ∃ b, cs = [.bool b] := by
  obtain ⟨x, hx⟩ := h
  obtain ⟨b, e1, _⟩ := DataW.trod_bool Hvah.underlying4 hx
  exact ⟨b, e1⟩
/-- A field's cells. -/
theorem piece {f k : Nat} {l : List Value} (hc : ∀ j v, cs[j]? = some v → c (o + j) = v) (h : (cs.drop f).take k = l) : ∀ i v, l[i]? = some v → c (o + f + i) = v := fun i v hv => by
  rw [← h] at hv
  have hi : i < k := by
    have := (List.getElem?_eq_some_iff.1 hv).1
    rw [List.length_take] at this; omega
  rw [List.getElem?_take_of_lt hi, List.getElem?_drop] at hv
  rw [Nat.add_assoc]; exact hc _ _ hv
theorem Tr.addr {f : Nat} (hc : ∀ j v, cs[j]? = some v → c (o + j) = v) (h : Tr enc w n 31 ((cs.drop f).take (Hvah.prog.cellsOf 31))) : ∃ a, AAt c (o + f) a ∧ a < 2 ^ 160 := by
  obtain ⟨l, h1, h2, h3⟩ := Tr.bytes Hvah.underlying31 cO25 h
  obtain ⟨q1, q2⟩ := at20 h1 h2
  refine ⟨bev l, fun i v hv => ?_, q1⟩
  rw [q2, List.getElem?_toArray] at hv
  exact piece hc h3 i v hv
theorem Tr.word {f : Nat} (hc : ∀ j v, cs[j]? = some v → c (o + j) = v) (h : Tr enc w n 33 ((cs.drop f).take (Hvah.prog.cellsOf 33))) : ∃ a, BAt c (o + f) a ∧ a < P256 := by
  obtain ⟨l, h1, h2, h3⟩ := Tr.bytes Hvah.underlying33 cO28 h
  obtain ⟨q1, q2⟩ := at32 h1 h2
  refine ⟨bev l, fun i v hv => ?_, q1⟩
  rw [q2, List.getElem?_toArray] at hv
  exact piece hc h3 i v hv
theorem Tr.num {f : Nat} (hc : ∀ j v, cs[j]? = some v → c (o + j) = v) (h : Tr enc w n 24 ((cs.drop f).take (Hvah.prog.cellsOf 24))) : ∃ z : Nat, c (o + f) = .int .u64 (z : Nat) ∧ z < 18446744073709551616 := by
  obtain ⟨z, h1, h2⟩ := h.u64
  exact ⟨z, piece hc h2 0 _ rfl, h1⟩
theorem Tr.flag {f : Nat} (hc : ∀ j v, cs[j]? = some v → c (o + j) = v) (h : Tr enc w n 4 ((cs.drop f).take (Hvah.prog.cellsOf 4))) : ∃ z : Bool, c (o + f) = .bool z := by
  obtain ⟨z, h2⟩ := h.bool
  exact ⟨z, piece hc h2 0 _ rfl⟩
theorem cell_live {a : Addr} {v : Value} (h : w.cell? a = some v) : a.spot = none ∧ a.block < w.heap.size := by
  unfold World.cell? at h
  split at h
  · rename_i hb
    refine ⟨?_, (Array.getElem?_eq_some_iff.1 hb).1⟩
    split at h
    · cases h
    · rename_i q
      cases hs : a.spot with
      | none => rfl
      | some k => rw [hs] at q; exact absurd rfl q
  · cases h
theorem add_live {a : Addr} (h : a.spot = none) (i : Nat) : a.add i = ⟨a.block, a.off + i, none⟩ := by
  unfold Addr.add
  split
  · rename_i q; subst q; cases a; simp only at h; subst h; rfl
  · rfl
/-- A slice of elements, opened. -/
theorem Tr.el {α : Type} {e : TypeId} {sz : Nat} {R : (Nat → Value) → Nat → α → Prop} (ht : Hvah.prog.underlying t = some (.slice e)) (hsz : Hvah.prog.cellsOf e = sz) (hs0 : 0 < sz) (hR : ∀ (m : Nat) (cs : List Value) (c : Nat → Value) (o : Nat), Tr enc w m e cs → (∀ j v, cs[j]? = some v → c (o + j) = v) → ∃ y, R c o y) (h : Tr enc w n t cs) : ∃ v l, cs = [v] ∧ EL sz R (fun _ => False) w v l := by
  obtain ⟨x, hx⟩ := h
  rcases Go.Deep.open_slice ht hx with ⟨h0, _⟩ | ⟨a, len, cap, m, k, D, Pl, rfl, hb, hl, hm, hmm, _, hel⟩
  · exact ⟨_, [], h0, Or.inl ⟨rfl, none, rfl⟩⟩
  · rw [if_pos rfl] at hmm
    subst hmm
    rw [hsz] at hel
    by_cases h0 : m = 0
    · subst h0
      have : len = 0 := by omega
      subst this
      exact ⟨_, [], rfl, Or.inl ⟨rfl, some a, rfl⟩⟩
    · obtain ⟨cs0, g1, g2⟩ := hel 0 (by omega)
      obtain ⟨_, g3, g4⟩ := World.cells?_some g1
      have g5 := g4 0 hs0
      rw [Nat.zero_mul, show (a.add 0).add 0 = a from rfl, List.getElem?_eq_getElem (by omega)] at g5
      obtain ⟨hsp, hlt⟩ := cell_live g5
      have key : ∀ i j, i < m → j < sz → ∀ cs', w.cells? 0 (a.add (i * sz)) sz = some cs' → w.cell? ⟨a.block, a.off + (i * sz + j), none⟩ = cs'[j]? := fun i j hi hj cs' q => by
        obtain ⟨_, q1, q2⟩ := World.cells?_some q
        have := q2 j hj
        rw [add_live hsp, add_live rfl, Nat.add_assoc] at this
        exact this
      obtain ⟨l, q1, q2⟩ := list_of (α := α) (p := fun i y => R (fun j => (w.cell? ⟨a.block, a.off + j, none⟩).getD undef) (i * sz) y) len (fun i hi => by
        obtain ⟨cs', r1, r2⟩ := hel i (by omega)
        refine hR k cs' _ _ ⟨_, r2⟩ (fun j v hv => ?_)
        obtain ⟨_, r3, _⟩ := World.cells?_some r1
        have hj := (List.getElem?_eq_some_iff.1 hv).1
        have := key i j (by omega) (by omega) cs' r1
        rw [this, hv]; rfl)
      refine ⟨_, l, rfl, Or.inr ⟨a.block, a.off, m, _, ?_, by omega, by have := hm; simp only [maxLen] at this; omega, fun q => q, hlt, fun i hi => ?_, q2⟩⟩
      · rw [q1]; cases a; simp only at hsp; subst hsp; rfl
      · rw [q1] at hi
        have hd : i / sz < len := Nat.div_lt_of_lt_mul (by rw [Nat.mul_comm]; exact hi)
        obtain ⟨cs', r1, r2⟩ := hel (i / sz) (by omega)
        obtain ⟨_, r3, _⟩ := World.cells?_some r1
        have hmod := Nat.mod_lt i hs0
        have := key (i / sz) (i % sz) (by omega) hmod cs' r1
        rw [show i / sz * sz + i % sz = i from by rw [Nat.mul_comm]; exact Nat.div_add_mod i sz, List.getElem?_eq_getElem (by omega)] at this
        rw [this]; rfl
/-- Bytes, opened. -/
theorem Tr.nlx (h : Tr enc w n 23 cs) : ∃ v l, cs = [v] ∧ NLx (fun _ => False) w v l := by
  obtain ⟨v, l, e, hE⟩ := Tr.el (R := fun c o (d : Nat) => d < 256 ∧ c o = .int .u8 (d : Int)) Hvah.underlying23 cO5 (by decide) (fun m cs c o h1 hc => by
    obtain ⟨x, hx⟩ := h1
    obtain ⟨z, e1, _, e3⟩ := DataW.trod_int Hvah.underlying5 hx
    simp [Lit.wf, IntKind.min, IntKind.max, IntKind.signed, IntKind.bits] at e3
    refine ⟨z.toNat, by omega, ?_⟩
    rw [show ((z.toNat : Nat) : Int) = z from by omega]
    exact hc 0 _ (by rw [e1]; rfl)) h
  refine ⟨v, l, e, ?_⟩
  rcases hE with ⟨rfl, p, rfl⟩ | ⟨b, off, cap, c, h1, h2, h3, h4, h5, h6, h7⟩
  · exact ⟨p, 0, rfl, Nat.le_refl _, by decide, ⟨fun d hd => absurd hd (List.not_mem_nil), fun q => absurd rfl q⟩⟩
  · refine ⟨_, cap, h1, h2, h3, ⟨fun d hd => ?_, fun _ => ⟨b, off, rfl, h4, h5, fun i hi => ?_⟩⟩⟩
    · obtain ⟨i, hi, rfl⟩ := List.getElem_of_mem hd
      exact (h7 i hi).1
    · rw [h6 i (by omega), ← (h7 i hi).2, Nat.mul_one]
/-- Words, opened. -/
theorem Tr.kl (h : Tr enc w n 34 cs) : ∃ v l, cs = [v] ∧ KL (fun _ => False) w v l := by
  obtain ⟨v, l, e, hE⟩ := Tr.el (R := fun c o d => BAt c o d ∧ d < P256) Hvah.underlying34 cO28 (by decide) (fun m cs c o h1 hc => by
    refine Tr.word (f := 0) (enc := enc) (w := w) (n := m) hc ?_
    obtain ⟨l, q1, _, q3⟩ := Tr.bytes Hvah.underlying33 cO28 h1
    rw [List.drop_zero, cO28, List.take_of_length_le (by rw [q3, bcells_length]; omega)]
    exact h1) h
  refine ⟨v, l, e, ?_⟩
  rcases hE with h | ⟨b, off, cap, c, h1, h2, h3, h4, h5, h6, h7⟩
  · exact Or.inl h
  · refine Or.inr ⟨b, off, cap, h1, h2, h3, h4, h5, fun i hi => ⟨(h7 i hi).2, fun j x hx => ?_⟩⟩
    have hj := (Array.getElem?_eq_some_iff.1 hx).1
    rw [show (bw l[i]).size = 32 from by unfold bw; simp [bcells_length, len32 (h7 i hi).2]] at hj
    rw [Nat.add_assoc, h6 (i * 32 + j) (by omega), (h7 i hi).1 j x hx]
/-- A slot, opened. -/
theorem Tr.slot (h : Tr enc w n 127 cs) (hc : ∀ j v, cs[j]? = some v → c (o + j) = v) : ∃ y, ISlC c o y := by
  obtain ⟨_, m, hf⟩ := Tr.struct Hvah.underlying127 h
  obtain ⟨k, k1, k2⟩ := Tr.word hc (hf 0 _ rfl)
  obtain ⟨v, v1, v2⟩ := Tr.word hc (hf 1 _ rfl)
  exact ⟨(k, v), ⟨k1, k2, v1, v2⟩⟩
/-- An account, opened. -/
theorem Tr.acct (h : Tr enc w n 58 cs) (hc : ∀ j v, cs[j]? = some v → c (o + j) = v) : ∃ y, IAcC (fun _ => False) w c o y := by
  obtain ⟨_, m, hf⟩ := Tr.struct Hvah.underlying58 h
  obtain ⟨a, a1, a2⟩ := Tr.addr hc (hf 0 _ rfl)
  obtain ⟨k, k1, k2⟩ := Tr.num hc (hf 1 _ rfl)
  obtain ⟨b, b1, b2⟩ := Tr.word hc (hf 2 _ rfl)
  obtain ⟨v, d, d1, d2⟩ := Tr.nlx (hf 3 _ rfl)
  obtain ⟨u, s, s1, s2⟩ := Tr.el (R := ISlC) Hvah.underlying56 cO118 (by decide) (fun m cs c o h1 hc => Tr.slot h1 hc) (hf 4 _ rfl)
  have d3 := piece hc d1 0 _ rfl
  have s3 := piece hc s1 0 _ rfl
  exact ⟨⟨a, k, b, d, s⟩, ⟨a1, a2, k1, k2, b1, b2, by rw [← d3] at d2; exact d2, by rw [← s3] at s2; exact s2⟩⟩
/-- An address with its keys, opened. -/
theorem Tr.accs (h : Tr enc w n 153 cs) (hc : ∀ j v, cs[j]? = some v → c (o + j) = v) : ∃ y, AcC (fun _ => False) w c o y := by
  obtain ⟨_, m, hf⟩ := Tr.struct Hvah.underlying153 h
  obtain ⟨a, a1, a2⟩ := Tr.addr hc (hf 0 _ rfl)
  obtain ⟨v, d, d1, d2⟩ := Tr.kl (hf 1 _ rfl)
  have d3 := piece hc d1 0 _ rfl
  exact ⟨(a, d), ⟨a1, a2, by rw [← d3] at d2; exact d2⟩⟩
/-- The world, opened. -/
theorem Tr.world (h : Tr enc w n 27 cs) : ∃ v l, cs = [v] ∧ EL 55 (IAcC (fun _ => False) w) (fun _ => False) w v l :=
  Tr.el Hvah.underlying27 cO114 (by decide) (fun _ _ _ _ h1 hc => Tr.acct h1 hc) h
/-- The surroundings, opened; their hashes' slice leads to a block that is there. -/
theorem Tr.env {r : Array Value} (h : Tr enc w n 36 r.toList) (hl : ∀ a n k, r[119]? = some (.slice (some a) n k) → a.spot = none ∧ a.block < w.heap.size) : r.size = 120 ∧ ∃ e, EnvI (fun _ => False) w (cf r) e := by
  have hc : ∀ j v, r.toList[j]? = some v → cf r (0 + j) = v := fun j v hv => by
    rw [Array.getElem?_toList] at hv
    rw [Nat.zero_add]; unfold cf; rw [Array.getD_eq_getD_getElem?, hv]; rfl
  obtain ⟨hs, m, hf⟩ := Tr.struct Hvah.underlying36 h
  rw [cO31, Array.length_toList] at hs
  obtain ⟨a, a1, a2⟩ := Tr.addr hc (hf 0 _ rfl)
  obtain ⟨k, k1, k2⟩ := Tr.num hc (hf 1 _ rfl)
  obtain ⟨t, t1, t2⟩ := Tr.num hc (hf 2 _ rfl)
  obtain ⟨g, g1, g2⟩ := Tr.num hc (hf 3 _ rfl)
  obtain ⟨x, x1, x2⟩ := Tr.word hc (hf 4 _ rfl)
  obtain ⟨y, y1, y2⟩ := Tr.word hc (hf 5 _ rfl)
  obtain ⟨z, z1, z2⟩ := Tr.word hc (hf 6 _ rfl)
  obtain ⟨v, d, d1, d2⟩ := Tr.kl (hf 7 _ rfl)
  have d3 : cf r 119 = v := piece hc d1 0 _ rfl
  have d4 : WL (fun _ => False) w v d := by
    rcases d2 with ⟨rfl, p, rfl⟩ | q
    · cases p with
      | none => exact Or.inl ⟨rfl, rfl⟩
      | some p =>
        have e : r[119]? = some (.slice (some p) 0 0) := by
          unfold cf at d3
          rw [Array.getD_eq_getD_getElem?, Array.getElem?_eq_getElem (by omega)] at d3
          rw [Array.getElem?_eq_getElem (by omega), ← d3]; rfl
        obtain ⟨e1, e2⟩ := hl _ _ _ e
        refine Or.inr ⟨p.block, p.off, 0, ?_, Nat.le_refl _, by decide, fun q => q, e2, fun i hi => absurd hi (Nat.not_lt_zero _)⟩
        cases p; simp only at e1; subst e1; rfl
    · exact Or.inr q
  exact ⟨hs, ⟨a, k, t, g, x, y, z, d⟩, ⟨a1, a2, k1, k2, t1, t2, g1, g2, x1, x2, y1, y2, z1, z2, by rw [d3]; exact d4⟩⟩
/-- A transaction, opened. -/
theorem Tr.tx {r : Array Value} (h : Tr enc w n 40 r.toList) : r.size = 174 ∧ ∃ t, TxC (fun _ => False) w (cf r) t := by
  have hc : ∀ j v, r.toList[j]? = some v → cf r (0 + j) = v := fun j v hv => by
    rw [Array.getElem?_toList] at hv
    rw [Nat.zero_add]; unfold cf; rw [Array.getD_eq_getD_getElem?, hv]; rfl
  obtain ⟨hs, m, hf⟩ := Tr.struct Hvah.underlying40 h
  rw [cO35, Array.length_toList] at hs
  obtain ⟨a, a1, a2⟩ := Tr.addr hc (hf 0 _ rfl)
  obtain ⟨b, b1, b2⟩ := Tr.addr hc (hf 1 _ rfl)
  obtain ⟨cr, cr1⟩ := Tr.flag hc (hf 2 _ rfl)
  obtain ⟨k, k1, k2⟩ := Tr.num hc (hf 3 _ rfl)
  obtain ⟨g, g1, g2⟩ := Tr.num hc (hf 4 _ rfl)
  obtain ⟨x, x1, x2⟩ := Tr.word hc (hf 5 _ rfl)
  obtain ⟨y, y1, y2⟩ := Tr.word hc (hf 6 _ rfl)
  obtain ⟨v, d, d1, d2⟩ := Tr.nlx (hf 7 _ rfl)
  obtain ⟨dy, dy1⟩ := Tr.flag hc (hf 8 _ rfl)
  obtain ⟨z, z1, z2⟩ := Tr.word hc (hf 9 _ rfl)
  obtain ⟨u, u1, u2⟩ := Tr.word hc (hf 10 _ rfl)
  obtain ⟨s, l, l1, l2⟩ := Tr.el (R := AcC (fun _ => False) w) Hvah.underlying38 cO144 (by decide) (fun _ _ _ _ h1 hc => Tr.accs h1 hc) (hf 11 _ rfl)
  have d3 : cf r 107 = v := piece hc d1 0 _ rfl
  have l3 : cf r 173 = s := piece hc l1 0 _ rfl
  exact ⟨hs, ⟨a, b, cr, k, g, x, y, d, dy, z, u, l⟩, ⟨a1, a2, b1, b2, cr1, k1, k2, g1, g2, x1, x2, y1, y2, by rw [d3]; exact d2, dy1, z1, z2, u1, u2, by rw [l3]; exact l2⟩⟩
end
end Go.Proofs.YgvahwGreat
