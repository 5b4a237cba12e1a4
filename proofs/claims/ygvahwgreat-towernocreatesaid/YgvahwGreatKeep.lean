import Derived.Test.YgvahwGreatVaultF
namespace Go.Proofs.YgvahwGreat
open Go.RowKit
/-- Only the chain's block and the blocks of tag k have changed. -/
structure Keep (own own' : Nat → Nat) (g k : Nat) (w w' : World) : Prop where
  tags : ∀ b, b < w.heap.size → own' b = own b
  mod : Mod (fun b => b = g ∨ own b = k) w w'
  gk : own g = 8
  k0 : k ≠ 0
section
variable {own own' : Nat → Nat} {g k : Nat} {w w' : World}
theorem Keep.mu (h : Keep own own' g k w w') {b : Nat} (hb : b < w.heap.size) (hn : ¬ Mu own b) : ¬ Mu own' b := by
  unfold Mu at *; rw [h.tags b hb]; exact hn
theorem Keep.still (h : Keep own own' g k w w') {b : Nat} (hn : ¬ Mu own b) : ¬ (b = g ∨ own b = k) := by
  unfold Mu at hn
  have := h.gk
  have := h.k0
  rintro (e | e)
  · subst e; omega
  · omega
theorem Keep.bs (h : Keep own own' g k w w') {o : Option Addr} {l : List Nat} (hb : BS (Mu own) w o l) : BS (Mu own') w' o l :=
  ⟨hb.lt, fun hl => by
    obtain ⟨b, off, h1, h2, h3, h4⟩ := hb.spot hl
    exact ⟨b, off, h1, h.mu h3 h2, Nat.lt_of_lt_of_le h3 h.mod.size, fun i hi => (h.mod.cell (p := ⟨b, off + i, none⟩) h3 (h.still h2)).trans (h4 i hi)⟩⟩
theorem Keep.nl (h : Keep own own' g k w w') {v : Value} {l : List Nat} (hv : NL (Mu own) w v l) : NL (Mu own') w' v l := by
  obtain ⟨o, c, h1, h2, h3, h4⟩ := hv
  exact ⟨o, c, h1, h2, h3, h.bs h4⟩
theorem Keep.wl (h : Keep own own' g k w w') {v : Value} {l : List Nat} (hv : WL (Mu own) w v l) : WL (Mu own') w' v l := by
  rcases hv with hv | ⟨b, off, cap, h1, h2, h3, h4, h5, h6⟩
  · exact Or.inl hv
  · refine Or.inr ⟨b, off, cap, h1, h2, h3, h.mu h5 h4, Nat.lt_of_lt_of_le h5 h.mod.size, fun i hi => ⟨(h6 i hi).1, fun j u hu => ?_⟩⟩
    rw [h.mod.cell (p := ⟨b, _, none⟩) h5 (h.still h4)]
    exact (h6 i hi).2 j u hu
/-- .. with the cells that may have moved. -/
theorem Keep.acct (h : Keep own own' g k w w') {c c' : Nat → Value} {o : Nat} {x : EAcct} (hc : ∀ j, j < 29 → c' (o + j) = c (o + j)) (hx : AcctC (Mu own) w c o x) : AcctC (Mu own') w' c' o x where
  addr := fun i v hv => by
    have hi := (Array.getElem?_eq_some_iff.1 hv).1
    rw [av_size hx.aLt] at hi
    rw [hc i (by omega)]; exact hx.addr i v hv
  aLt := hx.aLt
  nonce := by rw [hc 20 (by omega)]; exact hx.nonce
  nLt := hx.nLt
  bal := ⟨by rw [hc 21 (by omega)]; exact hx.bal.c0, by rw [Nat.add_assoc, hc 22 (by omega)]; exact hx.bal.c1, by rw [Nat.add_assoc, hc 23 (by omega)]; exact hx.bal.c2, by rw [Nat.add_assoc, hc 24 (by omega)]; exact hx.bal.c3⟩
  bLt := hx.bLt
  code := by rw [hc 25 (by omega)]; exact h.nl hx.code
  warm := by rw [hc 26 (by omega)]; exact hx.warm
  made := by rw [hc 27 (by omega)]; exact hx.made
  gone := by rw [hc 28 (by omega)]; exact hx.gone
theorem Keep.je (h : Keep own own' g k w w') {c c' : Nat → Value} {o : Nat} {x : JE} (hc : ∀ j, j < 9 → c' (o + j) = c (o + j)) (hx : JEC (Mu own) w c o x) : JEC (Mu own') w' c' o x where
  kind := by have := hc 0 (by omega); rw [Nat.add_zero] at this; rw [this]; exact hx.kind
  at_ := by rw [hc 1 (by omega)]; exact hx.at_
  n := by rw [hc 2 (by omega)]; exact hx.n
  wd := ⟨by rw [hc 3 (by omega)]; exact hx.wd.c0, by rw [Nat.add_assoc, hc 4 (by omega)]; exact hx.wd.c1, by rw [Nat.add_assoc, hc 5 (by omega)]; exact hx.wd.c2, by rw [Nat.add_assoc, hc 6 (by omega)]; exact hx.wd.c3⟩
  bs := by rw [hc 7 (by omega)]; exact h.nl hx.bs
  flag := by rw [hc 8 (by omega)]; exact hx.flag
  kLt := hx.kLt
  aLt := hx.aLt
  nLt := hx.nLt
  wLt := hx.wLt
theorem Keep.log (h : Keep own own' g k w w') {c c' : Nat → Value} {o : Nat} {x : ALog} (hc : ∀ j, j < 22 → c' (o + j) = c (o + j)) (hx : LogC (Mu own) w c o x) : LogC (Mu own') w' c' o x where
  addr := fun i v hv => by
    have hi := (Array.getElem?_eq_some_iff.1 hv).1
    rw [av_size hx.aLt] at hi
    rw [hc i (by omega)]; exact hx.addr i v hv
  aLt := hx.aLt
  topics := by rw [hc 20 (by omega)]; exact h.wl hx.topics
  data := by rw [hc 21 (by omega)]; exact h.nl hx.data
theorem slot_move {c c' : Nat → Value} {o : Nat} {x : ESlot} (hc : ∀ j, j < 14 → c' (o + j) = c (o + j)) (hx : SlotC c o x) : SlotC c' o x where
  acct := by have := hc 0 (by omega); rw [Nat.add_zero] at this; rw [this]; exact hx.acct
  aLt := hx.aLt
  key := ⟨by rw [hc 1 (by omega)]; exact hx.key.c0, by rw [Nat.add_assoc, hc 2 (by omega)]; exact hx.key.c1, by rw [Nat.add_assoc, hc 3 (by omega)]; exact hx.key.c2, by rw [Nat.add_assoc, hc 4 (by omega)]; exact hx.key.c3⟩
  kLt := hx.kLt
  val := ⟨by rw [hc 5 (by omega)]; exact hx.val.c0, by rw [Nat.add_assoc, hc 6 (by omega)]; exact hx.val.c1, by rw [Nat.add_assoc, hc 7 (by omega)]; exact hx.val.c2, by rw [Nat.add_assoc, hc 8 (by omega)]; exact hx.val.c3⟩
  vLt := hx.vLt
  orig := ⟨by rw [hc 9 (by omega)]; exact hx.orig.c0, by rw [Nat.add_assoc, hc 10 (by omega)]; exact hx.orig.c1, by rw [Nat.add_assoc, hc 11 (by omega)]; exact hx.orig.c2, by rw [Nat.add_assoc, hc 12 (by omega)]; exact hx.orig.c3⟩
  oLt := hx.oLt
  warm := by rw [hc 13 (by omega)]; exact hx.warm
theorem temp_move {c c' : Nat → Value} {o : Nat} {x : ETemp} (hc : ∀ j, j < 9 → c' (o + j) = c (o + j)) (hx : TempC c o x) : TempC c' o x where
  acct := by have := hc 0 (by omega); rw [Nat.add_zero] at this; rw [this]; exact hx.acct
  aLt := hx.aLt
  key := ⟨by rw [hc 1 (by omega)]; exact hx.key.c0, by rw [Nat.add_assoc, hc 2 (by omega)]; exact hx.key.c1, by rw [Nat.add_assoc, hc 3 (by omega)]; exact hx.key.c2, by rw [Nat.add_assoc, hc 4 (by omega)]; exact hx.key.c3⟩
  kLt := hx.kLt
  val := ⟨by rw [hc 5 (by omega)]; exact hx.val.c0, by rw [Nat.add_assoc, hc 6 (by omega)]; exact hx.val.c1, by rw [Nat.add_assoc, hc 7 (by omega)]; exact hx.val.c2, by rw [Nat.add_assoc, hc 8 (by omega)]; exact hx.val.c3⟩
  vLt := hx.vLt
theorem Keep.blk (h : Keep own own' g k w w') {b n : Nat} {t : TypeId} {c : Nat → Value} (hb : Blk w b n t c) {j : Nat} (hj : own b = j) (h1 : j ≠ k) (h2 : j ≠ 8) : Blk w' b n t c :=
  hb.mod h.mod (by
    have := h.gk
    rintro (e | e)
    · subst e; omega
    · omega)
/-- A row of another tag stands. -/
theorem Keep.row {α : Type} {ty : TypeId} {sz j : Nat} {R R' : (Nat → Value) → Nat → α → Prop} {v : Value} {l : List α} (h : Keep own own' g k w w') (hr : GRow ty sz R (Ow own j) w v l) (hR : ∀ c o x, R c o x → R' c o x) (h1 : j ≠ k) (h2 : j ≠ 8) : GRow ty sz R' (Ow own' j) w' v l :=
  hr.mono hR (fun b hb ht => by unfold Ow at *; rw [h.tags b hb]; exact ht) (fun b n t c hb ht => h.blk hb ht h1 h2)
theorem Keep.tab (h : Keep own own' g k w w') {v : Value} {t : Nat → Int} (ht : TTab (Ow own 6) w v t) (h1 : 6 ≠ k) : TTab (Ow own' 6) w' v t := by
  obtain ⟨b, cap, c, q1, q2, q3, q4, q5⟩ := ht
  exact ⟨b, cap, c, q1, q2, h.blk q3 q4 h1 (by decide), by unfold Ow at *; rw [h.tags b q3.lt]; exact q4, q5⟩
end
end Go.Proofs.YgvahwGreat
