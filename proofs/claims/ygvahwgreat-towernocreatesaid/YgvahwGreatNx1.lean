import Derived.Test.YgvahwGreatNx0
import Derived.Test.YgvahwGreatIa
import Derived.Test.YgvahwGreatRx
import Derived.Test.YgvahwGreatYS
import Derived.Test.YgvahwGreatRowsL
import Derived.Test.YgvahwGreatIb
namespace Go.Proofs.YgvahwGreat
open Go.RowKit
set_option linter.unusedVariables false
set_option linter.unusedSimpArgs false
theorem NLx.keepS {O : Nat → Prop} {w w' : World} {v : Value} {l : List Nat} {S : Nat → Prop} (h : NLx O w v l) (m : Mod S w w') (hs : ∀ b, ¬ O b → ¬ S b) : NLx O w' v l := by
  obtain ⟨o, c, h1, h2, h3, h4, h5⟩ := h
  refine ⟨o, c, h1, h2, h3, h4, fun hl => ?_⟩
  obtain ⟨b, off, q1, q2, q3, q4⟩ := h5 hl
  exact ⟨b, off, q1, q2, Nat.lt_of_lt_of_le q3 m.size, fun i hi => (m.cell (p := ⟨b, off + i, none⟩) q3 (hs b q2)).trans (q4 i hi)⟩
theorem NLx.reoS {O O' : Nat → Prop} {w : World} {v : Value} {l : List Nat} (h : NLx O w v l) (hr : ∀ b, b < w.heap.size → O' b → O b) : NLx O' w v l := by
  obtain ⟨o, c, h1, h2, h3, h4, h5⟩ := h
  refine ⟨o, c, h1, h2, h3, h4, fun hl => ?_⟩
  obtain ⟨b, off, q1, q2, q3, q4⟩ := h5 hl
  exact ⟨b, off, q1, fun q => q2 (hr b q3 q), q3, q4⟩
theorem EL.keepS {α : Type} {sz : Nat} {R R' : (Nat → Value) → Nat → α → Prop} {O : Nat → Prop} {w w' : World} {v : Value} {l : List α} {S : Nat → Prop} (h : EL sz R O w v l) (m : Mod S w w') (hs : ∀ b, ¬ O b → ¬ S b) (hR : ∀ c o x, R c o x → R' c o x) : EL sz R' O w' v l := by
  rcases h with h | ⟨b, off, cap, c, h1, h2, h3, h4, h5, h6, h7⟩
  · exact Or.inl h
  · exact Or.inr ⟨b, off, cap, c, h1, h2, h3, h4, Nat.lt_of_lt_of_le h5 m.size, fun i hi => (m.cell (p := ⟨b, off + i, none⟩) h5 (hs b h4)).trans (h6 i hi), fun i hi => hR _ _ _ (h7 i hi)⟩
theorem EL.reoS {α : Type} {sz : Nat} {R R' : (Nat → Value) → Nat → α → Prop} {O O' : Nat → Prop} {w : World} {v : Value} {l : List α} (h : EL sz R O w v l) (hr : ∀ b, b < w.heap.size → O' b → O b) (hR : ∀ c o x, R c o x → R' c o x) : EL sz R' O' w v l := by
  rcases h with h | ⟨b, off, cap, c, h1, h2, h3, h4, h5, h6, h7⟩
  · exact Or.inl h
  · exact Or.inr ⟨b, off, cap, c, h1, h2, h3, fun q => h4 (hr b h5 q), h5, h6, fun i hi => hR _ _ _ (h7 i hi)⟩
theorem BAt.sameS {c c' : Nat → Value} {o x : Nat} (h : BAt c o x) (hx : x < P256) (hc : ∀ j, j < 32 → c' (o + j) = c (o + j)) : BAt c' o x := fun i v hv => by
  have hi := (Array.getElem?_eq_some_iff.1 hv).1
  rw [bwS hx] at hi
  rw [hc i hi]; exact h i v hv
theorem IAcC.cellsS {O : Nat → Prop} {w : World} {c c' : Nat → Value} {o : Nat} {x : IAcct} (hc : ∀ j, j < 55 → c' (o + j) = c (o + j)) (h : IAcC O w c o x) : IAcC O w c' o x :=
  ⟨h.addr.same h.aLt (fun j hj => hc j (by omega)), h.aLt, by rw [hc 20 (by decide)]; exact h.nonce, h.nLt, h.bal.sameS h.bLt (fun j hj => by have := hc (21 + j) (by omega); rw [← Nat.add_assoc] at this; exact this), h.bLt, by rw [hc 53 (by decide)]; exact h.code, by rw [hc 54 (by decide)]; exact h.slots⟩
theorem IAcC.keepS {O : Nat → Prop} {w w' : World} {c : Nat → Value} {o : Nat} {x : IAcct} {S : Nat → Prop} (h : IAcC O w c o x) (m : Mod S w w') (hs : ∀ b, ¬ O b → ¬ S b) : IAcC O w' c o x :=
  ⟨h.addr, h.aLt, h.nonce, h.nLt, h.bal, h.bLt, h.code.keepS m hs, h.slots.keepS m hs (fun _ _ _ k => k)⟩
theorem IAcC.reoS {O O' : Nat → Prop} {w : World} {c : Nat → Value} {o : Nat} {x : IAcct} (h : IAcC O w c o x) (hr : ∀ b, b < w.heap.size → O' b → O b) : IAcC O' w c o x :=
  ⟨h.addr, h.aLt, h.nonce, h.nLt, h.bal, h.bLt, h.code.reoS hr, h.slots.reoS hr (fun _ _ _ k => k)⟩
theorem GRow.elS {α : Type} {ty : TypeId} {sz : Nat} {R : (Nat → Value) → Nat → α → Prop} {O T : Nat → Prop} {w : World} {v : Value} {l : List α} (h : GRow ty sz R T w v l) (hT : ∀ b, T b → ¬ O b) : EL sz R O w v l := by
  rcases h with h | ⟨b, cap, c, h1, h2, h3, h4, h5, h6⟩
  · exact Or.inl ⟨h.1, none, h.2⟩
  · exact Or.inr ⟨b, 0, cap, c, h1, h2, h3, hT b h5, h4.lt, fun i hi => by rw [Nat.zero_add]; exact h4.cell (Nat.lt_of_lt_of_le hi (Nat.mul_le_mul_right sz h2)), h6⟩
theorem bytes114 : Hvah.t58.bytes ≤ 4096 := by decide +kernel
theorem bytes118 : Hvah.t127.bytes ≤ 4096 := by decide +kernel
def z114x : Array Value := #[.int .u8 0, .int .u8 0, .int .u8 0, .int .u8 0, .int .u8 0, .int .u8 0, .int .u8 0, .int .u8 0, .int .u8 0, .int .u8 0, .int .u8 0, .int .u8 0, .int .u8 0, .int .u8 0, .int .u8 0, .int .u8 0, .int .u8 0, .int .u8 0, .int .u8 0, .int .u8 0, .int .u64 0, .int .u8 0, .int .u8 0, .int .u8 0, .int .u8 0, .int .u8 0, .int .u8 0, .int .u8 0, .int .u8 0, .int .u8 0, .int .u8 0, .int .u8 0, .int .u8 0, .int .u8 0, .int .u8 0, .int .u8 0, .int .u8 0, .int .u8 0, .int .u8 0, .int .u8 0, .int .u8 0, .int .u8 0, .int .u8 0, .int .u8 0, .int .u8 0, .int .u8 0, .int .u8 0, .int .u8 0, .int .u8 0, .int .u8 0, .int .u8 0, .int .u8 0, .int .u8 0, .slice none 0 0, .slice none 0 0]
def z118x : Array Value := #[.int .u8 0, .int .u8 0, .int .u8 0, .int .u8 0, .int .u8 0, .int .u8 0, .int .u8 0, .int .u8 0, .int .u8 0, .int .u8 0, .int .u8 0, .int .u8 0, .int .u8 0, .int .u8 0, .int .u8 0, .int .u8 0, .int .u8 0, .int .u8 0, .int .u8 0, .int .u8 0, .int .u8 0, .int .u8 0, .int .u8 0, .int .u8 0, .int .u8 0, .int .u8 0, .int .u8 0, .int .u8 0, .int .u8 0, .int .u8 0, .int .u8 0, .int .u8 0, .int .u8 0, .int .u8 0, .int .u8 0, .int .u8 0, .int .u8 0, .int .u8 0, .int .u8 0, .int .u8 0, .int .u8 0, .int .u8 0, .int .u8 0, .int .u8 0, .int .u8 0, .int .u8 0, .int .u8 0, .int .u8 0, .int .u8 0, .int .u8 0, .int .u8 0, .int .u8 0, .int .u8 0, .int .u8 0, .int .u8 0, .int .u8 0, .int .u8 0, .int .u8 0, .int .u8 0, .int .u8 0, .int .u8 0, .int .u8 0, .int .u8 0, .int .u8 0]
theorem z114xq : zeroOf Hvah.prog 58 = some z114x := by kernel_rfl
theorem z118xq : zeroOf Hvah.prog 127 = some z118x := by kernel_rfl
theorem z114xp : placesOf Hvah.prog 58 = some [(0, 20), (20, 1), (21, 32), (53, 1), (54, 1)] := by kernel_rfl
theorem z118xp : placesOf Hvah.prog 127 = some [(0, 32), (32, 32)] := by kernel_rfl
theorem under23x : Hvah.prog.underlying 27 = some (.slice 58) := by kernel_rfl
theorem info114x : Hvah.prog.info? 58 = some Hvah.t58 := by kernel_rfl
theorem zero114x : Hvah.t58.zero = some (.agg #[.int .u8 0, .int .u8 0, .int .u8 0, .int .u8 0, .int .u8 0, .int .u8 0, .int .u8 0, .int .u8 0, .int .u8 0, .int .u8 0, .int .u8 0, .int .u8 0, .int .u8 0, .int .u8 0, .int .u8 0, .int .u8 0, .int .u8 0, .int .u8 0, .int .u8 0, .int .u8 0, .int .u64 0, .int .u8 0, .int .u8 0, .int .u8 0, .int .u8 0, .int .u8 0, .int .u8 0, .int .u8 0, .int .u8 0, .int .u8 0, .int .u8 0, .int .u8 0, .int .u8 0, .int .u8 0, .int .u8 0, .int .u8 0, .int .u8 0, .int .u8 0, .int .u8 0, .int .u8 0, .int .u8 0, .int .u8 0, .int .u8 0, .int .u8 0, .int .u8 0, .int .u8 0, .int .u8 0, .int .u8 0, .int .u8 0, .int .u8 0, .int .u8 0, .int .u8 0, .int .u8 0, .slice none 0 0, .slice none 0 0]) := by kernel_rfl
theorem size114x : Hvah.t58.size = 55 := by kernel_rfl
theorem zs114x : (Value.agg #[.int .u8 0, .int .u8 0, .int .u8 0, .int .u8 0, .int .u8 0, .int .u8 0, .int .u8 0, .int .u8 0, .int .u8 0, .int .u8 0, .int .u8 0, .int .u8 0, .int .u8 0, .int .u8 0, .int .u8 0, .int .u8 0, .int .u8 0, .int .u8 0, .int .u8 0, .int .u8 0, .int .u64 0, .int .u8 0, .int .u8 0, .int .u8 0, .int .u8 0, .int .u8 0, .int .u8 0, .int .u8 0, .int .u8 0, .int .u8 0, .int .u8 0, .int .u8 0, .int .u8 0, .int .u8 0, .int .u8 0, .int .u8 0, .int .u8 0, .int .u8 0, .int .u8 0, .int .u8 0, .int .u8 0, .int .u8 0, .int .u8 0, .int .u8 0, .int .u8 0, .int .u8 0, .int .u8 0, .int .u8 0, .int .u8 0, .int .u8 0, .int .u8 0, .int .u8 0, .int .u8 0, .slice none 0 0, .slice none 0 0]).cells.size = 55 := rfl
theorem under112x : Hvah.prog.underlying 56 = some (.slice 127) := by kernel_rfl
theorem info118x : Hvah.prog.info? 127 = some Hvah.t127 := by kernel_rfl
theorem zero118x : Hvah.t127.zero = some (.agg #[.int .u8 0, .int .u8 0, .int .u8 0, .int .u8 0, .int .u8 0, .int .u8 0, .int .u8 0, .int .u8 0, .int .u8 0, .int .u8 0, .int .u8 0, .int .u8 0, .int .u8 0, .int .u8 0, .int .u8 0, .int .u8 0, .int .u8 0, .int .u8 0, .int .u8 0, .int .u8 0, .int .u8 0, .int .u8 0, .int .u8 0, .int .u8 0, .int .u8 0, .int .u8 0, .int .u8 0, .int .u8 0, .int .u8 0, .int .u8 0, .int .u8 0, .int .u8 0, .int .u8 0, .int .u8 0, .int .u8 0, .int .u8 0, .int .u8 0, .int .u8 0, .int .u8 0, .int .u8 0, .int .u8 0, .int .u8 0, .int .u8 0, .int .u8 0, .int .u8 0, .int .u8 0, .int .u8 0, .int .u8 0, .int .u8 0, .int .u8 0, .int .u8 0, .int .u8 0, .int .u8 0, .int .u8 0, .int .u8 0, .int .u8 0, .int .u8 0, .int .u8 0, .int .u8 0, .int .u8 0, .int .u8 0, .int .u8 0, .int .u8 0, .int .u8 0]) := by kernel_rfl
theorem size118x : Hvah.t127.size = 64 := by kernel_rfl
theorem zs118x : (Value.agg #[.int .u8 0, .int .u8 0, .int .u8 0, .int .u8 0, .int .u8 0, .int .u8 0, .int .u8 0, .int .u8 0, .int .u8 0, .int .u8 0, .int .u8 0, .int .u8 0, .int .u8 0, .int .u8 0, .int .u8 0, .int .u8 0, .int .u8 0, .int .u8 0, .int .u8 0, .int .u8 0, .int .u8 0, .int .u8 0, .int .u8 0, .int .u8 0, .int .u8 0, .int .u8 0, .int .u8 0, .int .u8 0, .int .u8 0, .int .u8 0, .int .u8 0, .int .u8 0, .int .u8 0, .int .u8 0, .int .u8 0, .int .u8 0, .int .u8 0, .int .u8 0, .int .u8 0, .int .u8 0, .int .u8 0, .int .u8 0, .int .u8 0, .int .u8 0, .int .u8 0, .int .u8 0, .int .u8 0, .int .u8 0, .int .u8 0, .int .u8 0, .int .u8 0, .int .u8 0, .int .u8 0, .int .u8 0, .int .u8 0, .int .u8 0, .int .u8 0, .int .u8 0, .int .u8 0, .int .u8 0, .int .u8 0, .int .u8 0, .int .u8 0, .int .u8 0]).cells.size = 64 := rfl
theorem sl23x : SlT 27 58 55 := ⟨⟨Hvah.t58, .agg #[.int .u8 0, .int .u8 0, .int .u8 0, .int .u8 0, .int .u8 0, .int .u8 0, .int .u8 0, .int .u8 0, .int .u8 0, .int .u8 0, .int .u8 0, .int .u8 0, .int .u8 0, .int .u8 0, .int .u8 0, .int .u8 0, .int .u8 0, .int .u8 0, .int .u8 0, .int .u8 0, .int .u64 0, .int .u8 0, .int .u8 0, .int .u8 0, .int .u8 0, .int .u8 0, .int .u8 0, .int .u8 0, .int .u8 0, .int .u8 0, .int .u8 0, .int .u8 0, .int .u8 0, .int .u8 0, .int .u8 0, .int .u8 0, .int .u8 0, .int .u8 0, .int .u8 0, .int .u8 0, .int .u8 0, .int .u8 0, .int .u8 0, .int .u8 0, .int .u8 0, .int .u8 0, .int .u8 0, .int .u8 0, .int .u8 0, .int .u8 0, .int .u8 0, .int .u8 0, .int .u8 0, .slice none 0 0, .slice none 0 0], under23x, info114x, zero114x, size114x, zs114x, bytes114⟩, by decide, by decide⟩
theorem sl112x : SlT 56 127 64 := ⟨⟨Hvah.t127, .agg #[.int .u8 0, .int .u8 0, .int .u8 0, .int .u8 0, .int .u8 0, .int .u8 0, .int .u8 0, .int .u8 0, .int .u8 0, .int .u8 0, .int .u8 0, .int .u8 0, .int .u8 0, .int .u8 0, .int .u8 0, .int .u8 0, .int .u8 0, .int .u8 0, .int .u8 0, .int .u8 0, .int .u8 0, .int .u8 0, .int .u8 0, .int .u8 0, .int .u8 0, .int .u8 0, .int .u8 0, .int .u8 0, .int .u8 0, .int .u8 0, .int .u8 0, .int .u8 0, .int .u8 0, .int .u8 0, .int .u8 0, .int .u8 0, .int .u8 0, .int .u8 0, .int .u8 0, .int .u8 0, .int .u8 0, .int .u8 0, .int .u8 0, .int .u8 0, .int .u8 0, .int .u8 0, .int .u8 0, .int .u8 0, .int .u8 0, .int .u8 0, .int .u8 0, .int .u8 0, .int .u8 0, .int .u8 0, .int .u8 0, .int .u8 0, .int .u8 0, .int .u8 0, .int .u8 0, .int .u8 0, .int .u8 0, .int .u8 0, .int .u8 0, .int .u8 0], under112x, info118x, zero118x, size118x, zs118x, bytes118⟩, by decide, by decide⟩
theorem rt114x : RowT 58 55 := rowT_of (by kernel_rfl) (by kernel_rfl)
theorem rt118x : RowT 127 64 := rowT_of (by kernel_rfl) (by kernel_rfl)
theorem one112x : OneT 56 := oneT_of (by kernel_rfl) (by kernel_rfl)
/-- A slot of the output, as a row. -/
def isR (k v : Nat) : Array Value := bw k ++ bw v
theorem isR_size {k v : Nat} (hk : k < P256) (hv : v < P256) : (isR k v).size = 64 := by unfold isR; rw [Array.size_append, bwS hk, bwS hv]
theorem isR_one {k v : Nat} : ∀ u ∈ (isR k v).toList, u.oneCell' = true := by
  intro u hu
  unfold isR at hu
  rw [Array.toList_append, List.mem_append] at hu
  rcases hu with hu | hu
  · exact bw_one k u hu
  · exact bw_one v u hu
theorem isR_row {k v : Nat} (hk : k < P256) (hv : v < P256) (c : Nat → Value) (o : Nat) (h : ∀ j u, (isR k v)[j]? = some u → c (o + j) = u) : ISlC c o (k, v) := by
  have h1 := bwS hk
  refine ⟨fun j u hu => h j u ?_, hk, fun j u hu => ?_, hv⟩
  · have hj := (Array.getElem?_eq_some_iff.1 hu).1
    unfold isR
    rw [Array.getElem?_append_left hj]; exact hu
  · have hh : (isR k v)[32 + j]? = some u := by
      unfold isR
      rw [Array.getElem?_append_right (by omega), h1, show 32 + j - 32 = j by omega]; exact hu
    have := h (32 + j) u hh
    rw [← Nat.add_assoc] at this; exact this
theorem b118x {k v : Nat} (hk : k < P256) (hv : v < P256) : ∀ w, (Instr.build 127 ([(0, .agg (bw k)), (1, .agg (bw v))] : List (Nat × Value)).toArray).run Hvah.prog w = .ok (.agg (isR k v)) w := by
  intro w
  have h1 := bwS hk
  have h2 := bwS hv
  rw [run_build_gen z118xp z118xq ([(0, .agg (bw k)), (1, .agg (bw v))] : List (Nat × Value)) ⟨0, 32, rfl, h1, by decide, 32, 32, rfl, h2, by decide, trivial⟩ w]
  congr 2
  apply Array.ext_getElem?
  intro i
  by_cases hi : i < 64
  · rw [get_cf (r := bld z118x (partsA [(0, 32), (32, 32)] [(0, .agg (bw k)), (1, .agg (bw v))])) (i := i) (by rw [bld_size]; exact hi), bld_get _ _ _ hi]
    simp only [partsA, List.map_cons, List.map_nil, List.getD_cons_zero, List.getD_cons_succ, bldc, one_agg]
    rw [get_cf (r := isR k v) (i := i) (by rw [isR_size hk hv]; exact hi)]
    congr 1
    by_cases h3 : i < 32
    · rw [layv_out _ _ _ (Or.inl h3)]
      have := layv_in (cf z118x) 0 (bw k) (j := i) (by rw [h1]; exact h3)
      rw [Nat.zero_add] at this
      rw [this]; unfold isR; rw [cf_append, if_pos (by rw [h1]; exact h3)]
    · obtain ⟨j, rfl⟩ : ∃ j, i = 32 + j := ⟨i - 32, by omega⟩
      rw [layv_in _ _ _ (by rw [h2]; omega)]
      unfold isR; rw [cf_append, if_neg (by rw [h1]; omega), h1, show 32 + j - 32 = j by omega]
  · rw [Array.getElem?_eq_none (by rw [bld_size]; show 64 ≤ i; omega), Array.getElem?_eq_none (by rw [isR_size hk hv]; omega)]
/-- An account of the output, as a row. -/
def iaR (a n b : Nat) (u v : Value) : Array Value := av a ++ #[.int .u64 (n : Nat)] ++ bw b ++ #[u, v]
theorem iaR_size {a b : Nat} (ha : a < 2 ^ 160) (hb : b < P256) (n : Nat) (u v : Value) : (iaR a n b u v).size = 55 := by unfold iaR; simp only [Array.size_append, av_size ha, bwS hb]; rfl
theorem iaR_one {a b n : Nat} {u v : Value} (hu : u.oneCell' = true) (hv : v.oneCell' = true) : Ones (iaR a n b u v) := by
  intro x hx
  unfold iaR at hx
  simp only [Array.toList_append, List.mem_append] at hx
  rcases hx with ((hx | hx) | hx) | hx
  · exact av_one a x hx
  · simp at hx; rw [hx]; rfl
  · exact bw_one b x hx
  · simp at hx
    rcases hx with rfl | rfl
    · exact hu
    · exact hv
theorem iaR_cf {a b : Nat} (ha : a < 2 ^ 160) (hb : b < P256) (n : Nat) (u v : Value) : (∀ j, j < 20 → cf (iaR a n b u v) j = cf (av a) j) ∧ cf (iaR a n b u v) 20 = .int .u64 (n : Nat) ∧ (∀ j, j < 32 → cf (iaR a n b u v) (21 + j) = cf (bw b) j) ∧ cf (iaR a n b u v) 53 = u ∧ cf (iaR a n b u v) 54 = v := by
  have h1 := av_size ha
  have h2 := bwS hb
  have s2 : (av a ++ #[Value.int .u64 (n : Nat)]).size = 21 := by rw [Array.size_append, h1]; rfl
  have s3 : (av a ++ #[Value.int .u64 (n : Nat)] ++ bw b).size = 53 := by rw [Array.size_append, s2, h2]
  refine ⟨fun j hj => ?_, ?_, fun j hj => ?_, ?_, ?_⟩
  · unfold iaR; rw [cf_append, if_pos (by omega), cf_append, if_pos (by omega), cf_append, if_pos (by omega)]
  · unfold iaR; rw [cf_append, if_pos (by omega), cf_append, if_pos (by omega), cf_append, if_neg (by omega), h1]; rfl
  · unfold iaR; rw [cf_append, if_pos (by omega), cf_append, if_neg (by omega), s2, show 21 + j - 21 = j by omega]
  · unfold iaR; rw [cf_append, if_neg (by omega), s3]; rfl
  · unfold iaR; rw [cf_append, if_neg (by omega), s3]; rfl
theorem b114x {a n b : Nat} (ha : a < 2 ^ 160) (hb : b < P256) {u : Value} (hu : u.oneCell' = true) : ∀ w, (Instr.build 58 ([(0, .agg (av a)), (1, .int .u64 (n : Nat)), (2, .agg (bw b)), (3, u)] : List (Nat × Value)).toArray).run Hvah.prog w = .ok (.agg (iaR a n b u (.slice none 0 0))) w := by
  intro w
  have h1 := av_size ha
  have h2 := bwS hb
  rw [run_build_gen z114xp z114xq ([(0, .agg (av a)), (1, .int .u64 (n : Nat)), (2, .agg (bw b)), (3, u)] : List (Nat × Value)) ⟨0, 20, rfl, h1, by decide, 20, 1, rfl, rfl, by decide, 21, 32, rfl, h2, by decide, 53, 1, rfl, by rw [one_cells hu]; rfl, by decide, trivial⟩ w]
  congr 2
  obtain ⟨k1, k2, k3, k4, k5⟩ := iaR_cf ha hb n u (.slice none 0 0)
  apply Array.ext_getElem?
  intro i
  by_cases hi : i < 55
  · rw [get_cf (r := bld z114x (partsA [(0, 20), (20, 1), (21, 32), (53, 1), (54, 1)] [(0, .agg (av a)), (1, .int .u64 (n : Nat)), (2, .agg (bw b)), (3, u)])) (i := i) (by rw [bld_size]; exact hi), bld_get _ _ _ hi]
    simp only [partsA, List.map_cons, List.map_nil, List.getD_cons_zero, List.getD_cons_succ, bldc, one_cells hu, one_cells (v := .int .u64 (n : Nat)) rfl, layv_one, one_agg]
    rw [get_cf (r := iaR a n b u (.slice none 0 0)) (i := i) (by rw [iaR_size ha hb]; exact hi)]
    congr 1
    by_cases q53 : i = 53
    · subst q53; rw [updv_same, k4]
    rw [updv_ne _ _ q53]
    by_cases q21 : 21 ≤ i ∧ i < 53
    · obtain ⟨j, rfl⟩ : ∃ j, i = 21 + j := ⟨i - 21, by omega⟩
      rw [layv_in _ _ _ (by rw [h2]; omega), k3 j (by omega)]
    rw [layv_out _ _ _ (by rw [h2]; omega)]
    by_cases q20 : i = 20
    · subst q20; rw [updv_same, k2]
    rw [updv_ne _ _ q20]
    by_cases q0 : i < 20
    · have := layv_in (cf z114x) 0 (av a) (j := i) (by rw [h1]; exact q0)
      rw [Nat.zero_add] at this
      rw [this, k1 i q0]
    · obtain rfl : i = 54 := by omega
      rw [layv_out _ _ _ (by rw [h1]; omega), k5]; rfl
  · rw [Array.getElem?_eq_none (by rw [bld_size]; show 55 ≤ i; omega), Array.getElem?_eq_none (by rw [iaR_size ha hb]; omega)]
theorem iaR_row {O : Nat → Prop} {w : World} {x : IAcct} {u v : Value} (ha : x.addr < 2 ^ 160) (hn : x.nonce < 18446744073709551616) (hb : x.bal < P256) (hu : NLx O w u x.code) (hv : EL 64 ISlC O w v x.slots) (c : Nat → Value) (o : Nat) (h : ∀ j z, (iaR x.addr x.nonce x.bal u v)[j]? = some z → c (o + j) = z) : IAcC O w c o x := by
  have hs := iaR_size ha hb x.nonce u v
  obtain ⟨k1, k2, k3, k4, k5⟩ := iaR_cf ha hb x.nonce u v
  have g : ∀ j, j < 55 → c (o + j) = cf (iaR x.addr x.nonce x.bal u v) j := fun j hj => h j _ (get_cf (by rw [hs]; exact hj))
  refine ⟨fun j z hz => ?_, ha, by rw [g 20 (by decide)]; exact k2, hn, fun j z hz => ?_, hb, by rw [g 53 (by decide), k4]; exact hu, by rw [g 54 (by decide), k5]; exact hv⟩
  · have hj := (Array.getElem?_eq_some_iff.1 hz).1
    rw [av_size ha] at hj
    rw [g j (by omega), k1 j hj]; exact cf_get hz
  · have hj := (Array.getElem?_eq_some_iff.1 hz).1
    rw [bwS hb] at hj
    rw [Nat.add_assoc, g (21 + j) (by omega), k3 j hj]; exact cf_get hz
end Go.Proofs.YgvahwGreat
