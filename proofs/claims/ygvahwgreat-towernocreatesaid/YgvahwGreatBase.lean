import Derived.Test.YgvahwGreatProg
import Derived.WalkKit
import Derived.WalkSpells
import Derived.WalkLawsBesides
import Derived.Laws.Externs
import Derived.KernelRfl
import Derived.Deep.QuietTactic
import Derived.BigQuiet
import Derived.Deep.RegionHeld3
import Derived.Test.YgvahwGreatLists
import Derived.Laws.CopyOwn
import Derived.Laws.BitsAllLaws
import Derived.Laws.MakeOwn
namespace Go.Proofs.YgvahwGreat
open Go.RowKit

/-- A statement under a veil: 'apply' does not look into it. -/
structure Veil (p : Prop) : Prop where
  out : p

/-- A number of 64 bits. -/
abbrev U64 (x : Int) : Prop := 0 ≤ x ∧ x < 18446744073709551616

theorem or_low (k z d : Nat) (h : d < 2 ^ k) : z * 2 ^ k ||| d = z * 2 ^ k + d := by
  have := Nat.shiftLeft_add_eq_or_of_lt h z
  rw [Nat.shiftLeft_eq] at this
  exact this.symm

/-- What was there stands; the streams stand; what is new is not frozen. -/
structure Ext (w w' : World) : Prop where
  os : w'.os = w.os
  tape : w'.tape = w.tape
  output : w'.output = w.output
  size : w.heap.size ≤ w'.heap.size
  block : ∀ k, k < w.heap.size → w'.heap[k]? = w.heap[k]?
  new : ∀ a : Addr, w.heap.size ≤ a.block → w'.frozen? a = false

theorem Ext.refl (w : World) : Ext w w := ⟨rfl, rfl, rfl, Nat.le_refl _, fun _ _ => rfl, fun a h => by
  simp only [World.frozen?]
  rw [Array.getElem?_eq_none (by omega)]⟩

theorem Ext.cell {w w' : World} (h : Ext w w') {p : Addr} (hp : p.block < w.heap.size) : w'.cell? p = w.cell? p :=
  World.cell?_of_block (w := w) (h.block p.block hp)
theorem Ext.frozen {w w' : World} (h : Ext w w') {p : Addr} (hp : p.block < w.heap.size) : w'.frozen? p = w.frozen? p :=
  World.frozen?_of_block (w := w) (h.block p.block hp)

theorem Ext.trans {a b c : World} (h : Ext a b) (k : Ext b c) : Ext a c := by
  refine ⟨k.os.trans h.os, k.tape.trans h.tape, k.output.trans h.output, Nat.le_trans h.size k.size, fun i hi => (k.block i (Nat.lt_of_lt_of_le hi h.size)).trans (h.block i hi), fun p hp => ?_⟩
  by_cases hb : p.block < b.heap.size
  · rw [k.frozen hb]; exact h.new p hp
  · exact k.new p (by omega)

theorem Ext.alloc {a w : World} (h : Ext a w) (c : Array Value) (t : TypeId) : Ext a (w.alloc (.cells c t)) := by
  refine h.trans ⟨rfl, rfl, rfl, by simp, fun k hk => Below.heap_alloc _ _ _ hk, fun p hp => ?_⟩
  simp only [World.frozen?]
  rw [show (w.alloc (.cells c t)).heap = w.heap.push (.cells c t) from rfl, Array.getElem?_push]
  by_cases he : p.block = w.heap.size
  · simp [he]
  · rw [if_neg he, Array.getElem?_eq_none (by omega)]

theorem Ext.drew {a w : World} (h : Ext a w) : Ext a w.drew := ⟨h.os, h.tape, h.output, h.size, h.block, h.new⟩

theorem Ext.setCell {a w : World} (h : Ext a w) {p : Addr} (hp : a.heap.size ≤ p.block) (u : Value) : Ext a (w.setCell p u) := by
  refine ⟨h.os, h.tape, h.output, by simpa [World.setCell] using h.size, fun k hk => (Below.heap_setCell _ _ _ _ (by omega)).trans (h.block k hk), fun q hq => ?_⟩
  rw [World.frozen?_setCell]
  exact h.new q hq

/-- A slice of bytes: its cells, in a block that is none of O's. -/
structure BS (O : Nat → Prop) (w : World) (o : Option Addr) (l : List Nat) : Prop where
  lt : ∀ d ∈ l, d < 256
  spot : l ≠ [] → ∃ b off, o = some ⟨b, off, none⟩ ∧ ¬ O b ∧ b < w.heap.size ∧ ∀ (i : Nat) (h : i < l.length), w.cell? ⟨b, off + i, none⟩ = some (.int .u8 (l[i] : Int))

theorem BS.ext {O : Nat → Prop} {w w' : World} {o : Option Addr} {l : List Nat} (h : BS O w o l) (e : Ext w w') : BS O w' o l :=
  ⟨h.lt, fun hl => by
    obtain ⟨b, off, h1, h2, h3, h4⟩ := h.spot hl
    exact ⟨b, off, h1, h2, Nat.lt_of_lt_of_le h3 e.size, fun i hi => (e.cell (p := ⟨b, off + i, none⟩) h3).trans (h4 i hi)⟩⟩

/-- The value reads as the bytes l. -/
def NL (O : Nat → Prop) (w : World) (v : Value) (l : List Nat) : Prop := ∃ o c, v = .slice o l.length c ∧ l.length ≤ c ∧ c ≤ 140737488355328 ∧ BS O w o l
/-- The value reads as digits that make x. -/
def NV (O : Nat → Prop) (w : World) (v : Value) (x : Nat) : Prop := ∃ l, NL O w v l ∧ val l = x

theorem NL.ext {O : Nat → Prop} {w w' : World} {v : Value} {l : List Nat} (h : NL O w v l) (e : Ext w w') : NL O w' v l := by
  obtain ⟨o, c, h1, h2, h3, h4⟩ := h
  exact ⟨o, c, h1, h2, h3, h4.ext e⟩
theorem NV.ext {O : Nat → Prop} {w w' : World} {v : Value} {x : Nat} (h : NV O w v x) (e : Ext w w') : NV O w' v x := by
  obtain ⟨l, h1, h2⟩ := h
  exact ⟨l, h1.ext e, h2⟩

theorem BS.nil {O : Nat → Prop} {w : World} {o : Option Addr} : BS O w o [] := ⟨by simp, fun h => (h rfl).elim⟩
theorem NL.nil {O : Nat → Prop} {w : World} : NL O w (.slice none 0 0) [] := ⟨none, 0, rfl, Nat.le_refl _, by decide, BS.nil⟩
theorem NV.nil {O : Nat → Prop} {w : World} : NV O w (.slice none 0 0) 0 := ⟨[], NL.nil, rfl⟩
theorem NL.digits {O : Nat → Prop} {w : World} {v : Value} {l : List Nat} (h : NL O w v l) : Digits l := by
  obtain ⟨o, c, h1, h2, h3, h4⟩ := h; exact h4.lt

theorem BS.take {O : Nat → Prop} {w : World} {o : Option Addr} {l : List Nat} (h : BS O w o l) (k : Nat) : BS O w o (l.take k) := by
  refine ⟨fun d hd => h.lt d (List.mem_of_mem_take hd), fun hl => ?_⟩
  obtain ⟨b, off, h1, h2, h3, h4⟩ := h.spot (by intro e; subst e; simp at hl)
  refine ⟨b, off, h1, h2, h3, fun i hi => ?_⟩
  rw [List.length_take] at hi
  rw [h4 i (by omega)]; simp

/-- The cells of bytes. -/
def bcells (l : List Nat) : List Value := l.map fun (d : Nat) => Value.int .u8 (d : Int)
theorem bcells_length (l : List Nat) : (bcells l).length = l.length := by simp [bcells]

theorem BS.row {O : Nat → Prop} {w : World} {g : Nat} {l : List Nat} {t : TypeId} {fz : Nat × Nat} (h : w.heap[g]? = some (.cells (bcells l).toArray t fz)) (hd : Digits l) (hO : ¬ O g) : BS O w (some ⟨g, 0, none⟩) l :=
  ⟨hd, fun _ => ⟨g, 0, rfl, hO, by
    have := (Array.getElem?_eq_some_iff.1 h).1; exact this, fun i hi => by
    simp [World.cell?, h, bcells, hi]⟩⟩

theorem NL.row {O : Nat → Prop} {w : World} {g n : Nat} {l : List Nat} {t : TypeId} (h : w.heap[g]? = some (.cells (bcells l).toArray t (0, 0))) (hd : Digits l) (hO : ¬ O g) (hn : l.length = n) (hm : n ≤ 140737488355328) : NL O w (.slice (some ⟨g, 0, none⟩) n n) l := by
  subst hn
  exact ⟨_, _, rfl, Nat.le_refl _, hm, BS.row h hd hO⟩

/-- A row of zeros, under a name. -/
def zrow (n : Nat) : Array Value := (bcells (List.replicate n 0)).toArray
theorem madeCells_zrow (n : Nat) : madeCells #[.int .u8 0] n = zrow n := by
  apply Array.toList_inj.1
  rw [toList_madeCells_one]
  simp [zrow, bcells]

theorem u8info : Hvah.prog.info? 5 = some Hvah.t5 := by kernel_rfl
theorem u8zero : Hvah.t5.zero = some (.int .u8 0) := by kernel_rfl
theorem u8bytes : Hvah.t5.bytes = 1 := by kernel_rfl
theorem u8size : Hvah.t5.size = 1 := by kernel_rfl
theorem u8map : (Hvah.prog.info? 5).map (·.size) = some 1 := by kernel_rfl

/-- 'make' of bytes, as long as they may be. -/
theorem run_make_bytes (w : World) (t : TypeId) (ht : Hvah.prog.underlying t = some (.slice 5)) (n : Nat) (hn : n ≤ 140737488355328) :
    (Instr.makeSlice t (.int .i64 n) (.int .i64 n)).run Hvah.prog w = .ok (.slice (some ⟨w.heap.size, 0, none⟩) n n) (w.alloc (.cells (zrow n) 5)) := by
  have hb : (Hvah.t5.bytes : Int) * n ≤ 281474976710656 := by rw [u8bytes]; omega
  rw [run_make (P := Hvah.prog) w t 5 Hvah.t5 (.int .u8 0) ht u8info u8zero .i64 .i64 n n (by omega) (Int.le_refl _) hb (by omega)]
  rw [u8size, Nat.mul_one, show (Value.int .u8 0).cells = #[.int .u8 0] from rfl, madeCells_zrow]
  simp

section
variable {ops : Array Oper} {rest : List Oper} {a : Act} {Q : Exit → Act → World → Prop} {w : World} {dst : Option Tmp} {ty : TypeId} {pos : String} {aft : Array Edge}

theorem wl_make_bytes {t : TypeId} {l c : Operand} (ht : Hvah.prog.underlying t = some (.slice 5)) (n : Nat) (hl : a.eval l = .int .i64 (n : Int)) (hc : a.eval c = .int .i64 (n : Int)) (hn : n ≤ 140737488355328)
    (h : wpList Hvah.prog ops Q rest (a.put dst (.slice (some ⟨w.heap.size, 0, none⟩) n n)) (w.alloc (.cells (zrow n) 5))) :
    wpList Hvah.prog ops Q (⟨dst, .makeSlice t l c, ty, pos, aft, none⟩ :: rest) a w := by
  refine wpList_plain rfl fun K hK => ?_
  unfold Oper.wp
  simp [execOp, hl, hc, run_make_bytes w t ht n hn, Result.andThen]
  exact hK _ _ h

/-- copy of bytes onto a row of bytes, from its head. -/
theorem wl_copy_bytes {d s : Operand} {dT sT : TypeId} (hu : Hvah.prog.underlying dT = some (.slice 5)) (g n1 c1 : Nat) (o2 : Option Addr) (n2 c2 : Nat)
    (hd : a.eval d = .slice (some ⟨g, 0, none⟩) n1 c1) (hs : a.eval s = .slice o2 n2 c2) (L : List Nat) (t : TypeId) (hg : w.heap[g]? = some (.cells (bcells L).toArray t (0, 0)))
    (l : List Nat) (hl : l.length = min n2 n1) (hsrc : ∃ b o, o2 = some ⟨b, o, none⟩ ∧ ∀ (i : Nat) (h : i < l.length), w.cell? ⟨b, o + i, none⟩ = some (.int .u8 (l[i] : Int))) (hfit : l.length ≤ L.length)
    (h : wpList Hvah.prog ops Q rest (a.put dst (.int .i64 l.length)) (w.setRow g (bcells (l ++ L.drop l.length)).toArray)) : Veil (wpList Hvah.prog ops Q (⟨dst, .call ⟨.builtin .copy, #[d, s], #[dT, sT]⟩, ty, pos, aft, none⟩ :: rest) a w) := by
  refine Veil.mk ?_
  obtain ⟨b, o, rfl, hc⟩ := hsrc
  refine wpList_copy_own rfl d s dT sT rfl 5 hu u8map g 0 n1 c1 ⟨b, o, none⟩ n2 c2 hd hs (bcells L).toArray t hg (bcells l) (by rw [bcells_length, hl]) ?_ (by simpa [bcells_length] using hfit) ?_ ?_
  · intro j v hv
    simp only [bcells, List.getElem?_map, Option.map_eq_some_iff] at hv
    obtain ⟨x, hx, rfl⟩ := hv
    obtain ⟨hj, rfl⟩ := List.getElem?_eq_some_iff.1 hx
    have := hc j hj
    simp only [Addr.add]
    split
    · rename_i h0; subst h0; simpa using this
    · simpa using this
  · intro v hv
    simp only [bcells, List.mem_map] at hv
    obtain ⟨x, _, rfl⟩ := hv
    rfl
  · simpa [bcells, goInt] using h
end

theorem heap_new (w : World) (o : Obj) : (w.alloc o).heap[w.heap.size]? = some o := by
  show (w.heap.push o)[w.heap.size]? = _
  simp

theorem BS.src {O : Nat → Prop} {w : World} {o : Option Addr} {l : List Nat} (h : BS O w o l) : l ≠ [] → ∃ b off, o = some ⟨b, off, none⟩ ∧ ∀ (i : Nat) (h : i < l.length), w.cell? ⟨b, off + i, none⟩ = some (.int .u8 (l[i] : Int)) := fun hl => by
  obtain ⟨b, off, h1, _, _, h4⟩ := h.spot hl
  exact ⟨b, off, h1, h4⟩

theorem Ext.setRow {a w : World} (h : Ext a w) {g : Nat} (hg : a.heap.size ≤ g) (cs : Array Value) : Ext a (w.setRow g cs) := by
  refine ⟨h.os, h.tape, h.output, by simpa [World.setRow] using h.size, fun k hk => (setRow_other w g k cs (by omega)).trans (h.block k hk), fun q hq => ?_⟩
  have := h.new q hq
  by_cases hb : q.block = g
  · subst hb
    revert this
    simp only [World.frozen?, World.setRow, Array.getElem?_modify, if_true]
    cases w.heap[q.block]? with
    | none => simp
    | some o => cases o <;> simp
  · rw [World.frozen?_of_block (w := w) (setRow_other w g q.block cs hb)]; exact this

/-- What never changes of a block: its type, how many cells, what is frozen. -/
def shp (w : World) (i : Nat) : Option (TypeId × Nat × (Nat × Nat)) :=
  match w.heap[i]? with
  | some (.cells a t f) => some (t, a.size, f)
  | _ => none
theorem shp_of {w w' : World} {i : Nat} (h : w'.heap[i]? = w.heap[i]?) : shp w' i = shp w i := by unfold shp; rw [h]
theorem shp_setCell (w : World) (p : Addr) (u : Value) (i : Nat) : shp (w.setCell p u) i = shp w i := by
  by_cases e : i = p.block
  · subst e
    unfold shp World.setCell
    simp only [Array.getElem?_modify, if_true]
    cases h : w.heap[p.block]? with
    | none => rfl
    | some o =>
      cases o with
      | cells c e f =>
        show some (e, (if p.spot.isSome = true then c else c.setIfInBounds p.off u).size, f) = some (e, c.size, f)
        split <;> simp
      | _ => rfl
  · exact shp_of (Below.heap_setCell _ _ _ _ e)
/-- Only block g may have turned. -/
structure Upd (g : Nat) (w w' : World) : Prop where
  os : w'.os = w.os
  tape : w'.tape = w.tape
  output : w'.output = w.output
  size : w'.heap.size = w.heap.size
  block : ∀ k, k ≠ g → w'.heap[k]? = w.heap[k]?
  frozen : ∀ a : Addr, w'.frozen? a = w.frozen? a
  shape : ∀ i, shp w' i = shp w i

theorem Upd.refl (g : Nat) (w : World) : Upd g w w := ⟨rfl, rfl, rfl, rfl, fun _ _ => rfl, fun _ => rfl, fun _ => rfl⟩
theorem Upd.trans {g : Nat} {a b c : World} (h : Upd g a b) (k : Upd g b c) : Upd g a c :=
  ⟨k.os.trans h.os, k.tape.trans h.tape, k.output.trans h.output, k.size.trans h.size, fun i hi => (k.block i hi).trans (h.block i hi), fun p => (k.frozen p).trans (h.frozen p), fun i => (k.shape i).trans (h.shape i)⟩
theorem Upd.setCell {g : Nat} {a w : World} (h : Upd g a w) (i : Nat) (u : Value) : Upd g a (w.setCell ⟨g, i, none⟩ u) :=
  h.trans ⟨rfl, rfl, rfl, by simp [World.setCell], fun k hk => Below.heap_setCell _ _ _ _ hk, fun p => World.frozen?_setCell _ _ _ _, fun i => shp_setCell _ _ _ _⟩
theorem Upd.drew {g : Nat} {a w : World} (h : Upd g a w) : Upd g a w.drew := ⟨h.os, h.tape, h.output, h.size, h.block, h.frozen, h.shape⟩
theorem Upd.drewN {g : Nat} {a w : World} (h : Upd g a w) (n : Nat) : Upd g a (w.drewN n) := ⟨h.os, h.tape, h.output, h.size, h.block, h.frozen, h.shape⟩
theorem Ext.drewN {a w : World} (h : Ext a w) (n : Nat) : Ext a (w.drewN n) := ⟨h.os, h.tape, h.output, h.size, h.block, h.new⟩
theorem Ext.upd {a w w' : World} {g : Nat} (h : Ext a w) (k : Upd g w w') (hg : a.heap.size ≤ g) : Ext a w' :=
  ⟨k.os.trans h.os, k.tape.trans h.tape, k.output.trans h.output, by rw [k.size]; exact h.size, fun i hi => (k.block i (by omega)).trans (h.block i hi), fun p hp => by rw [k.frozen]; exact h.new p hp⟩
theorem Upd.cell {g : Nat} {w w' : World} (h : Upd g w w') {p : Addr} (hp : p.block ≠ g) : w'.cell? p = w.cell? p :=
  World.cell?_of_block (w := w) (h.block p.block hp)
theorem BS.upd {g : Nat} {w w' : World} {o : Option Addr} {l : List Nat} (h : BS (· = g) w o l) (e : Upd g w w') : BS (· = g) w' o l :=
  ⟨h.lt, fun hl => by
    obtain ⟨b, off, h1, h2, h3, h4⟩ := h.spot hl
    exact ⟨b, off, h1, h2, by rw [e.size]; exact h3, fun i hi => (e.cell (p := ⟨b, off + i, none⟩) h2).trans (h4 i hi)⟩⟩
/-- A row that was there before g was made. -/
theorem BS.old {O : Nat → Prop} {a w : World} {o : Option Addr} {l : List Nat} {g : Nat} (h : BS O a o l) (e : Ext a w) (hg : a.heap.size ≤ g) : BS (· = g) w o l :=
  ⟨h.lt, fun hl => by
    obtain ⟨b, off, h1, h2, h3, h4⟩ := h.spot hl
    exact ⟨b, off, h1, by omega, Nat.lt_of_lt_of_le h3 e.size, fun i hi => (e.cell (p := ⟨b, off + i, none⟩) h3).trans (h4 i hi)⟩⟩

/-- The blocks from n on. -/
def OG (n : Nat) : Nat → Prop := fun b => n ≤ b
theorem BS.sub {O O' : Nat → Prop} {w : World} {o : Option Addr} {l : List Nat} (h : BS O w o l) (hs : ∀ b, O' b → O b) : BS O' w o l :=
  ⟨h.lt, fun hl => by obtain ⟨b, off, h1, h2, h3⟩ := h.spot hl; exact ⟨b, off, h1, fun hb => h2 (hs b hb), h3⟩⟩
theorem BS.og {O : Nat → Prop} {a w : World} {o : Option Addr} {l : List Nat} (h : BS O a o l) (e : Ext a w) : BS (OG a.heap.size) w o l :=
  ⟨h.lt, fun hl => by
    obtain ⟨b, off, h1, h2, h3, h4⟩ := h.spot hl
    exact ⟨b, off, h1, by unfold OG; omega, Nat.lt_of_lt_of_le h3 e.size, fun i hi => (e.cell (p := ⟨b, off + i, none⟩) h3).trans (h4 i hi)⟩⟩
theorem NV.og {O : Nat → Prop} {a w : World} {v : Value} {x : Nat} (h : NV O a v x) (e : Ext a w) : NV (OG a.heap.size) w v x := by
  obtain ⟨l, ⟨o, c, h1, h2, h3, h4⟩, h5⟩ := h
  exact ⟨l, ⟨o, c, h1, h2, h3, h4.og e⟩, h5⟩
/-- What lies below n in one world lies there in every other that keeps what is below n. -/
theorem BS.keep {a w w' : World} {o : Option Addr} {l : List Nat} (h : BS (OG a.heap.size) w o l) (e : Ext a w) (e' : Ext a w') : BS (OG a.heap.size) w' o l :=
  ⟨h.lt, fun hl => by
    obtain ⟨b, off, h1, h2, h3, h4⟩ := h.spot hl
    have hb : b < a.heap.size := by unfold OG at h2; omega
    exact ⟨b, off, h1, h2, Nat.lt_of_lt_of_le hb e'.size, fun i hi => ((e'.cell (p := ⟨b, off + i, none⟩) hb).trans (e.cell (p := ⟨b, off + i, none⟩) hb).symm).trans (h4 i hi)⟩⟩

theorem NV.old {O : Nat → Prop} {a w : World} {v : Value} {x : Nat} {g : Nat} (h : NV O a v x) (e : Ext a w) (hg : a.heap.size ≤ g) : NV (· = g) w v x := by
  obtain ⟨l, ⟨o, c, h1, h2, h3, h4⟩, h5⟩ := h
  exact ⟨l, ⟨o, c, h1, h2, h3, h4.old e hg⟩, h5⟩

theorem setCell_row {w : World} {g : Nat} {L : List Value} {t : TypeId} {fz : Nat × Nat} (h : w.heap[g]? = some (.cells L.toArray t fz)) (i : Nat) (v : Value) : w.setCell ⟨g, i, none⟩ v = w.setRow g (L.set i v).toArray := by
  have hlt := (Array.getElem?_eq_some_iff.1 h).1
  simp only [World.setCell, World.setRow]
  congr 1
  apply Array.ext_getElem?
  intro k
  simp only [Array.getElem?_modify]
  split
  · rename_i hk; subst hk; simp [h]
  · rfl

theorem setRow_setRow (w : World) (g : Nat) (a b : Array Value) : (w.setRow g a).setRow g b = w.setRow g b := by
  simp only [World.setRow]
  congr 1
  apply Array.ext_getElem?
  intro k
  simp only [Array.getElem?_modify]
  split
  · cases w.heap[k]? with
    | none => rfl
    | some o => cases o <;> rfl
  · rfl

/-- vs laid over L from place o on. -/
def lay (L : List Value) (o : Nat) (vs : List Value) : List Value := L.take o ++ (vs ++ L.drop (o + vs.length))
theorem lay_length (L : List Value) (o : Nat) (vs : List Value) (h : o + vs.length ≤ L.length) : (lay L o vs).length = L.length := by simp [lay]; omega
theorem lay_whole (L vs : List Value) (h : vs.length = L.length) : lay L 0 vs = vs := by simp [lay, h]

theorem setCells_row {t : TypeId} {fz : Nat × Nat} (g : Nat) : ∀ (vs : List Value) (o : Nat) (w : World) (L : List Value), w.heap[g]? = some (.cells L.toArray t fz) → o + vs.length ≤ L.length →
    w.setCells g o vs = w.setRow g (lay L o vs).toArray
  | [], o, w, L, h, _ => by
    simp only [World.setCells, lay, List.length_nil, Nat.add_zero, List.nil_append, List.take_append_drop]
    exact (setRow_self w g L.toArray t fz h).symm
  | v :: vs, o, w, L, h, hf => by
    have hf' : o + (vs.length + 1) ≤ L.length := by simpa using hf
    rw [World.setCells, setCell_row h, setCells_row g vs (o + 1) _ (L.set o v) (setRow_heap w g _ _ _ _ h) (by simp; omega), setRow_setRow]
    congr 2
    simp only [lay, List.length_cons]
    have e1 : (L.set o v).take (o + 1) = L.take o ++ [v] := by
      rw [List.take_succ_eq_append_getElem (by simp; omega)]; simp [List.take_set_of_le]
    rw [e1]
    rw [List.drop_set_of_lt (by omega)]
    simp [Nat.add_assoc, Nat.add_comm 1]

section
variable {ops : Array Oper} {rest : List Oper} {a : Act} {Q : Exit → Act → World → Prop} {w : World} {dst : Option Tmp} {ty : TypeId} {pos : String} {aft : Array Edge}

theorem cells_there {w : World} {g : Nat} {L : List Value} {t : TypeId} (h : w.heap[g]? = some (.cells L.toArray t (0, 0))) (o n : Nat) (hf : o + n ≤ L.length) : w.there g o n := fun j hj => by
  constructor
  · simp [World.cell?, h]; omega
  · simp [World.frozen?, h]

theorem wl_load_row {x : Operand} (t : TypeId) (d : TypeDesc) (n : Nat) (hu : Hvah.prog.underlying t = some d) (hd : d.isRow = true) (hi : (Hvah.prog.info? t).map (·.size) = some n)
    (g off : Nat) (hx : a.eval x = .pointer (some ⟨g, off, none⟩)) (L : List Value) (et : TypeId) (fz : Nat × Nat) (hg : w.heap[g]? = some (.cells L.toArray et fz)) (hf : off + n ≤ L.length)
    (h : wpList Hvah.prog ops Q rest (a.put dst (.agg ((L.drop off).take n).toArray)) w) : Veil (wpList Hvah.prog ops Q (⟨dst, .load t x, ty, pos, aft, none⟩ :: rest) a w) := by
  refine Veil.mk ?_
  refine wpList_load_mid rfl t x rfl g off hx ((L.drop off).take n) d ?_ hu hd (by rw [hi]; simp; omega) h
  intro j v hv
  simp only [World.cell?, hg]
  rw [List.getElem?_take] at hv
  split at hv
  · simpa using hv
  · simp at hv

theorem wl_store_row {x y : Operand} (t : TypeId) (n : Nat) (hi : (Hvah.prog.info? t).map (·.size) = some n)
    (g off : Nat) (hx : a.eval x = .pointer (some ⟨g, off, none⟩)) (vs : List Value) (hy : a.eval y = .agg vs.toArray) (hn : vs.length = n) (h1 : ∀ v ∈ vs, v.oneCell' = true)
    (L : List Value) (et : TypeId) (hg : w.heap[g]? = some (.cells L.toArray et (0, 0))) (hf : off + n ≤ L.length)
    (h : wpList Hvah.prog ops Q rest (a.put dst undef) (w.setRow g (lay L off vs).toArray)) : Veil (wpList Hvah.prog ops Q (⟨dst, .store t x y, ty, pos, aft, none⟩ :: rest) a w) := by
  refine Veil.mk ?_
  subst hn
  refine wpList_store_mid rfl t x y rfl g off vs.toArray hx hy (cells_there hg off _ (by simpa using hf)) (by rw [hi]; simp) (all_oneCell_toArray h1) ?_
  rw [show vs.toArray.toList = vs from rfl, setCells_row g vs off w L hg hf]
  exact h
end

/-- A row of so many zero bytes, under a name that the walk leaves standing. -/
def zarr (n : Nat) : List Value := bcells (List.replicate n 0)

section
variable {ops : Array Oper} {rest : List Oper} {a : Act} {Q : Exit → Act → World → Prop} {w : World} {dst : Option Tmp} {ty : TypeId} {pos : String} {aft : Array Edge}
theorem wl_alloc (t : TypeId) (i : TypeInfo) (cs : Array Value) (hi : Hvah.prog.info? t = some i) (hz : i.zero = some (.agg cs))
    (h : wpList Hvah.prog ops Q rest (a.put dst (.pointer (some ⟨w.heap.size, 0, none⟩))) (w.alloc (.cells cs t))) : Veil (wpList Hvah.prog ops Q (⟨dst, .alloc t, ty, pos, aft, none⟩ :: rest) a w) := by
  refine Veil.mk ?_
  refine wpList_plain rfl fun K hK => ?_
  unfold Oper.wp
  simp [execOp, Instr.alloc, zeroValue, typeInfo, hi, hz, newVar, newRow, newObj, Value.cells, Sem.run, program, bind, Sem.bind, pure]
  exact hK _ _ h
end
theorem info27 : Hvah.prog.info? 32 = some Hvah.t32 := by kernel_rfl
theorem zero27 : Hvah.t32.zero = some (.agg (zarr 32).toArray) := by kernel_rfl

/-- A row of a block as the value of its type. -/
theorem run_load_block {w : World} {g : Nat} {L : List Value} {t et : TypeId} {d : TypeDesc} {fz : Nat × Nat} (hu : Hvah.prog.underlying t = some d) (hd : d.isRow = true) (hi : (Hvah.prog.info? t).map (·.size) = some L.length)
    (hg : w.heap[g]? = some (.cells L.toArray et fz)) : (loadVar t ⟨g, 0, none⟩).run Hvah.prog w = .ok (.agg L.toArray) w := by
  refine run_loadVar_mid w g 0 t L d ?_ hu hd hi
  intro j v hv
  simpa [World.cell?, hg] using hv

/-- The end of a function with one result that lies in a block. -/
theorem post_cell {fn : Func} {R : Ending → World → Prop} {a : Act} {w : World} {t : Tmp} {ty et : TypeId} {d : TypeDesc} {g : Nat} {L : List Value} {fz : Nat × Nat} (hf : fn.results = #[.cell t ty])
    (ht : a.tmps.getD t undef = .pointer (some ⟨g, 0, none⟩)) (hu : Hvah.prog.underlying ty = some d) (hd : d.isRow = true) (hi : (Hvah.prog.info? ty).map (·.size) = some L.length)
    (hg : w.heap[g]? = some (.cells L.toArray et fz)) (hdf : a.defers = []) (h : R (.returned (.agg L.toArray)) w) : bodyPost Hvah.prog fn R .ret a w := by
  refine bodyPost_ret (v := .agg L.toArray) ?_ hdf h
  rw [Array.getD_eq_getD_getElem?] at ht
  simp [results, hf, ht, asAddr, run_load_block hu hd hi hg]

/-- .. and with a second one that does not. -/
theorem post_cell_tmp {fn : Func} {R : Ending → World → Prop} {a : Act} {w : World} {t u : Tmp} {ty et : TypeId} {d : TypeDesc} {g : Nat} {L : List Value} {fz : Nat × Nat} {v2 : Value} (hf : fn.results = #[.cell t ty, .tmp u])
    (ht : a.tmps.getD t undef = .pointer (some ⟨g, 0, none⟩)) (h2 : a.tmps.getD u undef = v2) (hu : Hvah.prog.underlying ty = some d) (hd : d.isRow = true) (hi : (Hvah.prog.info? ty).map (·.size) = some L.length)
    (hg : w.heap[g]? = some (.cells L.toArray et fz)) (hdf : a.defers = []) (h : R (.returned (.tuple #[.agg L.toArray, v2])) w) : bodyPost Hvah.prog fn R .ret a w := by
  refine bodyPost_ret (v := .tuple #[.agg L.toArray, v2]) ?_ hdf h
  rw [Array.getD_eq_getD_getElem?] at ht h2
  simp [results, hf, ht, h2, asAddr, run_load_block hu hd hi hg, Result.andThen]

theorem run_arrayAt (w : World) (t e : TypeId) (n len cap : Nat) (a : Option Addr) (ht : Hvah.prog.underlying t = some (.array n e)) (h : n ≤ len) :
    (Instr.arrayAt t (.slice a len cap)).run Hvah.prog w = .ok (.pointer a) w := by
  have : ¬ len < n := by omega
  simp [Instr.arrayAt, run_underlying ht, this]

/-- A byte stored into a row of bytes. -/
theorem heap_setByte {w : World} {g : Nat} {l : List Nat} {t : TypeId} (h : w.heap[g]? = some (.cells (bcells l).toArray t (0, 0))) (i d : Nat) :
    (w.setCell ⟨g, i, none⟩ (.int .u8 (d : Int))).heap[g]? = some (.cells (bcells (l.set i d)).toArray t (0, 0)) := by
  simp [World.setCell, Array.getElem?_modify, h, bcells, List.map_set]

theorem cell_row {w : World} {g : Nat} {l : List Nat} {t : TypeId} (h : w.heap[g]? = some (.cells (bcells l).toArray t (0, 0))) (i : Nat) (hi : i < l.length) : w.cell? ⟨g, i, none⟩ = some (.int .u8 (l[i] : Int)) := by
  simp [World.cell?, h, bcells, hi]
theorem frozen_row {w : World} {g : Nat} {c : Array Value} {t : TypeId} (h : w.heap[g]? = some (.cells c t (0, 0))) (i : Nat) : w.frozen? ⟨g, i, none⟩ = false := by
  simp [World.frozen?, h]

end Go.Proofs.YgvahwGreat
