import Derived.Test.YgvahwGreatDivD
namespace Go.Proofs.YgvahwGreat
open Go.RowKit

/-- Every block but those of S stands; what is new is unfrozen; the streams stand. -/
structure Mod (S : Nat → Prop) (w w' : World) : Prop where
  os : w'.os = w.os
  tape : w'.tape = w.tape
  output : w'.output = w.output
  size : w.heap.size ≤ w'.heap.size
  block : ∀ i, i < w.heap.size → ¬ S i → w'.heap[i]? = w.heap[i]?
  fz : ∀ p : Addr, p.block < w.heap.size → w'.frozen? p = w.frozen? p
  new : ∀ p : Addr, w.heap.size ≤ p.block → w'.frozen? p = false
  shape : ∀ i, i < w.heap.size → shp w' i = shp w i
theorem Mod.refl (S : Nat → Prop) (w : World) : Mod S w w := ⟨rfl, rfl, rfl, Nat.le_refl _, fun _ _ _ => rfl, fun _ _ => rfl, (Ext.refl w).new, fun _ _ => rfl⟩
theorem Ext.mod {w w' : World} (h : Ext w w') (S : Nat → Prop) : Mod S w w' := ⟨h.os, h.tape, h.output, h.size, fun i hi _ => h.block i hi, fun _ hp => h.frozen hp, h.new, fun i hi => shp_of (h.block i hi)⟩
theorem Mod.trans {S : Nat → Prop} {a b c : World} (h : Mod S a b) (k : Mod S b c) : Mod S a c := by
  refine ⟨k.os.trans h.os, k.tape.trans h.tape, k.output.trans h.output, Nat.le_trans h.size k.size, fun i hi hs => (k.block i (Nat.lt_of_lt_of_le hi h.size) hs).trans (h.block i hi hs), fun p hp => (k.fz p (Nat.lt_of_lt_of_le hp h.size)).trans (h.fz p hp), fun p hp => ?_, fun i hi => (k.shape i (Nat.lt_of_lt_of_le hi h.size)).trans (h.shape i hi)⟩
  by_cases hb : p.block < b.heap.size
  · rw [k.fz p hb]; exact h.new p hp
  · exact k.new p (by omega)
theorem Mod.sub {S T : Nat → Prop} {a b : World} (h : Mod S a b) (hs : ∀ i, S i → T i) : Mod T a b := ⟨h.os, h.tape, h.output, h.size, fun i hi ht => h.block i hi (fun hx => ht (hs i hx)), h.fz, h.new, h.shape⟩
theorem Mod.ext {S : Nat → Prop} {a b : World} (h : Mod S a b) (hs : ∀ i, S i → a.heap.size ≤ i) : Ext a b := ⟨h.os, h.tape, h.output, h.size, fun i hi => h.block i hi (fun hx => by have := hs i hx; omega), h.new⟩
/-- What is new since a may be changed without telling. -/
theorem Ext.trans_mod {S : Nat → Prop} {a b c : World} (h : Ext a b) (k : Mod S b c) (hs : ∀ i, S i → a.heap.size ≤ i) : Ext a c :=
  ((h.mod S).trans k).ext hs
theorem Mod.trans_ext {S : Nat → Prop} {a b c : World} (h : Mod S a b) (k : Ext b c) : Mod S a c := h.trans (k.mod S)
/-- A set that may grow by what is new. -/
theorem Mod.trans' {S T : Nat → Prop} {a b c : World} (h : Mod S a b) (k : Mod T b c) (hs : ∀ i, T i → S i ∨ a.heap.size ≤ i) : Mod S a c := by
  refine ⟨k.os.trans h.os, k.tape.trans h.tape, k.output.trans h.output, Nat.le_trans h.size k.size, fun i hi hn => ?_, fun p hp => (k.fz p (Nat.lt_of_lt_of_le hp h.size)).trans (h.fz p hp), fun p hp => ?_, fun i hi => (k.shape i (Nat.lt_of_lt_of_le hi h.size)).trans (h.shape i hi)⟩
  · refine (k.block i (Nat.lt_of_lt_of_le hi h.size) (fun ht => ?_)).trans (h.block i hi hn)
    rcases hs i ht with h1 | h1
    · exact hn h1
    · omega
  · by_cases hb : p.block < b.heap.size
    · rw [k.fz p hb]; exact h.new p hp
    · exact k.new p (by omega)
theorem Mod.setCell {S : Nat → Prop} {a w : World} (h : Mod S a w) {p : Addr} (hp : S p.block ∨ a.heap.size ≤ p.block) (u : Value) : Mod S a (w.setCell p u) := by
  refine ⟨h.os, h.tape, h.output, by simpa [World.setCell] using h.size, fun k hk hn => (Below.heap_setCell _ _ _ _ (fun e => ?_)).trans (h.block k hk hn), fun q hq => ?_, fun q hq => ?_, fun i hi => (shp_setCell _ _ _ _).trans (h.shape i hi)⟩
  · subst e
    rcases hp with h1 | h1
    · exact hn h1
    · omega
  · rw [World.frozen?_setCell]; exact h.fz q hq
  · rw [World.frozen?_setCell]; exact h.new q hq
theorem Mod.drew {S : Nat → Prop} {a w : World} (h : Mod S a w) : Mod S a w.drew := ⟨h.os, h.tape, h.output, h.size, h.block, h.fz, h.new, h.shape⟩
theorem Mod.drewN {S : Nat → Prop} {a w : World} (h : Mod S a w) (n : Nat) : Mod S a (w.drewN n) := ⟨h.os, h.tape, h.output, h.size, h.block, h.fz, h.new, h.shape⟩
theorem Mod.alloc {S : Nat → Prop} {a w : World} (h : Mod S a w) (c : Array Value) (t : TypeId) : Mod S a (w.alloc (.cells c t)) := h.trans_ext ((Ext.refl _).alloc c t)
theorem Upd.mod {g : Nat} {w w' : World} (h : Upd g w w') : Mod (· = g) w w' := ⟨h.os, h.tape, h.output, by rw [h.size]; exact Nat.le_refl _, fun i _ hn => h.block i hn, fun p _ => h.frozen p, fun p hp => by rw [h.frozen]; exact (Ext.refl w).new p hp, fun i _ => h.shape i⟩
theorem Mod.cell {S : Nat → Prop} {w w' : World} (h : Mod S w w') {p : Addr} (hp : p.block < w.heap.size) (hn : ¬ S p.block) : w'.cell? p = w.cell? p :=
  World.cell?_of_block (w := w) (h.block p.block hp hn)
end Go.Proofs.YgvahwGreat
