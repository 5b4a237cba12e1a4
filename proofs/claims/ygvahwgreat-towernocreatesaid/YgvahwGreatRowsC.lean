import Derived.Test.YgvahwGreatRowsB
import Derived.Test.YgvahwGreatMLa
namespace Go.Proofs.YgvahwGreat
open Go.RowKit

/-- The limbs of a word. -/
abbrev wvA (x : Nat) : Array Value := #[.int .u64 (lim x 0 : Nat), .int .u64 (lim x 1 : Nat), .int .u64 (lim x 2 : Nat), .int .u64 (lim x 3 : Nat)]
theorem under28 : Hvah.prog.underlying 33 = some (.array 32 5) := by kernel_rfl
theorem under27 : Hvah.prog.underlying 32 = some (.array 32 5) := by kernel_rfl
theorem rt66 : RowT 79 4 := ⟨⟨_, under66, rfl⟩, by kernel_rfl⟩
theorem rt25 : RowT 31 20 := ⟨⟨_, under25, rfl⟩, by kernel_rfl⟩
theorem rt27 : RowT 32 32 := ⟨⟨_, under27, rfl⟩, by kernel_rfl⟩
theorem rt28 : RowT 33 32 := ⟨⟨_, under28, rfl⟩, by kernel_rfl⟩
theorem row_new (w : World) (r : Array Value) (t : TypeId) : RowIn (w.alloc (.cells r t)) w.heap.size 0 r := fun i v hv => by
  have h : (w.alloc (.cells r t)).heap[w.heap.size]? = some (.cells r t (0, 0)) := heap_new _ _
  simp only [World.cell?, h, Nat.zero_add]
  exact hv
/-- Two boxes. -/
theorem boxes1 (w : World) (r : Array Value) (t : TypeId) (W : World) (h : Ext (w.alloc (.cells r t)) W) : RowIn W w.heap.size 0 r := (row_new w r t).ext (by simp) h
theorem boxes2 (w : World) (r s : Array Value) (t u : TypeId) (W : World) (h : Ext ((w.alloc (.cells r t)).alloc (.cells s u)) W) : RowIn W w.heap.size 0 r ∧ RowIn W (w.heap.size + 1) 0 s :=
  ⟨((row_new w r t).alloc (by simp) _).ext (by simp; omega) h, by
    have := (row_new (w.alloc (.cells r t)) s u).ext (by simp) h
    rwa [show (w.alloc (.cells r t)).heap.size = w.heap.size + 1 by simp] at this⟩
theorem ext2 (w : World) (r s : Array Value) (t u : TypeId) : Ext w ((w.alloc (.cells r t)).alloc (.cells s u)) := ((Ext.refl _).alloc _ _).alloc _ _

section
variable {ops : Array Oper} {rest : List Oper} {a : Act} {Q : Exit → Act → World → Prop} {w : World} {dst : Option Tmp} {ty : TypeId} {pos : String} {aft : Array Edge}
theorem wl_loadW {x : Operand} {b o n : Nat} (hx : a.eval x = .pointer (some ⟨b, o, none⟩)) (hr : RowIn w b o (wvA n))
    (h : wpList Hvah.prog ops Q rest (a.put dst (wv n)) w) : Veil (wpList Hvah.prog ops Q (⟨dst, .load 79 x, ty, pos, aft, none⟩ :: rest) a w) :=
  wl_loadR rt66 b o (wvA n) rfl hx hr h
end

set_option maxRecDepth 100000 in
set_option maxHeartbeats 2000000 in
theorem mReach_t (o n : Nat) (w : World) (ho : o < P256) (hn : n < P256) (hf1 : n ≤ 717280) (hf2 : o ≤ 717280 - n) (h0 : n ≠ 0) :
    Calls Hvah.prog 370 #[wv o, wv n] w fun e w' => e = .returned (.tuple #[.int .u64 (wordsA (o + n) : Nat), .bool true]) ∧ Ext w w' := by
  have HZ := fun W => uIsZero n W hn
  have HN := fun W => uU64 n W hn
  have HO := fun W => uU64 o W ho
  simp only [h0, decide_false] at HZ
  have ⟨q1, q2⟩ := fit64_yes (x := n) (by omega)
  have ⟨q3, q4⟩ := fit64_yes (x := o) (by omega)
  simp only [q1, q2] at HN
  simp only [q3, q4] at HO
  clear q1 q2 q3 q4
  have i2 : ¬ (717280 : Int) < n := by omega
  have i3 : ¬ (717280 - (n : Int)) < o := by omega
  have HW := fun W => mWords (o + n) (by omega) W
  unfold wordsA
  have hs : IntKind.u64.wrap ((o : Int) + n) = ((o + n : Nat) : Int) := by rw [IntKind.wrap_u64]; omega
  generalize (o + n + 31) / 32 = q at *
  have hsn : ((o : Int) + n) = ((o + n : Nat) : Int) := by omega
  generalize o + n = s at *
  have HB := boxes2 w (wvA o) (wvA n) 79 79
  have hE := Ext.refl ((w.alloc (.cells (wvA o) 79)).alloc (.cells (wvA n) 79))
  go_enter Hvah.func370, Hvah.ntmps370
  go_wp2_with (first | ((with_reducible (refine Veil.out ?_; apply wl_box)); (case hx => rfl)) | ((with_reducible (refine Veil.out ?_; apply wl_loadW)); (case hx => rfl); (case hr => first | (with_reducible exact (HB _ hE).1) | (with_reducible exact (HB _ hE).2))) | (go_at_call 87; refine (HZ _).mono ?_; rintro e w1 ⟨rfl, he⟩; replace hE := hE.trans he; clear he) | (go_at_call_of 309 (wv n); refine (HN _).mono ?_; rintro e w2 ⟨rfl, he⟩; replace hE := hE.trans he; clear he) | (go_at_call_of 309 (wv o); refine (HO _).mono ?_; rintro e w3 ⟨rfl, he⟩; replace hE := hE.trans he; clear he) | (go_at_call 176; refine (HW _).mono ?_; rintro e w4 ⟨rfl, rfl⟩))
  go_ret2
  exact ⟨rfl, (ext2 ..).trans hE⟩
end Go.Proofs.YgvahwGreat
