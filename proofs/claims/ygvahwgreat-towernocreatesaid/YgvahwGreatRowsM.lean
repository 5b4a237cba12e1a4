import Derived.Test.YgvahwGreatRowsL
import Derived.Test.YgvahwGreatMachI
namespace Go.Proofs.YgvahwGreat
open Go.RowKit
theorem WAt.rowIn {w : World} {b n o x : Nat} {t : TypeId} {c : Nat → Value} (h : WAt c o x) (hB : Blk w b n t c) (ho : o + 4 ≤ n) : RowIn w b o (wvA x) := fun i v hv => by
  match i, hv with
  | 0, hv => simp at hv; subst hv; rw [← h.c0]; exact hB.cell (by omega)
  | 1, hv => simp at hv; subst hv; rw [← h.c1]; exact hB.cell (by omega)
  | 2, hv => simp at hv; subst hv; rw [← h.c2]; exact hB.cell (by omega)
  | 3, hv => simp at hv; subst hv; rw [← h.c3]; exact hB.cell (by omega)
  | (i + 4), hv => simp at hv
theorem wat_cf (x : Nat) : WAt (cf (wvA x)) 0 x := ⟨rfl, rfl, rfl, rfl⟩
theorem WAt.lay (c : Nat → Value) (o x : Nat) : WAt (layv c o (wvA x)) o x := ⟨by have := layv_in c o (wvA x) (j := 0) (by simp); rw [Nat.add_zero] at this; rw [this]; rfl, by rw [layv_in c o (wvA x) (j := 1) (by simp)]; rfl, by rw [layv_in c o (wvA x) (j := 2) (by simp)]; rfl, by rw [layv_in c o (wvA x) (j := 3) (by simp)]; rfl⟩
theorem z66 : zeroOf Hvah.prog 79 = some #[.int .u64 0, .int .u64 0, .int .u64 0, .int .u64 0] := by kernel_rfl
theorem wat_z : WAt (cf #[.int .u64 0, .int .u64 0, .int .u64 0, .int .u64 0]) 0 0 := ⟨rfl, rfl, rfl, rfl⟩
theorem z25 : zeroOf Hvah.prog 31 = some (av 0) := by
  have h : zeroOf Hvah.prog 31 = some #[.int .u8 0, .int .u8 0, .int .u8 0, .int .u8 0, .int .u8 0, .int .u8 0, .int .u8 0, .int .u8 0, .int .u8 0, .int .u8 0, .int .u8 0, .int .u8 0, .int .u8 0, .int .u8 0, .int .u8 0, .int .u8 0, .int .u8 0, .int .u8 0, .int .u8 0, .int .u8 0] := by kernel_rfl
  rw [h]; congr 1
section
variable {ops : Array Oper} {rest : List Oper} {a : Act} {Q : Exit → Act → World → Prop} {w : World} {dst : Option Tmp} {ty : TypeId} {pos : String} {aft : Array Edge} {gd : Option (Nat × Bool)} {K : Act → World → Prop} {E : Prop} {ob : Oper}
/-- A word boxed. -/
theorem op_boxW {x : Operand} {n : Nat} (hop : ob.op = .box 79 x) (hx : a.eval x = wv n) (h : ∀ B W c, Ext w W → Blk W B 4 79 c → WAt c 0 n → w.heap.size ≤ B → K (a.put ob.dst (.pointer (some ⟨B, 0, none⟩))) W) : Oper.wp Hvah.prog ob a w K Q :=
  op_box (r := wvA n) hop hx rfl (fun B W h1 h2 h3 => h B W _ h1 h2 (wat_cf n) h3)
theorem wl_boxW {x : Operand} {n : Nat} (hx : a.eval x = wv n) (h : ∀ B W c, Ext w W → Blk W B 4 79 c → WAt c 0 n → w.heap.size ≤ B → wpList Hvah.prog ops Q rest (a.put dst (.pointer (some ⟨B, 0, none⟩))) W) : Veil (wpList Hvah.prog ops Q (⟨dst, .box 79 x, ty, pos, aft, none⟩ :: rest) a w) :=
  Veil.mk (wl_any rfl (op_boxW rfl hx h))
theorem op_allocW (hop : ob.op = .alloc 79) (h : ∀ B W c, Ext w W → Blk W B 4 79 c → WAt c 0 0 → w.heap.size ≤ B → K (a.put ob.dst (.pointer (some ⟨B, 0, none⟩))) W) : Oper.wp Hvah.prog ob a w K Q :=
  op_alloc hop z66 rfl (fun B W h1 h2 h3 => h B W _ h1 h2 wat_z h3)
set_option maxRecDepth 100000 in
theorem wl_allocW (h : ∀ B W c, Ext w W → Blk W B 4 79 c → WAt c 0 0 → w.heap.size ≤ B → wpList Hvah.prog ops Q rest (a.put dst (.pointer (some ⟨B, 0, none⟩))) W) : Veil (wpList Hvah.prog ops Q (⟨dst, .alloc 79, ty, pos, aft, none⟩ :: rest) a w) :=
  Veil.mk (wl_any rfl (op_allocW rfl h))
theorem op_loadWB {x : Operand} {tt : TypeId} {b i n y : Nat} {c : Nat → Value} (hop : ob.op = .load 79 x) (hx : a.eval x = .pointer (some ⟨b, i, none⟩)) (hB : Blk w b n tt c) (hW : WAt c i y) (hi : i + 4 ≤ n) (h : K (a.put ob.dst (wv y)) w) : Oper.wp Hvah.prog ob a w K Q := by
  obtain ⟨d, h1, h2⟩ := rt66.desc
  have hr := hW.rowIn hB hi
  exact wp_load_mid 79 x hop b i hx (wvA y).toList d (fun j v hv => hr j v (by simpa using hv)) h1 h2 (by rw [rt66.size]; rfl) h
theorem wl_loadWB {x : Operand} {tt : TypeId} {b i n y : Nat} {c : Nat → Value} (hx : a.eval x = .pointer (some ⟨b, i, none⟩)) (hB : Blk w b n tt c) (hW : WAt c i y) (hi : i + 4 ≤ n) (h : wpList Hvah.prog ops Q rest (a.put dst (wv y)) w) : Veil (wpList Hvah.prog ops Q (⟨dst, .load 79 x, ty, pos, aft, none⟩ :: rest) a w) :=
  Veil.mk (wl_any rfl (op_loadWB rfl hx hB hW hi h))
theorem wlG_loadWB {x : Operand} {tt : TypeId} {b i n y : Nat} {c : Nat → Value} (hw : Region.wanted ⟨dst, .load 79 x, ty, pos, aft, gd⟩ (yielded ops a.tmps) = true) (hx : a.eval x = .pointer (some ⟨b, i, none⟩)) (hB : Blk w b n tt c) (hW : WAt c i y) (hi : i + 4 ≤ n) (h : wpList Hvah.prog ops Q rest (a.put dst (wv y)) w) : Veil (wpList Hvah.prog ops Q (⟨dst, .load 79 x, ty, pos, aft, gd⟩ :: rest) a w) :=
  Veil.mk (wl_any hw (op_loadWB rfl hx hB hW hi h))
theorem op_storeWB {x y : Operand} {tt : TypeId} {b i n v : Nat} {c : Nat → Value} (hop : ob.op = .store 79 x y) (hx : a.eval x = .pointer (some ⟨b, i, none⟩)) (hy : a.eval y = wv v) (hB : Blk w b n tt c) (hi : i + 4 ≤ n) (h : ∀ W c', Blk W b n tt c' → WAt c' i v → (∀ j, j < i ∨ i + 4 ≤ j → c' j = c j) → Mod (· = b) w W → K (a.put ob.dst undef) W) : Oper.wp Hvah.prog ob a w K Q :=
  op_storeRow (r := wvA v) hop rt66 hx hy rfl (wvA_one v) hB hi (fun W h1 h2 => h W _ h1 (WAt.lay c i v) (fun _ hj => layv_out _ _ _ hj) h2)
theorem wl_storeWB {x y : Operand} {tt : TypeId} {b i n v : Nat} {c : Nat → Value} (hx : a.eval x = .pointer (some ⟨b, i, none⟩)) (hy : a.eval y = wv v) (hB : Blk w b n tt c) (hi : i + 4 ≤ n) (h : ∀ W c', Blk W b n tt c' → WAt c' i v → (∀ j, j < i ∨ i + 4 ≤ j → c' j = c j) → Mod (· = b) w W → wpList Hvah.prog ops Q rest (a.put dst undef) W) : Veil (wpList Hvah.prog ops Q (⟨dst, .store 79 x y, ty, pos, aft, none⟩ :: rest) a w) :=
  Veil.mk (wl_any rfl (op_storeWB rfl hx hy hB hi h))
/-- An address boxed. -/
theorem op_boxA {x : Operand} {n : Nat} (hop : ob.op = .box 31 x) (hx : a.eval x = .agg (av n)) (hn : n < 2 ^ 160) (h : ∀ B W c, Ext w W → Blk W B 20 31 c → AAt c 0 n → w.heap.size ≤ B → K (a.put ob.dst (.pointer (some ⟨B, 0, none⟩))) W) : Oper.wp Hvah.prog ob a w K Q :=
  op_box (r := av n) hop hx (av_size hn) (fun B W h1 h2 h3 => h B W _ h1 h2 aat_cf h3)
theorem wl_boxA {x : Operand} {n : Nat} (hx : a.eval x = .agg (av n)) (hn : n < 2 ^ 160) (h : ∀ B W c, Ext w W → Blk W B 20 31 c → AAt c 0 n → w.heap.size ≤ B → wpList Hvah.prog ops Q rest (a.put dst (.pointer (some ⟨B, 0, none⟩))) W) : Veil (wpList Hvah.prog ops Q (⟨dst, .box 31 x, ty, pos, aft, none⟩ :: rest) a w) :=
  Veil.mk (wl_any rfl (op_boxA rfl hx hn h))
theorem op_allocA (hop : ob.op = .alloc 31) (h : ∀ B W c, Ext w W → Blk W B 20 31 c → AAt c 0 0 → w.heap.size ≤ B → K (a.put ob.dst (.pointer (some ⟨B, 0, none⟩))) W) : Oper.wp Hvah.prog ob a w K Q :=
  op_alloc hop z25 (av_size (by decide)) (fun B W h1 h2 h3 => h B W _ h1 h2 aat_cf h3)
set_option maxRecDepth 100000 in
theorem wl_allocA (h : ∀ B W c, Ext w W → Blk W B 20 31 c → AAt c 0 0 → w.heap.size ≤ B → wpList Hvah.prog ops Q rest (a.put dst (.pointer (some ⟨B, 0, none⟩))) W) : Veil (wpList Hvah.prog ops Q (⟨dst, .alloc 31, ty, pos, aft, none⟩ :: rest) a w) :=
  Veil.mk (wl_any rfl (op_allocA rfl h))
theorem op_storeA {x y : Operand} {tt : TypeId} {b i n v : Nat} {c : Nat → Value} (hop : ob.op = .store 31 x y) (hx : a.eval x = .pointer (some ⟨b, i, none⟩)) (hy : a.eval y = .agg (av v)) (hv : v < 2 ^ 160) (hB : Blk w b n tt c) (hi : i + 20 ≤ n) (h : ∀ W c', Blk W b n tt c' → AAt c' i v → (∀ j, j < i ∨ i + 20 ≤ j → c' j = c j) → Mod (· = b) w W → K (a.put ob.dst undef) W) : Oper.wp Hvah.prog ob a w K Q :=
  op_storeRow (r := av v) hop rt25 hx hy (av_size hv) (av_one v) hB hi (fun W h1 h2 => h W _ h1 AAt.lay_in (fun j hj => layv_out _ _ _ (by rw [av_size hv]; exact hj)) h2)
theorem wl_storeA {x y : Operand} {tt : TypeId} {b i n v : Nat} {c : Nat → Value} (hx : a.eval x = .pointer (some ⟨b, i, none⟩)) (hy : a.eval y = .agg (av v)) (hv : v < 2 ^ 160) (hB : Blk w b n tt c) (hi : i + 20 ≤ n) (h : ∀ W c', Blk W b n tt c' → AAt c' i v → (∀ j, j < i ∨ i + 20 ≤ j → c' j = c j) → Mod (· = b) w W → wpList Hvah.prog ops Q rest (a.put dst undef) W) : Veil (wpList Hvah.prog ops Q (⟨dst, .store 31 x y, ty, pos, aft, none⟩ :: rest) a w) :=
  Veil.mk (wl_any rfl (op_storeA rfl hx hy hv hB hi h))
theorem op_loadAB {x : Operand} {tt : TypeId} {b i n y : Nat} {c : Nat → Value} (hop : ob.op = .load 31 x) (hx : a.eval x = .pointer (some ⟨b, i, none⟩)) (hB : Blk w b n tt c) (hA : AAt c i y) (hy : y < 2 ^ 160) (hi : i + 20 ≤ n) (h : K (a.put ob.dst (.agg (av y))) w) : Oper.wp Hvah.prog ob a w K Q := by
  obtain ⟨d, h1, h2⟩ := rt25.desc
  have hr := hA.row hy hB hi
  exact wp_load_mid 31 x hop b i hx (av y).toList d (fun j v hv => hr j v (by simpa using hv)) h1 h2 (by rw [rt25.size]; simp [av_size hy]) (by simpa using h)
end
/-- One result in a cell: an address. -/
theorem post_A {fn : Func} {R : Ending → World → Prop} {ac : Act} {w : World} {t : Tmp} {b n x : Nat} {tt : TypeId} {c : Nat → Value} (hf : fn.results = #[.cell t 31]) (ht : ac.tmps.getD t undef = .pointer (some ⟨b, 0, none⟩)) (hB : Blk w b n tt c) (hA : AAt c 0 x) (hx : x < 2 ^ 160) (hn : 20 ≤ n) (hdf : ac.defers = []) (h : R (.returned (.agg (av x))) w) : bodyPost Hvah.prog fn R .ret ac w :=
  post_row rt25 (av x) (av_size hx) hf ht (hA.row hx hB (by omega)) hdf h
theorem post_W {fn : Func} {R : Ending → World → Prop} {ac : Act} {w : World} {t : Tmp} {b n x : Nat} {tt : TypeId} {c : Nat → Value} (hf : fn.results = #[.cell t 79]) (ht : ac.tmps.getD t undef = .pointer (some ⟨b, 0, none⟩)) (hB : Blk w b n tt c) (hW : WAt c 0 x) (hn : 4 ≤ n) (hdf : ac.defers = []) (h : R (.returned (wv x)) w) : bodyPost Hvah.prog fn R .ret ac w :=
  post_row rt66 (wvA x) rfl hf ht (hW.rowIn hB (by omega)) hdf h
end Go.Proofs.YgvahwGreat
