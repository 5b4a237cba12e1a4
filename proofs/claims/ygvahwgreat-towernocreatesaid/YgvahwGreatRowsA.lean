import Derived.Test.YgvahwGreatBlk
import Derived.Test.YgvahwGreatAbs
import Derived.ChangeKeysEq
import Derived.StillTail
import Derived.StillTactics
import Derived.Deep.MidRow
namespace Go.Proofs.YgvahwGreat
open Go.RowKit

theorem hmix : Hvah.prog.follows .mixedOrders = true := by kernel_rfl
theorem under5 : Hvah.prog.underlying 5 = some (.int .u8) := by kernel_rfl
theorem cells5 : Hvah.prog.cellsOf 5 = 1 := by kernel_rfl
theorem run_part_u8 (w : World) (l : List Nat) (i : Nat) (hi : i < l.length) : (part 5 (bcells l).toArray i).run Hvah.prog w = .ok (.int .u8 (l[i] : Nat)) w := by
  simp [part, isAgg, run_underlying under5, bcells, hi]
theorem run_eqItems_u8 (w : World) (d : Nat) (l m : List Nat) : ∀ is : List Nat, (∀ i ∈ is, i < l.length ∧ i < m.length) →
    (Op.eqItems (d + 1) 5 1 (bcells l).toArray (bcells m).toArray is).run Hvah.prog w = .ok (is.all fun i => l.getD i 0 == m.getD i 0) w
  | [], _ => by simp [Op.eqItems]
  | i :: is, h => by
    have hi := h i (by simp)
    have hq := run_equalIn_int (P := Hvah.prog) w d 5 .u8 .u8 (l[i]'hi.1 : Nat) (m[i]'hi.2 : Nat) under5
    have ih := run_eqItems_u8 w d l m is (fun j hj => h j (by simp [hj]))
    have e1 : l.getD i 0 = l[i]'hi.1 := by simp [hi.1]
    have e2 : m.getD i 0 = m[i]'hi.2 := by simp [hi.2]
    simp only [Op.eqItems, Nat.mul_one, Sem.run_bind, run_part_u8 w l i hi.1, run_part_u8 w m i hi.2, Result.andThen_ok, hq, List.all_cons, e1, e2]
    by_cases he : l[i]'hi.1 = m[i]'hi.2
    · have : (((l[i]'hi.1 : Nat) : Int) == ((m[i]'hi.2 : Nat) : Int)) = true := by simp [he]
      rw [this]
      simp only [Bool.not_true, Bool.false_eq_true, if_false, he, BEq.rfl, Bool.true_and]
      exact ih
    · have h1 : (((l[i]'hi.1 : Nat) : Int) == ((m[i]'hi.2 : Nat) : Int)) = false := by simp; omega
      have h2 : (l[i]'hi.1 == m[i]'hi.2) = false := by simp [he]
      rw [h1, h2]; simp
theorem all_range_eq (l m : List Nat) (n : Nat) (hl : l.length = n) (hm : m.length = n) : ((List.range n).all fun i => l.getD i 0 == m.getD i 0) = decide (l = m) := by
  rw [Bool.eq_iff_iff, List.all_eq_true, decide_eq_true_iff]
  constructor
  · intro h
    apply List.ext_getElem (by omega)
    intro i h1 h2
    have := h i (by simp; omega)
    simpa [h1, h2] using this
  · rintro rfl i _
    simp
/-- Two rows of bytes compared. -/
theorem run_eq_bytes (w : World) (t : TypeId) (n d : Nat) (l m : List Nat) (ht : Hvah.prog.underlying t = some (.array n 5)) (hl : l.length = n) (hm : m.length = n) :
    (Op.equalIn (d + 2) t (.agg (bcells l).toArray) (.agg (bcells m).toArray)).run Hvah.prog w = .ok (decide (l = m)) w := by
  rw [run_equalIn_array w (d + 1) _ _ ht u8info, cells5, run_eqItems_u8 w d l m _ (fun i hi => by simp at hi; omega), all_range_eq l m n hl hm]

theorem under26 : Hvah.prog.underlying 24 = some (.int .u64) := by kernel_rfl
theorem under66 : Hvah.prog.underlying 79 = some (.array 4 24) := by kernel_rfl
theorem cells26 : Hvah.prog.cellsOf 24 = 1 := by kernel_rfl
theorem info26 : Hvah.prog.info? 24 = some Hvah.t24 := by kernel_rfl
theorem run_part_u64 (w : World) (l : List Nat) (i : Nat) (hi : i < l.length) : (part 24 (ucells l).toArray i).run Hvah.prog w = .ok (.int .u64 (l[i] : Nat)) w := by
  simp [part, isAgg, run_underlying under26, ucells, hi]
theorem run_eqItems_u64 (w : World) (d : Nat) (l m : List Nat) : ∀ is : List Nat, (∀ i ∈ is, i < l.length ∧ i < m.length) →
    (Op.eqItems (d + 1) 24 1 (ucells l).toArray (ucells m).toArray is).run Hvah.prog w = .ok (is.all fun i => l.getD i 0 == m.getD i 0) w
  | [], _ => by simp [Op.eqItems]
  | i :: is, h => by
    have hi := h i (by simp)
    have hq := run_equalIn_int (P := Hvah.prog) w d 24 .u64 .u64 (l[i]'hi.1 : Nat) (m[i]'hi.2 : Nat) under26
    have ih := run_eqItems_u64 w d l m is (fun j hj => h j (by simp [hj]))
    have e1 : l.getD i 0 = l[i]'hi.1 := by simp [hi.1]
    have e2 : m.getD i 0 = m[i]'hi.2 := by simp [hi.2]
    simp only [Op.eqItems, Nat.mul_one, Sem.run_bind, run_part_u64 w l i hi.1, run_part_u64 w m i hi.2, Result.andThen_ok, hq, List.all_cons, e1, e2]
    by_cases he : l[i]'hi.1 = m[i]'hi.2
    · have : (((l[i]'hi.1 : Nat) : Int) == ((m[i]'hi.2 : Nat) : Int)) = true := by simp [he]
      rw [this]
      simp only [Bool.not_true, Bool.false_eq_true, if_false, he, BEq.rfl, Bool.true_and]
      exact ih
    · have h1 : (((l[i]'hi.1 : Nat) : Int) == ((m[i]'hi.2 : Nat) : Int)) = false := by simp; omega
      have h2 : (l[i]'hi.1 == m[i]'hi.2) = false := by simp [he]
      rw [h1, h2]; simp
theorem lim_inj {x y : Nat} (hx : x < P256) (hy : y < P256) (h0 : lim x 0 = lim y 0) (h1 : lim x 1 = lim y 1) (h2 : lim x 2 = lim y 2) (h3 : lim x 3 = lim y 3) : x = y := by
  rw [← W4_lim x hx, ← W4_lim y hy, h0, h1, h2, h3]
/-- Two words compared. -/
theorem run_eq_wv (w : World) (x y : Nat) (hx : x < P256) (hy : y < P256) : (Op.equalIn 10000 79 (wv x) (wv y)).run Hvah.prog w = .ok (decide (x = y)) w := by
  have e : ∀ z : Nat, wv z = .agg (ucells [lim z 0, lim z 1, lim z 2, lim z 3]).toArray := fun z => rfl
  rw [e x, e y, run_equalIn_array w 9999 _ _ under66 info26, cells26, run_eqItems_u64 w 9998 _ _ _ (fun i hi => by simpa using hi), all_range_eq _ _ 4 rfl rfl]
  congr 1
  rw [Bool.eq_iff_iff, decide_eq_true_iff, decide_eq_true_iff]
  constructor
  · intro h
    simp only [List.cons.injEq, and_true] at h
    exact lim_inj hx hy h.1 h.2.1 h.2.2.1 h.2.2.2
  · rintro rfl; rfl

/-- An address as the machine's row of 20 bytes. -/
def av (a : Nat) : Array Value := (bcells (beL 20 a)).toArray
/-- A word as the row of 32 bytes. -/
def bw (x : Nat) : Array Value := (bcells (beL 32 x)).toArray
theorem dl20 {a : Nat} (h : a < 2 ^ 160) : (digs a).length ≤ 20 := (dl_le_iff a 20).2 h
theorem len20 {a : Nat} (h : a < 2 ^ 160) : (beL 20 a).length = 20 := beL_length 20 a (dl20 h)
theorem dl32 {a : Nat} (h : a < P256) : (digs a).length ≤ 32 := (dl_le_iff a 32).2 (by rw [P256_eq] at h; exact h)
theorem len32 {a : Nat} (h : a < P256) : (beL 32 a).length = 32 := beL_length 32 a (dl32 h)
theorem beL_inj {n a b : Nat} (h : beL n a = beL n b) : a = b := by rw [← bev_beL n a, ← bev_beL n b, h]
theorem under25 : Hvah.prog.underlying 31 = some (.array 20 5) := by kernel_rfl
theorem run_eq_av (w : World) (a b : Nat) (ha : a < 2 ^ 160) (hb : b < 2 ^ 160) : (Op.equalIn 10000 31 (.agg (av a)) (.agg (av b))).run Hvah.prog w = .ok (decide (a = b)) w := by
  have := run_eq_bytes w 31 20 9998 (beL 20 a) (beL 20 b) under25 (len20 ha) (len20 hb)
  rw [show decide (a = b) = decide (beL 20 a = beL 20 b) by
    rw [Bool.eq_iff_iff, decide_eq_true_iff, decide_eq_true_iff]
    exact ⟨fun h => by rw [h], beL_inj⟩]
  exact this
/-- The cells of a row in a world. -/
def RowIn (w : World) (b o : Nat) (r : Array Value) : Prop := ∀ (i : Nat) (v : Value), r[i]? = some v → w.cell? ⟨b, o + i, none⟩ = some v
theorem size25 : (Hvah.prog.info? 31).map (·.size) = some 20 := by kernel_rfl
theorem run_load_av {w : World} {b o a : Nat} (ha : a < 2 ^ 160) (h : RowIn w b o (av a)) : (loadVar 31 ⟨b, o, none⟩).run Hvah.prog w = .ok (.agg (av a)) w := by
  refine run_loadVar_mid w b o 31 (bcells (beL 20 a)) (.array 20 5) ?_ under25 rfl (by rw [size25, bcells_length, len20 ha])
  intro j v hv
  exact h j v (by simpa [av] using hv)
section
variable {ops : Array Oper} {rest : List Oper} {a : Act} {Q : Exit → Act → World → Prop} {w : World} {dst : Option Tmp} {ty : TypeId} {pos : String} {aft : Array Edge}
theorem wl_load_av {x : Operand} (b o n : Nat) (hn : n < 2 ^ 160) (hx : a.eval x = .pointer (some ⟨b, o, none⟩)) (hr : RowIn w b o (av n))
    (h : wpList Hvah.prog ops Q rest (a.put dst (.agg (av n))) w) : Veil (wpList Hvah.prog ops Q (⟨dst, .load 31 x, ty, pos, aft, none⟩ :: rest) a w) :=
  Veil.mk (wpList_load_mid rfl 31 x rfl b o hx (bcells (beL 20 n)) (.array 20 5) (fun j v hv => hr j v (by simpa [av] using hv)) under25 rfl (by rw [size25, bcells_length, len20 hn]) h)
/-- A region that draws its order and only reads. -/
theorem rg_still {id : Nat} {l : List Oper} (hB : Region.lexB .any l.toArray = true) (h : ∀ W, Ext w W → (∀ p, W.cell? p = w.cell? p) → wpStill Hvah.prog l.toArray W (fun a' => Q .normal a' W) l a) : (Code.region id l.toArray true).wp Hvah.prog Q a w :=
  wp_region_still_lit hmix hB (h _ ((Ext.refl w).drew) (fun _ => rfl))
/-- .. in a region that only reads. -/
theorem st_load_av {K : Act → Prop} {op : Oper} {x : Operand} (b o n : Nat) (hn : n < 2 ^ 160) (hr : RowIn w b o (av n)) (ho : op.op = .load 31 x) (hw : Region.wanted op (yielded ops a.tmps) = true) (hx : a.eval x = .pointer (some ⟨b, o, none⟩))
    (h : K (a.put op.dst (.agg (av n)))) : if Region.wanted op (yielded ops a.tmps) then op.still Hvah.prog a w K else K (a.put op.dst undef) := by
  rw [if_pos hw]
  unfold Oper.still execOp
  simp only [ho, hx, Instr.loadAt, Instr.sureAddr, Sem.run_bind, Sem.run_pure, Result.andThen_ok, run_load_av hn hr]
  exact ⟨rfl, h⟩
end
end Go.Proofs.YgvahwGreat
