import Derived.Test.YgvahwGreatDo
import Derived.Test.YgvahwGreatDq
import Derived.Test.YgvahwGreatDqs
namespace Go.Proofs.YgvahwGreat
open Go.RowKit
set_option linter.unusedSimpArgs false

theorem post_rr {fn : Func} {R : Ending → World → Prop} {ac : Act} {w : World} {t u : Tmp} {ty1 ty2 : TypeId} {n1 n2 b b2 : Nat} (rt : RowT ty1 n1) (rt' : RowT ty2 n2) (r r2 : Array Value) (hn : r.size = n1) (hn2 : r2.size = n2) (hf : fn.results = #[.cell t ty1, .cell u ty2]) (ht : ac.tmps.getD t undef = .pointer (some ⟨b, 0, none⟩)) (hu : ac.tmps.getD u undef = .pointer (some ⟨b2, 0, none⟩)) (hr : RowIn w b 0 r) (hr2 : RowIn w b2 0 r2) (hdf : ac.defers = [])
    (h : R (.returned (.tuple #[.agg r, .agg r2])) w) : bodyPost Hvah.prog fn R .ret ac w := by
  refine bodyPost_ret (v := .tuple #[.agg r, .agg r2]) ?_ hdf h
  obtain ⟨d, h1, h2⟩ := rt.desc
  obtain ⟨d', h1', h2'⟩ := rt'.desc
  have r1 := run_loadVar_mid (P := Hvah.prog) w b 0 ty1 r.toList d (fun j v hv => hr j v (by simpa using hv)) h1 h2 (by rw [rt.size]; simp [hn])
  have r1' := run_loadVar_mid (P := Hvah.prog) w b2 0 ty2 r2.toList d' (fun j v hv => hr2 j v (by simpa using hv)) h1' h2' (by rw [rt'.size]; simp [hn2])
  rw [Array.getD_eq_getD_getElem?] at ht hu
  simp [results, hf, ht, hu, asAddr, r1, r1', Result.andThen]
theorem yields_row {ops : Array Oper} {a : Act} {S : World → Prop} {o : Oper} {x : Operand} {t tt : TypeId} {b i n m : Nat} {c : Nat → Value} (rt : RowT t m) (hw : Region.wanted o (yielded ops a.tmps) = true) (hop : o.op = .load t x) (hx : a.eval x = .pointer (some ⟨b, i, none⟩)) (hB : ∀ w, S w → Blk w b n tt c) (hi : i + m ≤ n) : YieldsIf Hvah.prog ops S o (.agg (rowOf c i m)) a := by
  obtain ⟨d, h1, h2⟩ := rt.desc
  have := yieldsIf_load_mid (S := S) hw t x hop b i hx (rowOf c i m).toList d (fun w h => (hB w h).rng hi) h1 h2 (by rw [rt.size]; simp [rowOf_size])
  simpa using this
/-- A list of limbs as cells. -/
def lf (l : List Nat) : Nat → Value := fun i => .int .u64 (l.getD i 0 : Nat)
theorem UB.toB {w : World} {g n : Nat} {t : TypeId} {l : List Nat} (h : UB w g t l) (hn : l.length = n) : Blk w g n t (lf l) := by
  refine ⟨_, h, by simp [ucells, hn], fun i hi => ?_⟩
  simp [ucells, lf, List.getD_eq_getElem?_getD, show i < l.length by omega]
theorem Blk.toUB {w : World} {g n : Nat} {t : TypeId} {c : Nat → Value} (h : Blk w g n t c) {l : List Nat} (hn : l.length = n) (hc : ∀ i, i < n → c i = .int .u64 (l.getD i 0 : Nat)) : UB w g t l := by
  obtain ⟨arr, h1, h2, h3⟩ := h
  have : arr = (ucells l).toArray := by
    apply Array.ext_getElem?
    intro i
    by_cases hi : i < n
    · rw [h3 i hi, hc i hi]; simp [ucells, List.getD_eq_getElem?_getD, show i < l.length by omega]
    · rw [Array.getElem?_eq_none (by omega), Array.getElem?_eq_none (by simp [ucells]; omega)]
  rw [this] at h1
  exact h1
theorem rowOf_lf (l : List Nat) (n : Nat) (hn : n ≤ l.length) : rowOf (lf l) 0 n = (ucells (l.take n)).toArray := by
  unfold rowOf ucells
  congr 1
  apply List.ext_getElem?
  intro i
  simp only [List.getElem?_map, Nat.zero_add]
  by_cases hi : i < n
  · simp [List.getElem?_range hi, lf, hi, List.getD_eq_getElem?_getD, show i < l.length by omega]
  · rw [List.getElem?_eq_none (by simp; omega), List.getElem?_eq_none (by simp; omega)]; rfl
theorem ones_lf (l : List Nat) (o n : Nat) : Ones (rowOf (lf l) o n) := ones_of (fun q hq => by rw [rowOf_size] at hq; rw [cf_rowOf _ _ _ hq]; rfl)
theorem lf_rep (n i : Nat) : lf (List.replicate n 0) i = .int .u64 0 := by
  unfold lf
  rw [List.getD_eq_getElem?_getD, List.getElem?_replicate]
  split <;> rfl
theorem lay_self (c : Nat → Value) (n i : Nat) : layv c 0 (rowOf c 0 n) i = c i := by
  unfold layv
  split
  · rename_i h
    rw [rowOf_size] at h
    rw [show (rowOf c 0 n).getD (i - 0) undef = cf (rowOf c 0 n) i from rfl, cf_rowOf _ _ _ (by omega), Nat.zero_add]
  · rfl
theorem Blk.laySelf {w : World} {g n : Nat} {t : TypeId} {c : Nat → Value} {m : Nat} (h : Blk w g n t (layv c 0 (rowOf c 0 m))) : Blk w g n t c := h.same (fun i _ => (lay_self c m i).symm)
theorem ones_c64 : Ones (rowOf (fun _ => Value.int .u64 0) 0 8) := ones_of (fun q hq => by rw [rowOf_size] at hq; rw [cf_rowOf _ _ _ hq]; rfl)
theorem ones_c8 : Ones (rowOf (fun _ => Value.int .u8 0) 0 3) := ones_of (fun q hq => by rw [rowOf_size] at hq; rw [cf_rowOf _ _ _ hq]; rfl)
theorem ones_u64 (r : Nat) : Ones (rowOf (updv (fun _ => Value.int .u64 0) 0 (.int .u64 (r : Nat))) 0 8) := ones_of (fun q hq => by rw [rowOf_size] at hq; rw [cf_rowOf _ _ _ hq, Nat.zero_add]; unfold updv; split <;> rfl)
theorem ones_u8 (r : Nat) : Ones (rowOf (updv (fun _ => Value.int .u8 0) 0 (.int .u8 (r : Nat))) 0 3) := ones_of (fun q hq => by rw [rowOf_size] at hq; rw [cf_rowOf _ _ _ hq, Nat.zero_add]; unfold updv; split <;> rfl)
theorem under337d : Hvah.prog.underlying 345 = some (.array 8 24) := by kernel_rfl
theorem z337d : ∃ i, Hvah.prog.info? 345 = some i ∧ i.zero = some (.agg (Array.replicate 8 (.int .u64 0))) := ⟨Hvah.t345, by kernel_rfl, by kernel_rfl⟩
theorem z408 : ∃ i, Hvah.prog.info? 416 = some i ∧ i.zero = some (.agg (Array.replicate 3 (.int .u8 0))) := ⟨Hvah.t416, by kernel_rfl, by kernel_rfl⟩
theorem z448 : ∃ i, Hvah.prog.info? 456 = some i ∧ i.zero = some (.agg (Array.replicate 17 (.int .u64 0))) := ⟨Hvah.t456, by kernel_rfl, by kernel_rfl⟩
theorem rt337d : RowT 345 8 := rowT_of (by kernel_rfl) (by kernel_rfl)
theorem rt408 : RowT 416 3 := rowT_of (by kernel_rfl) (by kernel_rfl)
theorem onet5k : OneT 5 := oneT_of (by kernel_rfl) (by kernel_rfl)
/-- Limbs in use. -/
theorem top_of (l : List Nat) : ∃ t, t ≤ l.length ∧ (∀ i, t ≤ i → i < l.length → l.getD i 0 = 0) ∧ (0 < t → l.getD (t - 1) 0 ≠ 0) := by
  suffices H : ∀ k, k ≤ l.length → (∀ i, k ≤ i → i < l.length → l.getD i 0 = 0) → ∃ t, t ≤ l.length ∧ (∀ i, t ≤ i → i < l.length → l.getD i 0 = 0) ∧ (0 < t → l.getD (t - 1) 0 ≠ 0) from H l.length (Nat.le_refl _) (fun i h1 h2 => absurd h2 (by omega))
  intro k
  induction k with
  | zero => intro hk h; exact ⟨0, hk, h, fun q => absurd q (by omega)⟩
  | succ k ih =>
    intro hk h
    by_cases h0 : l.getD k 0 = 0
    · refine ih (by omega) (fun i h1 h2 => ?_)
      by_cases e : i = k
      · rw [e]; exact h0
      · exact h i (by omega) h2
    · exact ⟨k + 1, hk, h, fun _ => by simpa using h0⟩
end Go.Proofs.YgvahwGreat
