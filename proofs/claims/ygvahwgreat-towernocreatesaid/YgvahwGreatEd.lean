import Derived.Test.YgvahwGreatEc
import Derived.Test.YgvahwGreatPa
import Derived.Test.YgvahwGreatPd
import Derived.Test.YgvahwGreatDr
namespace Go.Proofs.YgvahwGreat
open Go.RowKit
set_option linter.unusedSimpArgs false

theorem b66_1 (x : Nat) : ∀ w, (Instr.build 79 ([(0, .int .u64 (x : Int))] : List (Nat × Value)).toArray).run Hvah.prog w = .ok (.agg #[.int .u64 (x : Int), .int .u64 0, .int .u64 0, .int .u64 0]) w := fun w => by kernel_rfl
theorem post_tW {fn : Func} {R : Ending → World → Prop} {ac : Act} {w : World} {t u : Tmp} {b n x : Nat} {tt : TypeId} {c : Nat → Value} {v : Value} (hf : fn.results = #[.tmp t, .cell u 79]) (ht : ac.tmps.getD t undef = v) (hu : ac.tmps.getD u undef = .pointer (some ⟨b, 0, none⟩)) (hB : Blk w b n tt c) (hW : WAt c 0 x) (hn : 4 ≤ n) (hdf : ac.defers = []) (h : R (.returned (.tuple #[v, wv x])) w) : bodyPost Hvah.prog fn R .ret ac w := by
  refine bodyPost_ret (v := .tuple #[v, wv x]) ?_ hdf h
  obtain ⟨d, h1, h2⟩ := rt66.desc
  have hr := hW.rowIn hB (by omega)
  have r1 := run_loadVar_mid (P := Hvah.prog) w b 0 79 (wvA x).toList d (fun j v hv => hr j v (by simpa using hv)) h1 h2 (by rw [rt66.size]; rfl)
  rw [Array.getD_eq_getD_getElem?] at ht hu
  simp [results, hf, ht, hu, asAddr, r1, Result.andThen, wv]
theorem ones5 {c : Nat → Value} {x : Nat} (h : WAt c 0 x) : Ones (rowOf c 0 4) := ones_of (fun q hq => by
  rw [rowOf_size] at hq
  rw [cf_rowOf _ _ _ hq, Nat.zero_add, WAt.at_ h hq]; rfl)
theorem cast_row {ops : Array Oper} {a : Act} {S : World → Prop} {o : Oper} {x : Operand} {t tt : TypeId} {b m : Nat} {r : Array Value} (rt : RowT t m) (hw : Region.wanted o (yielded ops a.tmps) = true) (hop : o.op = .load t x) (hx : a.eval x = .pointer (some ⟨b, 0, none⟩)) (hB : ∀ w, S w → Blk w b m tt (cf r)) (hs : r.size = m) : YieldsIf Hvah.prog ops S o (.agg r) a := by
  have := yieldsR rt hw hop hx hB (by omega : 0 + m ≤ m)
  rwa [rowOf_cf hs] at this
theorem onet60v : OneT 73 := oneT_of (by kernel_rfl) (by kernel_rfl)
theorem rt35v : RowT 40 174 := rowT_of (by kernel_rfl) (by kernel_rfl)
/-- What the verdict needs, as letters. -/
structure VIn (own : Nat → Nat) (w : World) (g : Nat) (c : Nat → Value) (r : Array Value) (a tn gas dl intr gl most tip base val bal nn cl : Nat) (cr lk : Bool) : Prop where
  ptr : c 0 = .pointer (some ⟨g, 2435, none⟩)
  blk : Blk w g 27024 105 c
  phase : c 2404 = .int .u8 0
  applied : ∃ k : Nat, k < 4 ∧ c 2406 = .int .u8 (k : Nat)
  gasLimit : c 2282 = .int .u64 (gl : Nat)
  hbase : BAt c 2347 base
  bLt : base < P256
  sz : r.size = 174
  from_ : AAt (cf r) 0 a
  aLt : a < 2 ^ 160
  create : cf r 40 = .bool cr
  nonce : cf r 41 = .int .u64 (tn : Nat)
  hgas : cf r 42 = .int .u64 (gas : Nat)
  gLt : gas < 18446744073709551616
  data : ∃ o cap, cf r 107 = .slice o dl cap ∧ dl ≤ cap ∧ cap ≤ 9223372036854775807
  value : BAt (cf r) 75 val
  vLt : val < P256
  mLt : most < P256
  tLt : tip < P256
  balLt : bal < P256
  HL : ∀ W, Ext w W → ∀ B, Blk W B 174 40 (cf r) → Calls Hvah.prog 131 #[.pointer (some ⟨B, 0, none⟩)] W fun x w' => x = .returned (.bool lk) ∧ Ext W w'
  HN : ∀ W, Ext w W → Calls Hvah.prog 170 #[.pointer (some ⟨g, 2435, none⟩), .agg (av a)] W fun e w' => e = .returned (.int .u64 (nn : Nat)) ∧ Ext W w'
  HC : ∀ W, Ext w W → Calls Hvah.prog 112 #[.pointer (some ⟨g, 2435, none⟩), .agg (av a)] W fun e w' => ∃ o cap, e = .returned (.slice o cl cap) ∧ cl ≤ 9223372036854775807 ∧ Ext W w'
  HI : dl ≤ 1024 → lk = true → ∀ W, Ext w W → Calls Hvah.prog 103 #[.agg r] W fun x w' => x = .returned (.int .u64 (intr : Nat)) ∧ Ext W w'
  HF : ∀ W, Ext w W → Calls Hvah.prog 171 #[.agg r] W fun e w' => e = .returned (.tuple #[wv most, wv tip]) ∧ Ext W w'
  HB : ∀ W, Ext w W → Calls Hvah.prog 108 #[.pointer (some ⟨g, 2435, none⟩), .agg (av a)] W fun e w' => e = .returned (wv bal) ∧ Ext W w'
end Go.Proofs.YgvahwGreat
