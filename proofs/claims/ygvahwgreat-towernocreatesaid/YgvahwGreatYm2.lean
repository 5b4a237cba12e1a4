import Derived.Test.YgvahwGreatYm1
import Derived.Test.YgvahwGreatYF
import Derived.Test.YgvahwGreatKc
import Derived.Test.YgvahwGreatRowsK
import Derived.Test.YgvahwGreatRowsN
import Derived.Test.YgvahwGreatArity
import Derived.Test.YgvahwGreatTb
import Derived.Test.YgvahwGreatTc
import Derived.Test.YgvahwGreatTk
namespace Go.Proofs.YgvahwGreat
open Go.RowKit
/-- The value that a call sends. -/
def callV (f : AFrame) (o : Nat) : Nat := if o = 241 ∨ o = 242 then f.arg 2 else 0
/-- The gas that it gives. -/
def callG (f : AFrame) (o : Nat) : Nat := sentA f.gas (f.arg 0) + (if callV f o ≠ 0 then 2300 else 0)
/-- The caller while it waits. -/
def callP (f : AFrame) (o : Nat) : AFrame := { f with gas := f.gas - sentA f.gas (f.arg 0), stack := f.stack.drop (takesA o), outOff := if f.arg (takesA o - 4 + 3) = 0 then 0 else f.arg (takesA o - 4 + 2), outLen := f.arg (takesA o - 4 + 3) }
/-- The called frame. -/
def callC (now : AW) (f : AFrame) (o : Nat) (cd : List Nat) : AFrame :=
  { kind := if o = 241 then 2 else if o = 242 then 7 else if o = 244 then 3 else 4, pre := preA (addrA (f.arg 1)), static := f.static || o == 250, pc := 0, gas := callG f o, value := if o = 244 then f.value else callV f o, outOff := 0, outLen := 0, stack := [], mem := [], code := if preA (addrA (f.arg 1)) = 0 then cd else [], input := readA f.mem (f.arg (takesA o - 4)) (f.arg (takesA o - 4 + 1)), self := if o = 242 ∨ o = 244 then f.self else addrA (f.arg 1), caller := if o = 244 then f.caller else f.self, saved := now }
theorem z25m : zeroOf Hvah.prog 31 = some (av 0) := by kernel_rfl
theorem onet4m : OneT 4 := oneT_of (by kernel_rfl) (by kernel_rfl)
theorem onet5m : OneT 5 := oneT_of (by kernel_rfl) (by kernel_rfl)
theorem onet96m : OneT 109 := oneT_of (by kernel_rfl) (by kernel_rfl)
theorem onet32m : OneT 23 := oneT_of (by kernel_rfl) (by kernel_rfl)
theorem onet101m : OneT 114 := oneT_of (by kernel_rfl) (by kernel_rfl)
theorem rt147m : RowT 156 60 := rowT_of (by kernel_rfl) (by kernel_rfl)
theorem Mod.anew {S : Nat → Prop} {w W W' : World} {R : Nat} (h : Mod S w W) (m : Mod (· = R) W W') (g : w.heap.size ≤ R) : Mod S w W' := h.trans' m (fun i hi => by have hi2 : i = R := hi; rw [hi2]; exact Or.inr g)
theorem post_voidm {fn : Func} {R : Ending → World → Prop} {ac : Act} {w : World} (hf : fn.results = #[]) (hdf : ac.defers = []) (h : R (.returned (.tuple #[])) w) : bodyPost Hvah.prog fn R .ret ac w :=
  bodyPost_ret (v := .tuple #[]) (by simp [results, hf]) hdf h
theorem joinMb {P Fc : Nat → World → Value → Prop} {G : Prop} (h : (∀ B W u, Fc B W u → P B W u) → G) (k : ∀ B W u, Fc B W u → P B W u) : G := h k
theorem Small.wdm {O : Nat → Prop} {w w' : World} {B n : Nat} {t : TypeId} {c : Nat → Value} (h : Small O w) (e : Ext w w') (hB : Blk w' B n t c) : Small (Wd O B) w' := fun b hb => by
  rcases hb with hb | hb
  · exact Nat.lt_of_lt_of_le (h b hb) e.size
  · rw [hb]; exact hB.lt
theorem nv_nil0 {O : Nat → Prop} {w : World} : NV O w (.slice none 0 0) 0 := ⟨[], ⟨none, 0, rfl, Nat.le_refl _, by decide, ⟨fun x hx => by simp at hx, fun q => absurd rfl q⟩⟩, rfl⟩
/-- The frame that a call builds first. -/
def b147r (P : Program) (a s : Nat) (b : Bool) (u : Value) : Array Value := bltOf P 156 ([(0, .int .u8 2), (2, .bool b), (5, u), (12, .agg (av a)), (13, .agg (av s))] : List (Nat × Value))
theorem b147R {a s : Nat} (ha : a < 2 ^ 160) (hs : s < 2 ^ 160) {b : Bool} {u : Value} (hu : u.oneCell' = true) : (∀ w, (Instr.build 156 ([(0, .int .u8 2), (2, .bool b), (5, u), (12, .agg (av a)), (13, .agg (av s))] : List (Nat × Value)).toArray).run Hvah.prog w = .ok (.agg (b147r Hvah.prog a s b u)) w) ∧ (b147r Hvah.prog a s b u).size = 60 ∧ Ones (b147r Hvah.prog a s b u) ∧
    ∀ (O TM : Nat → Prop) (w : World) (x : Nat) (sv : AW), NV O w u x → YFC O TM w (cf (b147r Hvah.prog a s b u)) 0 { fr0 with kind := 2, static := b, value := x, self := a, caller := s, saved := sv } := by
  have e : b147r Hvah.prog a s b u = (b147 ha hs (b := b) hu).choose := bltOf_eq (b147 ha hs (b := b) hu).choose_spec.1
  rw [e]; exact (b147 ha hs (b := b) hu).choose_spec
theorem joinMd {O : Nat → Prop} {W : World} {B : Nat} {z : Nat → Value} {R : Array Value} {g : AFrame} (hs : R.size = 60) (h1 : Ones R) (hB : Blk W B 60 156 (layv z 0 R)) (hf : YFC (Wd O B) (fun _ => False) W (cf R) 0 g) : ∃ dB, Blk W B 60 156 dB ∧ YFC (Wd O B) (fun _ => False) W dB 0 g ∧ ∀ j, j < 60 → (dB j).oneCell' = true :=
  ⟨cf R, hB.same (fun i hi => by
    have := layv_in z 0 R (j := i) (by rw [hs]; exact hi)
    rw [Nat.zero_add] at this; exact this.symm), hf, fun j hj => h1.get (by rw [hs]; exact hj)⟩
end Go.Proofs.YgvahwGreat
