import Derived.Test.YgvahwGreatRowsJ
namespace Go.Proofs.YgvahwGreat
open Go.RowKit
set_option linter.unusedSimpArgs false
/-- The receipt of a verdict. -/
def recV (v : Nat) : Array Value := #[.int .u8 (v : Nat), .int .u8 0, .int .u64 0, .slice none 0 0, .slice none 0 0, .int .u8 0, .int .u8 0, .int .u8 0, .int .u8 0, .int .u8 0, .int .u8 0, .int .u8 0, .int .u8 0, .int .u8 0, .int .u8 0, .int .u8 0, .int .u8 0, .int .u8 0, .int .u8 0, .int .u8 0, .int .u8 0, .int .u8 0, .int .u8 0, .int .u8 0, .int .u8 0]
theorem recV_size (v : Nat) : (recV v).size = 25 := rfl
theorem recV_ones (v : Nat) : Ones (recV v) := fun x hx => by
  simp only [recV, List.mem_cons, List.not_mem_nil, or_false] at hx
  rcases hx with h | h | h | h | h | h | h | h | h | h | h | h | h | h | h | h | h | h | h | h | h | h | h | h | h <;> subst h <;> rfl
def z46a : Array Value := #[.int .u8 0, .int .u8 0, .int .u64 0, .slice none 0 0, .slice none 0 0, .int .u8 0, .int .u8 0, .int .u8 0, .int .u8 0, .int .u8 0, .int .u8 0, .int .u8 0, .int .u8 0, .int .u8 0, .int .u8 0, .int .u8 0, .int .u8 0, .int .u8 0, .int .u8 0, .int .u8 0, .int .u8 0, .int .u8 0, .int .u8 0, .int .u8 0, .int .u8 0]
theorem z46 : zeroOf Hvah.prog 51 = some z46a := by kernel_rfl
theorem z46s : z46a.size = 25 := rfl
end Go.Proofs.YgvahwGreat
