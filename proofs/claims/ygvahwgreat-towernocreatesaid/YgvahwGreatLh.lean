import Derived.Test.YgvahwGreatEd
import Derived.Test.YgvahwGreatVaTf
import Derived.Test.YgvahwGreatLg
namespace Go.Proofs.YgvahwGreat
open Go.RowKit
set_option linter.unusedSimpArgs false

theorem row_of_cells {W : World} {B : Nat} {x : Array Value} (hc : ∀ (j : Nat) (u : Value), x.toList[j]? = some u → W.cell? ((⟨B, 0, none⟩ : Addr).add j) = some u) : RowIn W B 0 x := fun i u hu => by
  have h := hc i u (by simpa using hu)
  rwa [Addr.add_mid] at h
theorem lt_of_cells {W : World} {B : Nat} {x : Array Value} (hx : 0 < x.size) (hc : ∀ (j : Nat) (u : Value), x.toList[j]? = some u → W.cell? ((⟨B, 0, none⟩ : Addr).add j) = some u) : B < W.heap.size :=
  lt_of_cell (row_of_cells hc 0 _ (get_cf hx))
end Go.Proofs.YgvahwGreat
