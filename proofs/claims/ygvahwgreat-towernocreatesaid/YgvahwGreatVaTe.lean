import Derived.Test.YgvahwGreatVaTc
import Derived.Test.YgvahwGreatVaTbK
import Derived.Test.YgvahwGreatVaTbN
namespace Go.Proofs.YgvahwGreat
open Go.RowKit
set_option linter.unusedSimpArgs false
section
variable {own : Nat → Nat} {w : World} {g : Nat} {c : Nat → Value} {V : EV} {a k v i : Nat}
theorem vTempOf (h : VRep own w g c V) (ha : a < 2 ^ 160) (hk : k < P256) (hrT : V.temps.length < 12288) (hrA : V.ix a = none → V.accts.length < 2560) : Calls Hvah.prog 392 #[.pointer (some ⟨g, 2435, none⟩), .agg (av a), wv k] w fun e w' => e = .returned (.tuple #[.int .i32 (V.atAT a k : Nat), .bool true]) ∧ ∃ own' c', VRep own' w' g c' (V.needAT a k) ∧ VStep own w c own' w' c' := by
  cases hj : V.ix a with
  | none => exact vTempOf_N h ha hk hj (hrA hj) hrT
  | some i =>
    cases hs : ixG ETemp.kc (i, k) V.temps with
    | none => exact vTempOf_K h ha hk hj hs hrT
    | some j => exact vTempOf_f h ha hk hj hs
theorem vTStore (h : VRep own w g c V) (ha : a < 2 ^ 160) (hk : k < P256) (hvv : v < P256) (hJ : V.journal.length < 65536) (hrT : V.temps.length < 12288) (hrA : V.ix a = none → V.accts.length < 2560) : Calls Hvah.prog 320 #[.pointer (some ⟨g, 2435, none⟩), .agg (av a), wv k, wv v] w fun e w' => e = .returned (.bool true) ∧ ∃ own' c', VRep own' w' g c' (V.tstore a k v) ∧ VStep own w c own' w' c' :=
  vTStore0 (fun _ hW => vTempOf (h.ext hW) ha hk hrT hrA) h ha hvv hJ
end
end Go.Proofs.YgvahwGreat
