import Derived.Test.YgvagwGreatEd
import Derived.Test.YgvagwGreatVaTf
import Derived.Test.YgvagwGreatLg
namespace Go.Proofs.YgvagwGreat
open Go.RowKit
set_option linter.unusedSimpArgs false

theorem row_of_cells {W : World} {B : Nat} {x : Array Value} (hc : ∀ (j : Nat) (u : Value), x.toList[j]? = some u → W.cell? ((⟨B, 0, none⟩ : Addr).add j) = some u) : RowIn W B 0 x := fun i u hu => by
  have h := hc i u (by simpa using hu)
  rwa [Addr.add_mid] at h
theorem lt_of_cells {W : World} {B : Nat} {x : Array Value} (hx : 0 < x.size) (hc : ∀ (j : Nat) (u : Value), x.toList[j]? = some u → W.cell? ((⟨B, 0, none⟩ : Addr).add j) = some u) : B < W.heap.size :=
  lt_of_cell (row_of_cells hc 0 _ (get_cf hx))
section
variable {w : World} {v : Value} {r x : Array Value}
set_option maxRecDepth 100000 in
set_option maxHeartbeats 6400000 in
theorem lTowerOne (hr : r.size = 120) (hx : x.size = 174) (H4 : ∀ W tb, Ext w W → RowIn W tb 0 x → tb < W.heap.size → Calls Hvag.prog 4 #[v, .agg r, .slice (some ⟨tb, 0, none⟩) 1 1] W fun e w' => e = .returned (.bool true) ∧ Mod (fun _ => False) W w') :
    Calls Hvag.prog 3 #[v, .agg r, .agg x] w fun e w' => e = .returned (.bool true) ∧ Mod (fun _ => False) w w' := by
  go_enter Hvag.func3, Hvag.ntmps3
  go_wp2_with (first | ((with_reducible (refine Veil.out ?_; apply wl_boxB (t := 31))); (case hx => rfl); (case hn => exact hr); rintro B4 W4 e4 b4 g4) | ((with_reducible (refine Veil.out ?_; apply wl_boxB (t := 35))); (case hx => rfl); (case hn => exact hx); rintro B5 W5 e5 b5 g5) | ((with_reducible (refine Veil.out ?_; apply wl_loadRow rt31i)); (case hx => rfl); (case hB => exact b4.ext e5); (case hi => decide); rw [rowOf_cf hr]) | ((with_reducible (refine Veil.out ?_; apply wl_loadRow rt35v)); (case hx => rfl); (case hB => exact b5); (case hi => decide); rw [rowOf_cf hx]) | ((with_reducible (refine Veil.out ?_; apply wl_build1A 35 Hvag.t35 _ 174)); (case ht => exact under37); (case hi => exact info35); (case hz => exact zero35v); (case hsz => exact size35v); (case hzs => exact z35s); (case h0 => decide); (case hbig => decide); (case hy => rfl); (case hr => exact hx); rintro B6 W6 e6 hc6 g6) | (go_at_call 4; refine (H4 _ B6 (e4.trans (e5.trans e6)) (row_of_cells hc6) (lt_of_cells (by omega) hc6)).mono ?_; rintro e w7 ⟨rfl, m7⟩))
  go_ret
  exact ⟨rfl, Mod.trans' ((e4.trans (e5.trans e6)).mod _) m7 (fun _ q => q.elim)⟩
end
end Go.Proofs.YgvagwGreat
