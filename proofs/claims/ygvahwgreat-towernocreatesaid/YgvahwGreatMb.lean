import Derived.Test.YgvahwGreatMa
import Derived.Test.YgvahwGreatNg
namespace Go.Proofs.YgvahwGreat
open Go.RowKit
set_option linter.unusedSimpArgs false

theorem rowIn_mod {w w' : World} {B o B2 : Nat} {r : Array Value} (h : RowIn w B o r) (hb : B < w.heap.size) (m : Mod (· = B2) w w') (hne : B ≠ B2) : RowIn w' B o r := h.keep hb m hne
theorem run_arr25 (w : World) (a : Option Addr) : (Instr.arrayAt 31 (.slice a 20 20)).run Hvah.prog w = .ok (.pointer a) w := by
  simp [Instr.arrayAt, run_underlying under25]
section
attribute [local go_sem] run_arr25
set_option maxRecDepth 100000 in
set_option maxHeartbeats 6400000 in
theorem mAddrOf (x : Nat) (hx : x < P256) (w : World) : Calls Hvah.prog 302 #[wv x] w fun e w' => e = .returned (.agg (av (addrA x))) ∧ Ext w w' := by
  have hal : addrA x < 2 ^ 160 := Nat.mod_lt _ (by decide)
  go_enter Hvah.func302, Hvah.ntmps302
  go_wp2_with (first | ((with_reducible (refine Veil.out ?_; apply wl_boxW)); (case hx => rfl); rintro B1 W1 c1 e1 b1 a1 g1) | ((with_reducible (refine Veil.out ?_; apply wl_allocA)); rintro B2 W2 c2 e2 b2 a2 g2) | ((with_reducible (refine Veil.out ?_; apply wl_loadWB)); (case hx => rfl); (case hB => exact Blk.ext (by with_reducible assumption) (by (repeat (first | with_reducible exact Ext.refl _ | with_reducible assumption | refine Ext.trans ?_ (by with_reducible assumption) | refine Ext.alloc ?_ _ _ | refine Ext.drew ?_ | refine Ext.drewN ?_ _)))); (case hW => with_reducible assumption); (case hi => decide)) | (go_at_call 85; refine (uBE32 x _ hx).mono ?_; rintro e w3 ⟨rfl, he3⟩; have hE3 : Ext w w3 := (e1.trans e2).trans he3; replace b2 := b2.ext he3) | ((with_reducible (refine Veil.out ?_; apply wl_allocL alT27)); rintro B W4 he4 hth hBl hBg) | ((with_reducible (refine Veil.out ?_; apply wl_storeB rt27)); (case hx => rfl); (case hy => rfl); (case hn => exact bw_size hx); (case hth => exact hth); (case hbl => exact hBl); (case h1 => exact bw_one _); rintro W5 hm5 hR5 hBl5; have hE5 : Ext w3 W5 := Ext.trans_mod he4 hm5 (fun i hi => by have hi2 : i = B := hi; rw [hi2]; exact hBg); replace b2 := b2.ext hE5; have hR12 := row12 hx hR5) | ((with_reducible (refine Veil.out ?_; apply wl_loadR rt25)); (case hx => rfl); (case hr => exact hR12); (case hn => exact av_size hal)) | ((with_reducible (refine Veil.out ?_; apply wl_storeA)); (case hx => rfl); (case hy => rfl); (case hv => exact hal); (case hB => exact b2); (case hi => decide); rintro W6 c6 b6 a6 _ m6))
  refine post_A Hvah.results302 rfl b6 a6 hal (by decide) rfl ⟨rfl, ?_⟩
  refine Ext.trans_mod (hE3.trans hE5) m6 (fun i hi => ?_)
  have hi2 : i = B2 := hi
  rw [hi2]
  exact Nat.le_trans e1.size g2
end
end Go.Proofs.YgvahwGreat
