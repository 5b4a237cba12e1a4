import Derived.Test.YgvahwGreatYpN
namespace Go.Proofs.YgvahwGreat
open Go.RowKit
set_option maxRecDepth 100000 in
set_option maxHeartbeats 1600000 in
theorem yWord {O : Nat → Prop} (v : Value) (x : Nat) (w : World) (h : NV O w v x) (hx : x < P256) : Calls Hvah.prog 35 #[v] w fun e w' => e = .returned (.agg (bw x)) ∧ Ext w w' := by
  have hE : Ext w (w.alloc (.cells (zrow 32) 33)) := (Ext.refl w).alloc _ _
  have hZ := Ext.refl (w.alloc (.cells (zrow 32) 33))
  have HBE := fun W (hW : Ext w W) => be32_yes O v x W (h.ext hW) (dl32 hx)
  have hsz : (bcells (beL 32 x)).toArray.size = 32 := by simp [bcells_length, len32 hx]
  have HHone : Hid (∀ u ∈ (bcells (beL 32 x)).toArray.toList, u.oneCell' = true) := fun u hu => by
    simp [bcells] at hu
    obtain ⟨d, _, rfl⟩ := hu
    rfl
  go_enter Hvah.func35, Hvah.ntmps35
  go_wp2_with (first | (go_at_call 90; refine (HBE _ hE).mono ?_; rintro e w1 ⟨rfl, he⟩; replace hE := hE.trans he; replace hZ := hZ.trans he; have hE2 : Ext w1 (w1.alloc (.cells (zrow 32) 32)) := (Ext.refl w1).alloc _ _; have hZ2 := Ext.refl (w1.alloc (.cells (zrow 32) 32))) | ((with_reducible (refine Veil.out ?_; apply wl_storeR rt27)); (case hx => rfl); (case hy => rfl); (case hn => exact hsz); (case hth => exact boxes_there _ (zrow 32) 32 _ _ rfl hZ2); (case h1 => exact HHone.out); refine w_gen (fun W => Ext w1 W ∧ RowIn W w1.heap.size 0 (bcells (beL 32 x)).toArray) ⟨ext_setRow hE2 (Nat.le_refl _), row_set (by rw [hsz]; exact boxes_there _ (zrow 32) 32 _ _ rfl hZ2)⟩ ?_; rintro W3 ⟨hE3, hR3⟩; replace hE := hE.trans hE3; replace hZ := hZ.trans hE3) | ((with_reducible (refine Veil.out ?_; apply wl_loadR rt27)); (case hx => rfl); (case hr => exact hR3); (case hn => exact hsz)) | ((with_reducible (refine Veil.out ?_; apply wl_loadR rt28)); (case hx => rfl); (case hr => exact hR3); (case hn => exact hsz)) | ((with_reducible (refine Veil.out ?_; apply wl_storeR rt28)); (case hx => rfl); (case hy => rfl); (case hn => exact hsz); (case hth => exact boxes_there _ (zrow 32) 33 _ _ rfl hZ); (case h1 => exact HHone.out); refine w_gen (fun W => Ext w W ∧ RowIn W w.heap.size 0 (bcells (beL 32 x)).toArray) ⟨ext_setRow hE (Nat.le_refl _), row_set (by rw [hsz]; exact boxes_there _ (zrow 32) 33 _ _ rfl hZ)⟩ ?_; rintro W5 ⟨hE5, hR5⟩))
  exact post_row rt28 _ hsz Hvah.results35 rfl hR5 rfl ⟨rfl, hE5⟩
end Go.Proofs.YgvahwGreat
