import Derived.Test.YgvahwGreatTd
namespace Go.Proofs.YgvahwGreat
open Go.RowKit
set_option linter.unusedSimpArgs false
theorem beL_drop (x : Nat) (hx : x < P256) : (beL 32 x).drop 12 = beL 20 (addrA x) := by
  have hl := len32 hx
  have hal : addrA x < 2 ^ 160 := Nat.mod_lt _ (by decide)
  have hd := digits_beL 32 x
  refine bev_inj _ _ (fun d hq => hd d (List.mem_of_mem_drop hq)) (digits_beL _ _) (by rw [List.length_drop, hl, len20 hal]) ?_
  rw [bev_beL]
  have h1 : bev (beL 32 x) = x := bev_beL 32 x
  unfold bev at h1 ⊢
  have h2 : ((beL 32 x).drop 12).reverse = (beL 32 x).reverse.take 20 := by
    rw [List.take_reverse, hl]
  rw [h2, val_take_mod _ (fun d hq => hd d (by simpa using hq)), h1]
  unfold addrA
  rw [show (2 : Nat) ^ 160 = 256 ^ 20 by decide]
theorem row12 {w : World} {B x : Nat} (hx : x < P256) (h : RowIn w B 0 (bw x)) : RowIn w B 12 (av (addrA x)) := fun i v hv => by
  have := h (12 + i) v (by
    have e := beL_drop x hx
    unfold av at hv
    rw [← e] at hv
    unfold bw
    simp only [bcells, List.getElem?_toArray, List.getElem?_map, List.getElem?_drop] at hv ⊢
    exact hv)
  rwa [Nat.zero_add] at this
section
variable {O' : Nat → Prop} {w : World} {v : Value} {l : List Nat}
set_option maxRecDepth 100000 in
set_option maxHeartbeats 6400000 in
theorem yHashedAddr (HK : KSum) (h : NL O' w v l) (hl : l.length ≤ 1000000) : Calls Hvah.prog 133 #[v] w fun e w' => e = .returned (.agg (av (addrA (kec l)))) ∧ Ext w w' := by
  have hal : addrA (kec l) < 2 ^ 160 := Nat.mod_lt _ (by decide)
  go_enter Hvah.func133, Hvah.ntmps133
  go_wp2_with (first
    | ((with_reducible (refine Veil.out ?_; apply wl_allocL alT25)); rintro B0 W9 he0 hth0 hBl0 hBg0)
    | (go_at_call 224; refine (HK _ _ _ _ (h.ext (by (repeat (first | with_reducible exact Ext.refl _ | with_reducible assumption | refine Ext.trans ?_ (by with_reducible assumption) | refine Ext.alloc ?_ _ _ | refine Ext.drew ?_ | refine Ext.drewN ?_ _)))) hl).mono ?_; rintro e w1 ⟨rfl, he⟩)
    | ((with_reducible (refine Veil.out ?_; apply wl_allocL alT27)); rintro B W1 he hth hBl hBg)
    | ((with_reducible (refine Veil.out ?_; apply wl_storeB rt27)); (case hx => rfl); (case hy => rfl); (case hn => exact bw_size (kec_lt _)); (case hth => exact there_ext hth hBl (by (repeat (first | with_reducible exact Ext.refl _ | with_reducible assumption | refine Ext.trans ?_ (by with_reducible assumption) | refine Ext.alloc ?_ _ _ | refine Ext.drew ?_ | refine Ext.drewN ?_ _)))); (case hbl => exact Nat.lt_of_lt_of_le hBl (Ext.size (by (repeat (first | with_reducible exact Ext.refl _ | with_reducible assumption | refine Ext.trans ?_ (by with_reducible assumption) | refine Ext.alloc ?_ _ _ | refine Ext.drew ?_ | refine Ext.drewN ?_ _))))); (case h1 => exact bw_one _); rintro W2 hm hR hBl; have hR12 := row12 (kec_lt _) hR; clear hR; have hra := fun (W : World) => run_arrayAt W 31 5 20 20 20 (some ⟨B, 12, none⟩) under25 (Nat.le_refl _))
    | ((with_reducible (refine Veil.out ?_; apply wl_loadR rt25)); (case hx => rfl); (case hr => exact hR12); (case hn => exact av_size hal))
    | ((with_reducible (refine Veil.out ?_; apply wl_storeB rt25)); (case hx => rfl); (case hy => rfl); (case hn => exact av_size hal); (case hth => exact there_ext hth0 hBl0 (by (repeat (first | with_reducible exact Ext.refl _ | with_reducible assumption | refine Ext.trans ?_ (by with_reducible assumption) | refine Ext.alloc ?_ _ _ | refine Ext.drew ?_ | refine Ext.drewN ?_ _ | refine Ext.trans_mod ?_ (by with_reducible assumption) (fun i hi => by have hi2 : i = _ := hi; rw [hi2]; refine Nat.le_trans ?_ (by with_reducible assumption); refine Ext.size ?_; (repeat (first | with_reducible exact Ext.refl _ | with_reducible assumption | refine Ext.trans ?_ (by with_reducible assumption) | refine Ext.alloc ?_ _ _ | refine Ext.drew ?_ | refine Ext.drewN ?_ _ | refine Ext.trans_mod ?_ (by with_reducible assumption) (fun i hi => by have hi2 : i = _ := hi; rw [hi2]; refine Nat.le_trans ?_ (by with_reducible assumption); refine Ext.size ?_; (repeat (first | with_reducible exact Ext.refl _ | with_reducible assumption | refine Ext.trans ?_ (by with_reducible assumption) | refine Ext.alloc ?_ _ _ | refine Ext.drew ?_ | refine Ext.drewN ?_ _)))))))))); (case hbl => exact Nat.lt_of_lt_of_le hBl0 (Ext.size (by (repeat (first | with_reducible exact Ext.refl _ | with_reducible assumption | refine Ext.trans ?_ (by with_reducible assumption) | refine Ext.alloc ?_ _ _ | refine Ext.drew ?_ | refine Ext.drewN ?_ _ | refine Ext.trans_mod ?_ (by with_reducible assumption) (fun i hi => by have hi2 : i = _ := hi; rw [hi2]; refine Nat.le_trans ?_ (by with_reducible assumption); refine Ext.size ?_; (repeat (first | with_reducible exact Ext.refl _ | with_reducible assumption | refine Ext.trans ?_ (by with_reducible assumption) | refine Ext.alloc ?_ _ _ | refine Ext.drew ?_ | refine Ext.drewN ?_ _ | refine Ext.trans_mod ?_ (by with_reducible assumption) (fun i hi => by have hi2 : i = _ := hi; rw [hi2]; refine Nat.le_trans ?_ (by with_reducible assumption); refine Ext.size ?_; (repeat (first | with_reducible exact Ext.refl _ | with_reducible assumption | refine Ext.trans ?_ (by with_reducible assumption) | refine Ext.alloc ?_ _ _ | refine Ext.drew ?_ | refine Ext.drewN ?_ _))))))))))); (case h1 => exact av_one _); rintro W3 hm3 hR3 hBl3))
  exact post_row rt25 _ (av_size hal) Hvah.results133 rfl hR3 rfl ⟨rfl, Ext.trans_mod (by (repeat (first | with_reducible exact Ext.refl _ | with_reducible assumption | refine Ext.trans ?_ (by with_reducible assumption) | refine Ext.alloc ?_ _ _ | refine Ext.drew ?_ | refine Ext.drewN ?_ _ | refine Ext.trans_mod ?_ (by with_reducible assumption) (fun i hi => by have hi2 : i = _ := hi; rw [hi2]; refine Nat.le_trans ?_ (by with_reducible assumption); refine Ext.size ?_; (repeat (first | with_reducible exact Ext.refl _ | with_reducible assumption | refine Ext.trans ?_ (by with_reducible assumption) | refine Ext.alloc ?_ _ _ | refine Ext.drew ?_ | refine Ext.drewN ?_ _ | refine Ext.trans_mod ?_ (by with_reducible assumption) (fun i hi => by have hi2 : i = _ := hi; rw [hi2]; refine Nat.le_trans ?_ (by with_reducible assumption); refine Ext.size ?_; (repeat (first | with_reducible exact Ext.refl _ | with_reducible assumption | refine Ext.trans ?_ (by with_reducible assumption) | refine Ext.alloc ?_ _ _ | refine Ext.drew ?_ | refine Ext.drewN ?_ _))))))))) hm3 (fun i hi => by have hi2 : i = B0 := hi; rw [hi2]; exact hBg0)⟩
end
end Go.Proofs.YgvahwGreat
