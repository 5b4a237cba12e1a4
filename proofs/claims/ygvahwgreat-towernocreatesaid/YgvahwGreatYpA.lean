import Derived.Test.YgvahwGreatNat
namespace Go.Proofs.YgvahwGreat
open Go.RowKit

theorem yMemCost (O : Nat → Prop) (v : Value) (x : Nat) (w : World) (hO : Small O w) (h : NV O w v x) (hx : dl x ≤ 500) :
    Calls Hvah.prog 233 #[v] w fun e w' => ∃ r, e = .returned r ∧ NV O w' r (3 * x + x * x / 512) ∧ Ext w w' := by
  have h3 : dl 3 ≤ 1 := by decide
  have d1 := dl_mul 3 x 1 500 h3 hx
  have d2 := dl_mul x x 500 500 hx hx
  have d3 := dl_div (x * x) 512 _ d2
  have hE := Ext.refl w
  have hm : ((3 : Nat) : Int) = 3 := rfl
  go_enter Hvah.func233, Hvah.ntmps233
  go_wp2_with (first
    | (go_at_call 42; refine (nNum O 3 w hO (by decide)).mono ?_; rintro e w1 ⟨r, rfl, hr, he1⟩; replace h := h.ext he1; replace hO := hO.ext he1; replace hE := hE.trans he1)
    | (go_at_call 60; refine (nMul O r v 3 x _ hO hr h (by omega) (by omega)).mono ?_; rintro e w1 ⟨a, rfl, ha, he1⟩; replace h := h.ext he1; replace hO := hO.ext he1; replace hE := hE.trans he1)
    | (go_at_call 60; refine (nMul O v v x x _ hO h h (by omega) (by omega)).mono ?_; rintro e w1 ⟨b, rfl, hb, he1⟩; replace ha := ha.ext he1; replace hO := hO.ext he1; replace hE := hE.trans he1)
    | (go_at_call 78; refine (nDivided O b (x * x) 512 _ hO hb (by decide) (by omega)).mono ?_; rintro e w1 ⟨c, rfl, hc, he1⟩; replace ha := ha.ext he1; replace hO := hO.ext he1; replace hE := hE.trans he1)
    | (go_at_call 44; refine (nAdd O a c (3 * x) (x * x / 512) _ hO ha hc (by omega) (by omega)).mono ?_; rintro e w1 ⟨s, rfl, hs, he1⟩; replace hE := hE.trans he1))
  go_ret
  exact ⟨_, rfl, hs, hE⟩

theorem yCopyCost (O : Nat → Prop) (v : Value) (x : Nat) (w : World) (hO : Small O w) (h : NV O w v x) (hx : dl x ≤ 500) :
    Calls Hvah.prog 341 #[v] w fun e w' => ∃ r, e = .returned r ∧ NV O w' r (3 * ((x + 31) / 32)) ∧ Ext w w' := by
  have h3 : dl 3 ≤ 1 := by decide
  have h31 : dl 31 ≤ 500 := by decide
  have d1 := dl_div _ 32 _ (dl_add x 31 500 hx h31)
  have hE := Ext.refl w
  go_enter Hvah.func341, Hvah.ntmps341
  go_wp2_with (first
    | (go_at_call 42; refine (nNum O 3 w hO (by decide)).mono ?_; rintro e w1 ⟨r, rfl, hr, he1⟩; replace h := h.ext he1; replace hO := hO.ext he1; replace hE := hE.trans he1)
    | (go_at_call 135; refine (nWords O v x _ hO h (by omega)).mono ?_; rintro e w1 ⟨b, rfl, hb, he1⟩; replace hr := hr.ext he1; replace hO := hO.ext he1; replace hE := hE.trans he1)
    | (go_at_call 60; refine (nMul O r b 3 ((x + 31) / 32) _ hO hr hb (by omega) (by omega)).mono ?_; rintro e w1 ⟨a, rfl, ha, he1⟩; replace hE := hE.trans he1))
  go_ret
  exact ⟨_, rfl, ha, hE⟩

theorem ySentGas (O : Nat → Prop) (v u : Value) (x y : Nat) (w : World) (hO : Small O w) (h : NV O w v x) (g : NV O w u y) (hx : dl x ≤ 500) :
    Calls Hvah.prog 235 #[v, u] w fun e w' => ∃ r, e = .returned r ∧ NV O w' r (min y (x - x / 64)) ∧ Ext w w' := by
  have hE := Ext.refl w
  go_enter Hvah.func235, Hvah.ntmps235
  go_wp2_with (first
    | (go_at_call 78; refine (nDivided O v x 64 w hO h (by decide) (by omega)).mono ?_; rintro e w1 ⟨r, rfl, hr, he1⟩; replace h := h.ext he1; replace g := g.ext he1; replace hO := hO.ext he1; replace hE := hE.trans he1)
    | (go_at_call 55; refine (nLess O v r x (x / 64) _ hO h hr).mono ?_; rintro e w1 ⟨b, rfl, hb, he1⟩; replace g := g.ext he1; replace hO := hO.ext he1; replace hE := hE.trans he1)
    | (go_at_call 77; refine (nMin O u b y (x - x / 64) _ g hb).mono ?_; rintro e w1 ⟨a, rfl, ha, he1⟩; replace hE := hE.trans he1))
  go_ret
  exact ⟨_, rfl, ha, hE⟩

theorem yExpCost (O : Nat → Prop) (v : Value) (x : Nat) (w : World) (hO : Small O w) (h : NV O w v x) (hx : dl x ≤ 500) :
    Calls Hvah.prog 340 #[v] w fun e w' => ∃ r, e = .returned r ∧ NV O w' r (10 + 50 * dl x) ∧ Ext w w' := by
  have hE := Ext.refl w
  have e1 : dl 10 ≤ 8 := by decide
  have e2 : dl 50 ≤ 8 := by decide
  have e3 := dl_u64 (dl x) (by omega)
  have d1 := dl_mul 50 (dl x) 8 8 e2 e3
  go_enter Hvah.func340, Hvah.ntmps340
  go_wp2_with (first
    | (go_at_call_of 42 (Value.int .u64 10); refine (nNum O 10 w hO (by decide)).mono ?_; rintro e w1 ⟨r, rfl, hr, he1⟩; replace h := h.ext he1; replace hO := hO.ext he1; replace hE := hE.trans he1)
    | (go_at_call_of 42 (Value.int .u64 50); refine (nNum O 50 _ hO (by decide)).mono ?_; rintro e w1 ⟨s, rfl, hs, he1⟩; replace h := h.ext he1; replace hO := hO.ext he1; replace hr := hr.ext he1; replace hE := hE.trans he1)
    | (go_at_call 132; refine (nNorm O v x _ hO h).mono ?_; rintro e w1 ⟨t, rfl, ht, he1⟩; obtain ⟨o, c, rfl, hc1, hc2, hbs⟩ := ht; replace hO := hO.ext he1; replace hr := hr.ext he1; replace hs := hs.ext he1; replace hE := hE.trans he1)
    | (go_at_call 42; refine (nNum O (digs x).length _ hO (by unfold dl at hx; omega)).mono ?_; rintro e w1 ⟨t, rfl, ht, he1⟩; replace hO := hO.ext he1; replace hr := hr.ext he1; replace hs := hs.ext he1; replace hE := hE.trans he1)
    | (go_at_call 60; refine (nMul O s t 50 (dl x) _ hO hs ht (by omega) (by omega)).mono ?_; rintro e w1 ⟨b, rfl, hb, he1⟩; replace hO := hO.ext he1; replace hr := hr.ext he1; replace hE := hE.trans he1)
    | (go_at_call 44; refine (nAdd O r b 10 (50 * dl x) _ hO hr hb (by omega) (by omega)).mono ?_; rintro e w1 ⟨a, rfl, ha, he1⟩; replace hE := hE.trans he1))
  go_ret
  exact ⟨_, rfl, ha, hE⟩

end Go.Proofs.YgvahwGreat
