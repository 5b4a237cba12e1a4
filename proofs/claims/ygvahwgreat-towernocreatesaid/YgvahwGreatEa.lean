import Derived.Test.YgvahwGreatLd
import Derived.Test.YgvahwGreatRowsW
import Derived.Test.YgvahwGreatOc
namespace Go.Proofs.YgvahwGreat
open Go.RowKit
set_option linter.unusedSimpArgs false

theorem uFromB {x : Nat} (hx : x < P256) (w : World) : Calls Hvah.prog 92 #[.agg (bw x)] w fun e w' => e = .returned (wv x) ∧ Ext w w' := by
  have := uFromBytes (beL 32 x) w (len32 hx) (digits_beL 32 x)
  rw [bev_beL] at this
  exact this
theorem VStep.kl {own own' : Nat → Nat} {w w' : World} {c c' : Nat → Value} (k : VStep own w c own' w' c') {v : Value} {l : List Nat} (hv : KL (Mu own) w v l) : KL (Mu own') w' v l := by
  rcases hv with h | h
  · exact Or.inl h
  · rcases k.wl (Or.inr h) with q | q
    · exact Or.inl ⟨q.1, none, q.2⟩
    · exact Or.inr q
theorem VStep.el {α : Type} {own own' : Nat → Nat} {w w' : World} {c c' : Nat → Value} (k : VStep own w c own' w' c') {sz : Nat} {R R' : (Nat → Value) → Nat → α → Prop} {v : Value} {l : List α} (hv : EL sz R (Mu own) w v l) (hR : ∀ c o x, R c o x → R' c o x) : EL sz R' (Mu own') w' v l := by
  rcases hv with h | ⟨b, off, cap, cs, h1, h2, h3, h4, h5, h6, h7⟩
  · exact Or.inl h
  · have h0 : own b = 0 := Classical.byContradiction (fun q => h4 q)
    exact Or.inr ⟨b, off, cap, cs, h1, h2, h3, fun q => q (by rw [k.keep b h5]; exact h0), Nat.lt_of_lt_of_le h5 k.mod.size, fun i hi => k.cell0 h5 h0 (h6 i hi), fun i hi => hR _ _ _ (h7 i hi)⟩
section
variable {own : Nat → Nat} {w : World} {g : Nat} {c : Nat → Value} {V : EV} {st : ASt} {sn stale : List Nat} {n a : Nat}
set_option maxRecDepth 100000 in
set_option maxHeartbeats 6400000 in
theorem eWarmG (h : MRep own w g c V st sn stale) (hr : Room V (n + 1)) (ha : a < 2 ^ 160) : Calls Hvah.prog 109 #[.pointer (some ⟨g, 2435, none⟩), .agg (av a)] w fun e w' => e = .returned (.tuple #[]) ∧ ∃ own' c' V', MRep own' w' g c' V' { st with now := st.now.warm a } sn stale ∧ VStep own w c own' w' c' ∧ Room V' n ∧ V.Grew V' 1 1 0 0 0 0 := by
  have HW := fun W (hW : Ext w W) => vIsWarm (h.v.ext hW) ha
  have hab : (V.acct a).warm = st.now.warmA a := by rw [← h.abs]; rfl
  rw [hab] at HW
  have HS := fun W (hW : Ext w W) => mWarmAcct (h.ext hW) hr a ha
  cases hw : st.now.warmA a
  · rw [hw] at HW
    go_enter Hvah.func109, Hvah.ntmps109
    go_wp2_with (first
      | ((with_reducible (refine Veil.out ?_; apply wl_boxA)); (case hx => rfl); (case hn => exact ha); rintro B1 W1 c1 e1 b1 a1 g1)
      | ((with_reducible (refine Veil.out ?_; apply wl_loadA)); (case hx => rfl); (case hB => exact b1.ext (by (repeat (first | with_reducible exact Ext.refl _ | with_reducible assumption | refine Ext.trans ?_ (by with_reducible assumption) | refine Ext.alloc ?_ _ _ | refine Ext.drew ?_ | refine Ext.drewN ?_ _)))); (case hA => exact a1); (case hs => exact ha); (case ho => decide))
      | (go_at_call 181; refine (HW _ (by (repeat (first | with_reducible exact Ext.refl _ | with_reducible assumption | refine Ext.trans ?_ (by with_reducible assumption) | refine Ext.alloc ?_ _ _ | refine Ext.drew ?_ | refine Ext.drewN ?_ _)))).mono ?_; rintro e w1 ⟨rfl, he⟩)
      | (go_at_call 182; refine (HS _ (by (repeat (first | with_reducible exact Ext.refl _ | with_reducible assumption | refine Ext.trans ?_ (by with_reducible assumption) | refine Ext.alloc ?_ _ _ | refine Ext.drew ?_ | refine Ext.drewN ?_ _)))).mono ?_; rintro e w2 ⟨rfl, own', c', h2, k2⟩))
    go_end0
    exact ⟨rfl, own', c', _, h2, (VStep.ext (by (repeat (first | with_reducible exact Ext.refl _ | with_reducible assumption | refine Ext.trans ?_ (by with_reducible assumption) | refine Ext.alloc ?_ _ _ | refine Ext.drew ?_ | refine Ext.drewN ?_ _)))).trans k2, Room.opA hr, grew_opA _ _ _ _⟩
  · rw [hw] at HW
    go_enter Hvah.func109, Hvah.ntmps109
    go_wp2_with (first
      | ((with_reducible (refine Veil.out ?_; apply wl_boxA)); (case hx => rfl); (case hn => exact ha); rintro B1 W1 c1 e1 b1 a1 g1)
      | ((with_reducible (refine Veil.out ?_; apply wl_loadA)); (case hx => rfl); (case hB => exact b1.ext (by (repeat (first | with_reducible exact Ext.refl _ | with_reducible assumption | refine Ext.trans ?_ (by with_reducible assumption) | refine Ext.alloc ?_ _ _ | refine Ext.drew ?_ | refine Ext.drewN ?_ _)))); (case hA => exact a1); (case hs => exact ha); (case ho => decide))
      | (go_at_call 181; refine (HW _ (by (repeat (first | with_reducible exact Ext.refl _ | with_reducible assumption | refine Ext.trans ?_ (by with_reducible assumption) | refine Ext.alloc ?_ _ _ | refine Ext.drew ?_ | refine Ext.drewN ?_ _)))).mono ?_; rintro e w1 ⟨rfl, he⟩))
    go_end0
    refine ⟨rfl, own, c, V, ?_, VStep.ext (by (repeat (first | with_reducible exact Ext.refl _ | with_reducible assumption | refine Ext.trans ?_ (by with_reducible assumption) | refine Ext.alloc ?_ _ _ | refine Ext.drew ?_ | refine Ext.drewN ?_ _))), hr.le (by omega), (EV.Grew.refl V).le (by decide) (by decide) (by decide) (by decide) (by decide) (by decide)⟩
    rw [AW.warm_self hw]; exact h.ext (by (repeat (first | with_reducible exact Ext.refl _ | with_reducible assumption | refine Ext.trans ?_ (by with_reducible assumption) | refine Ext.alloc ?_ _ _ | refine Ext.drew ?_ | refine Ext.drewN ?_ _)))
theorem eWarm (h : MRep own w g c V st sn stale) (hr : Room V (n + 1)) (ha : a < 2 ^ 160) : Calls Hvah.prog 109 #[.pointer (some ⟨g, 2435, none⟩), .agg (av a)] w fun e w' => e = .returned (.tuple #[]) ∧ ∃ own' c' V', MRep own' w' g c' V' { st with now := st.now.warm a } sn stale ∧ VStep own w c own' w' c' ∧ Room V' n := by
  refine (eWarmG h hr ha).mono ?_
  rintro e w' ⟨h1, own', c', V', h2, h3, h4, _⟩
  exact ⟨h1, own', c', V', h2, h3, h4⟩
end
end Go.Proofs.YgvahwGreat
