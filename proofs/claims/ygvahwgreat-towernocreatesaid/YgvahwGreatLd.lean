import Derived.Test.YgvahwGreatLc
namespace Go.Proofs.YgvahwGreat
open Go.RowKit
set_option linter.unusedSimpArgs false

theorem rt46i : RowT 51 25 := rowT_of (by kernel_rfl) (by kernel_rfl)
theorem rt31i : RowT 36 120 := rowT_of (by kernel_rfl) (by kernel_rfl)
theorem rowOf_cf {r : Array Value} {n : Nat} (h : r.size = n) : rowOf (cf r) 0 n = r := by
  apply Array.ext_getElem?
  intro i
  rw [rowOf_get, Nat.zero_add]
  by_cases hi : i < n
  · rw [if_pos hi, get_cf (by omega)]
  · rw [if_neg hi, Array.getElem?_eq_none (by omega)]
section
variable {O O' : Nat → Prop} {w : World} {r1 r2 : Array Value} {x : ARec} {v v' : Value} {l : List IAcct} {e : AEnv}
set_option maxRecDepth 100000 in
set_option maxHeartbeats 6400000 in
theorem lTowerHolds (s1 : r1.size = 25) (s2 : r2.size = 25) (h1 : RecC O w (cf r1) x) (h2 : RecC O' w (cf r2) x) (hs : x.status < 13) (k1 : EL 55 (IAcC O w) O w v l) (k2 : EL 55 (IAcC O' w) O' w v' l) : Calls Hvah.prog 12 #[.agg r1, .agg r2, v, v'] w fun e w' => e = .returned (.bool true) ∧ Ext w w' := by
  have hst := h1.status
  generalize x.status = st at *
  have z13 : ¬ (st : Int) = 13 := by omega
  have q1 := rowOf_cf s1
  have q2 := rowOf_cf s2
  go_enter Hvah.func12, Hvah.ntmps12
  go_wp2_with (first
    | ((with_reducible (refine Veil.out ?_; apply wl_boxB)); (case hx => rfl); (case hn => exact s1); rintro B2 W2 e2 b2 g2; (with_reducible (refine Veil.out ?_; apply wl_boxB)); (case hx => rfl); (case hn => exact s2); rintro B3 W3 e3 b3 g3)
    | ((with_reducible (refine Veil.out ?_; apply wl_loadRow rt46i (b := B2))); (case hx => rfl); (case hB => exact b2.ext e3); (case hi => decide); rw [q1])
    | ((with_reducible (refine Veil.out ?_; apply wl_loadRow rt46i (b := B3))); (case hx => rfl); (case hB => exact b3); (case hi => decide); rw [q2])
    | (go_at_call 27; refine (lReceiptsMeet s1 s2 (h1.ext (e2.trans e3)) (h2.ext (e2.trans e3))).mono ?_; rintro e w1 ⟨rfl, he1⟩)
    | (go_at_call 28; refine (lWorldsMeet (k1.mono ((e2.trans e3).trans he1) (fun _ _ _ q => q.ext ((e2.trans e3).trans he1))) (k2.mono ((e2.trans e3).trans he1) (fun _ _ _ q => q.ext ((e2.trans e3).trans he1)))).mono ?_; rintro e w2 ⟨rfl, he2⟩)
    | ((with_reducible (refine Veil.out ?_; apply wlG_loadB one5i (b := B2))); (case hw => go_simp); (case hx => rfl); (case hB => exact b2.ext (e3.trans (he1.trans he2))); (case hi => decide); rw [hst]))
  go_ret
  exact ⟨by first | rfl | (simp; omega), (e2.trans e3).trans (he1.trans he2)⟩
set_option maxRecDepth 100000 in
set_option maxHeartbeats 6400000 in
theorem lNewsHold (s1 : r1.size = 120) (h : EnvI O w (cf r1) e) (k1 : EL 55 (IAcC O w) O w v l) (g : Bool) (hg : g = (worldOKI l && decide (e.hashes.length ≤ 4))) : Calls Hvah.prog 23 #[v, .agg r1, .bool g, .bool g] w fun e w' => e = .returned (.bool true) ∧ Ext w w' := by
  have q1 := rowOf_cf s1
  have hW := fun W (hW : Ext w W) => oWorldOK (k1.mono hW (fun _ _ _ q => q.ext hW))
  have hE := fun W (hW : Ext w W) => oEnvOK (h.ext hW) s1
  generalize worldOKI l = wo at *
  generalize decide (e.hashes.length ≤ 4) = eo at *
  subst hg
  cases wo
  · go_enter Hvah.func23, Hvah.ntmps23
    go_wp2_with (first
      | ((with_reducible (refine Veil.out ?_; apply wl_boxB)); (case hx => rfl); (case hn => exact s1); rintro B2 W2 e2 b2 g2)
      | (go_at_call 40; refine (hW _ e2).mono ?_; rintro e w1 ⟨rfl, he1⟩))
    go_ret
    exact ⟨by first | rfl | simp, e2.trans he1⟩
  · cases eo
    · go_enter Hvah.func23, Hvah.ntmps23
      go_wp2_with (first
        | ((with_reducible (refine Veil.out ?_; apply wl_boxB)); (case hx => rfl); (case hn => exact s1); rintro B2 W2 e2 b2 g2)
        | (go_at_call 40; refine (hW _ e2).mono ?_; rintro e w1 ⟨rfl, he1⟩)
        | ((with_reducible (refine Veil.out ?_; apply wlG_loadRow rt31i (b := B2))); (case hw => go_simp); (case hx => rfl); (case hB => exact b2.ext he1); (case hi => decide); rw [q1])
        | (go_at_call 37; refine (hE _ (e2.trans he1)).mono ?_; rintro e w2 ⟨rfl, he2⟩))
      go_ret
      exact ⟨by first | rfl | simp, (e2.trans he1).trans he2⟩
    · go_enter Hvah.func23, Hvah.ntmps23
      go_wp2_with (first
        | ((with_reducible (refine Veil.out ?_; apply wl_boxB)); (case hx => rfl); (case hn => exact s1); rintro B2 W2 e2 b2 g2)
        | (go_at_call 40; refine (hW _ e2).mono ?_; rintro e w1 ⟨rfl, he1⟩)
        | ((with_reducible (refine Veil.out ?_; apply wlG_loadRow rt31i (b := B2))); (case hw => go_simp); (case hx => rfl); (case hB => exact b2.ext he1); (case hi => decide); rw [q1])
        | (go_at_call 37; refine (hE _ (e2.trans he1)).mono ?_; rintro e w2 ⟨rfl, he2⟩))
      go_ret
      exact ⟨by first | rfl | simp, (e2.trans he1).trans he2⟩
end
set_option maxRecDepth 100000 in
set_option maxHeartbeats 6400000 in
theorem lCutTxs (o : Option Addr) (cap : Nat) (w : World) : Calls Hvah.prog 10 #[.slice o 1 cap, .int .i64 4] w fun e w' => e = .returned (.slice o 1 cap) ∧ w' = w := by
  go_enter Hvah.func10, Hvah.ntmps10
  go_wp2
  go_ret
  exact ⟨rfl, rfl⟩
end Go.Proofs.YgvahwGreat
