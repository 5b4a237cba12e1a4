import Derived.Test.YgvahwGreatTw2
import Derived.Test.YgvahwGreatLh
namespace Go.Proofs.YgvahwGreat
open Go.RowKit
set_option linter.unusedSimpArgs false
set_option linter.unusedVariables false
section
variable {w : World} {v : Value} {r x : Array Value} {l : List IAcct} {e : AEnv} {t : ATx} {tb tc : Nat}
set_option maxRecDepth 100000 in
set_option maxHeartbeats 6400000 in
theorem lTowerBad (hr : r.size = 120) (H5 : ∀ W, Ext w W → Calls Hvah.prog 9 #[v, .agg r] W fun e w' => e = .returned (.tuple #[.pointer none, .pointer none, .bool true]) ∧ Ext W w') : Calls Hvah.prog 4 #[v, .agg r, .slice (some ⟨tb, 0, none⟩) 1 tc] w fun e w' => e = .returned (.bool true) ∧ Mod (fun _ => False) w w' := by
  go_enter Hvah.func4, Hvah.ntmps4
  go_wp2_with (first | ((with_reducible (refine Veil.out ?_; apply wl_boxB (t := 36))); (case hx => rfl); (case hn => exact hr); rintro B4 W4 e4 b4 g4) | ((with_reducible (refine Veil.out ?_; apply wl_loadRow rt31i)); (case hx => rfl); (case hB => exact b4); (case hi => decide); rw [rowOf_cf hr]) | (go_at_call 9; refine (H5 _ e4).mono ?_; rintro e w5 ⟨rfl, e5⟩))
  go_ret
  exact ⟨rfl, (e4.trans e5).mod _⟩
theorem bothBad (hin : EL 55 (IAcC (fun _ => False) w) (fun _ => False) w v l) (hr : r.size = 120) (h : EnvI (fun _ => False) w (cf r) e) (hb : ¬ (worldOKI l = true ∧ e.hashes.length ≤ 4)) {W : World} (eW : Ext w W) : Calls Hvah.prog 9 #[v, .agg r] W fun x w' => x = .returned (.tuple #[.pointer none, .pointer none, .bool true]) ∧ Ext W w' := by
  have hin2 : ∀ W1, Ext W W1 → EL 55 (IAcC (fun _ => False) W1) (fun _ => False) W1 v l := fun W1 hW => hin.mono (eW.trans hW) (fun _ _ _ k => k.ext (eW.trans hW))
  have hen : ∀ W1, Ext W W1 → EnvI (fun _ => False) W1 (cf r) e := fun W1 hW => h.ext (eW.trans hW)
  refine lBothBad hr (fun W1 e1 => ?_) (fun W1 e1 => ?_) (fun W1 e1 => ?_)
  · by_cases hf : e.hashes.length ≤ 4
    · have hl : worldOKI l = false := by
        cases q : worldOKI l with
        | true => exact absurd ⟨q, hf⟩ hb
        | false => rfl
      refine eNewBadWorld hr (hen W1 e1) hf (fun W2 g e2 _ _ => ?_)
      refine (vFillBad (hin2 W2 (e1.trans e2)) hl).mono ?_
      rintro x w' ⟨rfl, e3⟩
      exact ⟨rfl, e2.trans e3⟩
    · exact eNewBadEnv hr (hen W1 e1) hf
  · cases q : worldOKI l with
    | false => exact yNewBadWorld (hin2 W1 e1) q hr
    | true => exact yNewBadEnv (hin2 W1 e1) q hr (hen W1 e1) (fun hf => hb ⟨q, hf⟩)
  · refine lNewsHold hr (hen W1 e1) (hin2 W1 e1) false ?_
    cases q : worldOKI l with
    | false => rfl
    | true =>
      rw [decide_eq_false (fun hf => hb ⟨q, hf⟩)]; rfl
/-- Tower of one transaction holds, whatever comes in. -/
theorem towerAll (hin : EL 55 (IAcC (fun _ => False) w) (fun _ => False) w v l) (hr : r.size = 120) (h : EnvI (fun _ => False) w (cf r) e) (hx : x.size = 174) (hT : TxC (fun _ => False) w (cf x) t) (hrow : RowIn w tb 0 x) (htb : tb < w.heap.size) : Calls Hvah.prog 4 #[v, .agg r, .slice (some ⟨tb, 0, none⟩) 1 tc] w fun r w' => r = .returned (.bool true) ∧ Mod (fun _ => False) w w' := by
  by_cases hb : worldOKI l = true ∧ e.hashes.length ≤ 4
  · by_cases hv : (st0 l e).verdict t = 0
    · exact towerGo hin hb.1 hr h hb.2 hx hT hrow htb hv
    · exact towerNo hin hb.1 hr h hb.2 hx hT hrow htb hv
  · exact lTowerBad hr (fun W eW => bothBad hin hr h hb eW)
end
end Go.Proofs.YgvahwGreat
