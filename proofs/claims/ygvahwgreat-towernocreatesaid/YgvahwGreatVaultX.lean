import Derived.Test.YgvahwGreatVaultW
namespace Go.Proofs.YgvahwGreat
open Go.RowKit
section
variable {own : Nat → Nat} {w : World} {g bj p n : Nat} {t : TypeId} {c cj : Nat → Value} {V : EV}
set_option maxRecDepth 100000 in
set_option maxHeartbeats 1600000 in
theorem vUndo2 {i N W : Nat} {B : List Nat} {F : Bool} (h : VRep own w g c V) (hjb : Blk w bj n t cj) (hown : own bj = 3) (he : JEC (Mu own) w cj p ⟨2, i, N, W, B, F⟩) (hp : p + 9 ≤ n) (hi : i < V.accts.length) :
    Calls Hvah.prog 408 #[.pointer (some ⟨g, 2435, none⟩), .pointer (some ⟨bj, p, none⟩)] w fun e w' => e = .returned (.bool true) ∧ VRep own w' g c (V.modA i fun x => { x with code := B }) ∧ VStep own w c own w' c := by
  obtain ⟨b, cap, c2, hv, hlc, hcm, hb, hob, hrows, hin⟩ := h.acctIx hi
  have e0 := hjb.cell (i := p) (by omega)
  rw [he.kind] at e0
  have e1 := hjb.cell (i := p + 1) (by omega)
  rw [he.at_] at e1
  have hB := he.bs
  have e2 := hjb.cell (i := p + 7) (by omega)
  obtain ⟨o, cp, hr, hb1, hb2, hb3⟩ := hB
  have hB' : NL (Mu own) w (.slice o B.length cp) B := ⟨o, cp, rfl, hb1, hb2, hb3⟩
  rw [hr] at e2
  have t0 := hb.cell (i := i * 29 + 25) (by omega)
  have k0 := h.blk.cell (i := 2435) (by omega)
  rw [hv] at k0
  have hf := hb.fz
  have hii : (i : Int) < V.accts.length := by omega
  have hwi : IntKind.i64.wrap (i : Int) = (i : Int) := by rw [IntKind.wrap_i64]; have := h.nA; omega
  have hbj : b ≠ bj := fun q => by rw [q, hown] at hob; omega
  simp only at e2 hB'
  generalize B.length = m at *
  go_enter Hvah.func408, Hvah.ntmps408
  go_wp2
  go_quiet (fail)
  go_wp2
  go_quiet (fail)
  go_wp2
  go_ret
  refine ⟨rfl, modA_end (f := fun x => { x with code := B }) (c3 := updv c2 (i * 29 + 25) (.slice o m cp)) h hv hlc hcm hob hi hrows ((hb.drewN _).set _ _) (fun j hj => updv_ne _ _ (by omega)) (((Mod.refl (· = b) w).drewN _).setCell (Or.inl rfl) _) (fun _ => rfl) (fun own' w' K => acct_setCode (hrows i hi) (K.nl hB'))⟩
end
end Go.Proofs.YgvahwGreat
