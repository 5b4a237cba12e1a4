import Derived.Test.YgvahwGreatVaultV
namespace Go.Proofs.YgvahwGreat
open Go.RowKit
attribute [local go_sem] wv_fold
theorem acct_setCode {own own' : Nat → Nat} {o : Nat} {w w' : World} {c : Nat → Value} {x : EAcct} {v : Value} {l : List Nat} (h : AcctC (Mu own) w c o x) (hv : NL (Mu own') w' v l) : AcctC (Mu own') w' (updv c (o + 25) v) o { x with code := l } := by
  have hc : ∀ j, j < 29 → j ≠ 25 → updv c (o + 25) v (o + j) = c (o + j) := fun j _ h2 => updv_ne _ _ (by omega)
  refine ⟨fun i v hv => ?_, h.aLt, ?_, h.nLt, ⟨?_, ?_, ?_, ?_⟩, h.bLt, ?_, ?_, ?_, ?_⟩
  · have hi := (Array.getElem?_eq_some_iff.1 hv).1
    rw [av_size h.aLt] at hi
    rw [hc i (by omega) (by omega)]; exact h.addr i v hv
  · rw [hc 20 (by omega) (by omega)]; exact h.nonce
  · rw [hc 21 (by omega) (by omega)]; exact h.bal.c0
  · rw [Nat.add_assoc, hc 22 (by omega) (by omega)]; exact h.bal.c1
  · rw [Nat.add_assoc, hc 23 (by omega) (by omega)]; exact h.bal.c2
  · rw [Nat.add_assoc, hc 24 (by omega) (by omega)]; exact h.bal.c3
  · rw [updv_same]; exact hv
  · rw [hc 26 (by omega) (by omega)]; exact h.warm
  · rw [hc 27 (by omega) (by omega)]; exact h.made
  · rw [hc 28 (by omega) (by omega)]; exact h.gone
theorem acct_putWarm {own own' : Nat → Nat} {g k o : Nat} {w w' : World} {c : Nat → Value} {x : EAcct} (q : Bool) (K : Keep own own' g k w w') (h : AcctC (Mu own) w c o x) : AcctC (Mu own') w' (updv c (o + 26) (.bool q)) o { x with warm := q } := by
  have hc : ∀ j, j < 29 → j ≠ 26 → updv c (o + 26) (.bool q) (o + j) = c (o + j) := fun j _ h2 => updv_ne _ _ (by omega)
  refine ⟨fun i v hv => ?_, h.aLt, ?_, h.nLt, ⟨?_, ?_, ?_, ?_⟩, h.bLt, ?_, updv_same _ _ _, (by rw [hc 27 (by omega) (by omega)]; exact h.made), (by rw [hc 28 (by omega) (by omega)]; exact h.gone)⟩
  · have hi := (Array.getElem?_eq_some_iff.1 hv).1
    rw [av_size h.aLt] at hi
    rw [hc i (by omega) (by omega)]; exact h.addr i v hv
  · rw [hc 20 (by omega) (by omega)]; exact h.nonce
  · rw [hc 21 (by omega) (by omega)]; exact h.bal.c0
  · rw [Nat.add_assoc, hc 22 (by omega) (by omega)]; exact h.bal.c1
  · rw [Nat.add_assoc, hc 23 (by omega) (by omega)]; exact h.bal.c2
  · rw [Nat.add_assoc, hc 24 (by omega) (by omega)]; exact h.bal.c3
  · rw [hc 25 (by omega) (by omega)]; exact K.nl h.code
theorem acct_putMade {own own' : Nat → Nat} {g k o : Nat} {w w' : World} {c : Nat → Value} {x : EAcct} (q : Bool) (K : Keep own own' g k w w') (h : AcctC (Mu own) w c o x) : AcctC (Mu own') w' (updv c (o + 27) (.bool q)) o { x with made := q } := by
  have hc : ∀ j, j < 29 → j ≠ 27 → updv c (o + 27) (.bool q) (o + j) = c (o + j) := fun j _ h2 => updv_ne _ _ (by omega)
  refine ⟨fun i v hv => ?_, h.aLt, ?_, h.nLt, ⟨?_, ?_, ?_, ?_⟩, h.bLt, ?_, (by rw [hc 26 (by omega) (by omega)]; exact h.warm), updv_same _ _ _, (by rw [hc 28 (by omega) (by omega)]; exact h.gone)⟩
  · have hi := (Array.getElem?_eq_some_iff.1 hv).1
    rw [av_size h.aLt] at hi
    rw [hc i (by omega) (by omega)]; exact h.addr i v hv
  · rw [hc 20 (by omega) (by omega)]; exact h.nonce
  · rw [hc 21 (by omega) (by omega)]; exact h.bal.c0
  · rw [Nat.add_assoc, hc 22 (by omega) (by omega)]; exact h.bal.c1
  · rw [Nat.add_assoc, hc 23 (by omega) (by omega)]; exact h.bal.c2
  · rw [Nat.add_assoc, hc 24 (by omega) (by omega)]; exact h.bal.c3
  · rw [hc 25 (by omega) (by omega)]; exact K.nl h.code
theorem acct_putGone {own own' : Nat → Nat} {g k o : Nat} {w w' : World} {c : Nat → Value} {x : EAcct} (q : Bool) (K : Keep own own' g k w w') (h : AcctC (Mu own) w c o x) : AcctC (Mu own') w' (updv c (o + 28) (.bool q)) o { x with gone := q } := by
  have hc : ∀ j, j < 29 → j ≠ 28 → updv c (o + 28) (.bool q) (o + j) = c (o + j) := fun j _ h2 => updv_ne _ _ (by omega)
  refine ⟨fun i v hv => ?_, h.aLt, ?_, h.nLt, ⟨?_, ?_, ?_, ?_⟩, h.bLt, ?_, (by rw [hc 26 (by omega) (by omega)]; exact h.warm), (by rw [hc 27 (by omega) (by omega)]; exact h.made), updv_same _ _ _⟩
  · have hi := (Array.getElem?_eq_some_iff.1 hv).1
    rw [av_size h.aLt] at hi
    rw [hc i (by omega) (by omega)]; exact h.addr i v hv
  · rw [hc 20 (by omega) (by omega)]; exact h.nonce
  · rw [hc 21 (by omega) (by omega)]; exact h.bal.c0
  · rw [Nat.add_assoc, hc 22 (by omega) (by omega)]; exact h.bal.c1
  · rw [Nat.add_assoc, hc 23 (by omega) (by omega)]; exact h.bal.c2
  · rw [Nat.add_assoc, hc 24 (by omega) (by omega)]; exact h.bal.c3
  · rw [hc 25 (by omega) (by omega)]; exact K.nl h.code
section
variable {own : Nat → Nat} {w : World} {g bj p n : Nat} {t : TypeId} {c cj : Nat → Value} {V : EV}
theorem VRep.acctIx (h : VRep own w g c V) {i : Nat} (hi : i < V.accts.length) : ∃ b cap c2, c 2435 = .slice (some ⟨b, 0, none⟩) V.accts.length cap ∧ V.accts.length ≤ cap ∧ cap ≤ 9223372036854775807 ∧ Blk w b (cap * 29) 176 c2 ∧ own b = 1 ∧
    (∀ (i : Nat) (h : i < V.accts.length), AcctC (Mu own) w c2 (i * 29) V.accts[i]) ∧ i * 29 + 29 ≤ cap * 29 := by
  rcases h.accts with ⟨h3, _⟩ | ⟨b, cap, c2, h3, h4, h5, h6, h7, h8⟩
  · rw [h3] at hi; simp at hi
  · exact ⟨b, cap, c2, h3, h4, h5, h6, h7, h8, by have : (i + 1) * 29 ≤ cap * 29 := Nat.mul_le_mul_right _ (by omega); omega⟩
set_option maxRecDepth 100000 in
set_option maxHeartbeats 1600000 in
theorem vUndo1 {i N W : Nat} {B : List Nat} {F : Bool} (h : VRep own w g c V) (hjb : Blk w bj n t cj) (hown : own bj = 3) (he : JEC (Mu own) w cj p ⟨1, i, N, W, B, F⟩) (hp : p + 9 ≤ n) (hi : i < V.accts.length) :
    Calls Hvah.prog 408 #[.pointer (some ⟨g, 2435, none⟩), .pointer (some ⟨bj, p, none⟩)] w fun e w' => e = .returned (.bool true) ∧ VRep own w' g c (V.modA i fun x => { x with nonce := N }) ∧ VStep own w c own w' c := by
  obtain ⟨b, cap, c2, hv, hlc, hcm, hb, hob, hrows, hin⟩ := h.acctIx hi
  have e0 := hjb.cell (i := p) (by omega)
  rw [he.kind] at e0
  have e1 := hjb.cell (i := p + 1) (by omega)
  rw [he.at_] at e1
  have e2 := hjb.cell (i := p + 2) (by omega)
  rw [he.n] at e2
  have t0 := hb.cell (i := i * 29 + 20) (by omega)
  have k0 := h.blk.cell (i := 2435) (by omega)
  rw [hv] at k0
  have hf := hb.fz
  have hii : (i : Int) < V.accts.length := by omega
  have hwi : IntKind.i64.wrap (i : Int) = (i : Int) := by rw [IntKind.wrap_i64]; have := h.nA; omega
  have hbj : b ≠ bj := fun q => by rw [q, hown] at hob; omega
  go_enter Hvah.func408, Hvah.ntmps408
  go_wp2
  go_quiet (fail)
  go_wp2
  go_quiet (fail)
  go_wp2
  go_ret
  refine ⟨rfl, modA_end (f := fun x => { x with nonce := N }) (c3 := updv c2 (i * 29 + 20) (.int .u64 (N : Nat))) h hv hlc hcm hob hi hrows ((hb.drewN _).set _ _) (fun j hj => updv_ne _ _ (by omega)) (((Mod.refl (· = b) w).drewN _).setCell (Or.inl rfl) _) (fun _ => rfl) (fun own' w' K => acct_setNonce K (hrows i hi) he.nLt)⟩
set_option maxRecDepth 100000 in
set_option maxHeartbeats 1600000 in
theorem vUndo4 {i N W : Nat} {B : List Nat} {F : Bool} (h : VRep own w g c V) (hjb : Blk w bj n t cj) (hown : own bj = 3) (he : JEC (Mu own) w cj p ⟨4, i, N, W, B, F⟩) (hp : p + 9 ≤ n) (hi : i < V.accts.length) :
    Calls Hvah.prog 408 #[.pointer (some ⟨g, 2435, none⟩), .pointer (some ⟨bj, p, none⟩)] w fun e w' => e = .returned (.bool true) ∧ VRep own w' g c (V.modA i fun x => { x with warm := F }) ∧ VStep own w c own w' c := by
  obtain ⟨b, cap, c2, hv, hlc, hcm, hb, hob, hrows, hin⟩ := h.acctIx hi
  have e0 := hjb.cell (i := p) (by omega)
  rw [he.kind] at e0
  have e1 := hjb.cell (i := p + 1) (by omega)
  rw [he.at_] at e1
  have e2 := hjb.cell (i := p + 8) (by omega)
  rw [he.flag] at e2
  have t0 := hb.cell (i := i * 29 + 26) (by omega)
  have k0 := h.blk.cell (i := 2435) (by omega)
  rw [hv] at k0
  have hf := hb.fz
  have hii : (i : Int) < V.accts.length := by omega
  have hwi : IntKind.i64.wrap (i : Int) = (i : Int) := by rw [IntKind.wrap_i64]; have := h.nA; omega
  have hbj : b ≠ bj := fun q => by rw [q, hown] at hob; omega
  go_enter Hvah.func408, Hvah.ntmps408
  go_wp2
  go_quiet (fail)
  go_wp2
  go_quiet (fail)
  go_wp2
  go_ret
  refine ⟨rfl, modA_end (f := fun x => { x with warm := F }) (c3 := updv c2 (i * 29 + 26) (.bool F)) h hv hlc hcm hob hi hrows ((hb.drewN _).set _ _) (fun j hj => updv_ne _ _ (by omega)) (((Mod.refl (· = b) w).drewN _).setCell (Or.inl rfl) _) (fun _ => rfl) (fun own' w' K => acct_putWarm F K (hrows i hi))⟩
set_option maxRecDepth 100000 in
set_option maxHeartbeats 1600000 in
theorem vUndo9 {i N W : Nat} {B : List Nat} {F : Bool} (h : VRep own w g c V) (hjb : Blk w bj n t cj) (hown : own bj = 3) (he : JEC (Mu own) w cj p ⟨9, i, N, W, B, F⟩) (hp : p + 9 ≤ n) (hi : i < V.accts.length) :
    Calls Hvah.prog 408 #[.pointer (some ⟨g, 2435, none⟩), .pointer (some ⟨bj, p, none⟩)] w fun e w' => e = .returned (.bool true) ∧ VRep own w' g c (V.modA i fun x => { x with made := F }) ∧ VStep own w c own w' c := by
  obtain ⟨b, cap, c2, hv, hlc, hcm, hb, hob, hrows, hin⟩ := h.acctIx hi
  have e0 := hjb.cell (i := p) (by omega)
  rw [he.kind] at e0
  have e1 := hjb.cell (i := p + 1) (by omega)
  rw [he.at_] at e1
  have e2 := hjb.cell (i := p + 8) (by omega)
  rw [he.flag] at e2
  have t0 := hb.cell (i := i * 29 + 27) (by omega)
  have k0 := h.blk.cell (i := 2435) (by omega)
  rw [hv] at k0
  have hf := hb.fz
  have hii : (i : Int) < V.accts.length := by omega
  have hwi : IntKind.i64.wrap (i : Int) = (i : Int) := by rw [IntKind.wrap_i64]; have := h.nA; omega
  have hbj : b ≠ bj := fun q => by rw [q, hown] at hob; omega
  go_enter Hvah.func408, Hvah.ntmps408
  go_wp2
  go_quiet (fail)
  go_wp2
  go_quiet (fail)
  go_wp2
  go_ret
  refine ⟨rfl, modA_end (f := fun x => { x with made := F }) (c3 := updv c2 (i * 29 + 27) (.bool F)) h hv hlc hcm hob hi hrows ((hb.drewN _).set _ _) (fun j hj => updv_ne _ _ (by omega)) (((Mod.refl (· = b) w).drewN _).setCell (Or.inl rfl) _) (fun _ => rfl) (fun own' w' K => acct_putMade F K (hrows i hi))⟩
set_option maxRecDepth 100000 in
set_option maxHeartbeats 1600000 in
theorem vUndo10 {i N W : Nat} {B : List Nat} {F : Bool} (h : VRep own w g c V) (hjb : Blk w bj n t cj) (hown : own bj = 3) (he : JEC (Mu own) w cj p ⟨10, i, N, W, B, F⟩) (hp : p + 9 ≤ n) (hi : i < V.accts.length) :
    Calls Hvah.prog 408 #[.pointer (some ⟨g, 2435, none⟩), .pointer (some ⟨bj, p, none⟩)] w fun e w' => e = .returned (.bool true) ∧ VRep own w' g c (V.modA i fun x => { x with gone := F }) ∧ VStep own w c own w' c := by
  obtain ⟨b, cap, c2, hv, hlc, hcm, hb, hob, hrows, hin⟩ := h.acctIx hi
  have e0 := hjb.cell (i := p) (by omega)
  rw [he.kind] at e0
  have e1 := hjb.cell (i := p + 1) (by omega)
  rw [he.at_] at e1
  have e2 := hjb.cell (i := p + 8) (by omega)
  rw [he.flag] at e2
  have t0 := hb.cell (i := i * 29 + 28) (by omega)
  have k0 := h.blk.cell (i := 2435) (by omega)
  rw [hv] at k0
  have hf := hb.fz
  have hii : (i : Int) < V.accts.length := by omega
  have hwi : IntKind.i64.wrap (i : Int) = (i : Int) := by rw [IntKind.wrap_i64]; have := h.nA; omega
  have hbj : b ≠ bj := fun q => by rw [q, hown] at hob; omega
  go_enter Hvah.func408, Hvah.ntmps408
  go_wp2
  go_quiet (fail)
  go_wp2
  go_quiet (fail)
  go_wp2
  go_ret
  refine ⟨rfl, modA_end (f := fun x => { x with gone := F }) (c3 := updv c2 (i * 29 + 28) (.bool F)) h hv hlc hcm hob hi hrows ((hb.drewN _).set _ _) (fun j hj => updv_ne _ _ (by omega)) (((Mod.refl (· = b) w).drewN _).setCell (Or.inl rfl) _) (fun _ => rfl) (fun own' w' K => acct_putGone F K (hrows i hi))⟩
set_option maxRecDepth 100000 in
set_option maxHeartbeats 1600000 in
theorem vUndo0 {i N W : Nat} {B : List Nat} {F : Bool} (h : VRep own w g c V) (hjb : Blk w bj n t cj) (hown : own bj = 3) (he : JEC (Mu own) w cj p ⟨0, i, N, W, B, F⟩) (hp : p + 9 ≤ n) (hi : i < V.accts.length) :
    Calls Hvah.prog 408 #[.pointer (some ⟨g, 2435, none⟩), .pointer (some ⟨bj, p, none⟩)] w fun e w' => e = .returned (.bool true) ∧ VRep own w' g c (V.modA i fun x => { x with bal := W }) ∧ VStep own w c own w' c := by
  obtain ⟨b, cap, c2, hv, hlc, hcm, hb, hob, hrows, hin⟩ := h.acctIx hi
  have e0 := hjb.cell (i := p) (by omega)
  rw [he.kind] at e0
  have e1 := hjb.cell (i := p + 1) (by omega)
  rw [he.at_] at e1
  have e2 := hjb.cell (i := p + 3) (by omega)
  rw [he.wd.c0] at e2
  have e3 := hjb.cell (i := p + 4) (by omega)
  rw [he.wd.c1] at e3
  have e4 := hjb.cell (i := p + 5) (by omega)
  rw [he.wd.c2] at e4
  have e5 := hjb.cell (i := p + 6) (by omega)
  rw [he.wd.c3] at e5
  have t0 := hb.cell (i := i * 29 + 21) (by omega)
  have t1 := hb.cell (i := i * 29 + 22) (by omega)
  have t2 := hb.cell (i := i * 29 + 23) (by omega)
  have t3 := hb.cell (i := i * 29 + 24) (by omega)
  have k0 := h.blk.cell (i := 2435) (by omega)
  rw [hv] at k0
  have hf := hb.fz
  have hii : (i : Int) < V.accts.length := by omega
  have hwi : IntKind.i64.wrap (i : Int) = (i : Int) := by rw [IntKind.wrap_i64]; have := h.nA; omega
  have hbj : b ≠ bj := fun q => by rw [q, hown] at hob; omega
  go_enter Hvah.func408, Hvah.ntmps408
  go_wp2
  go_quiet (fail)
  go_wp2
  go_quiet (fail)
  go_wp2
  go_ret
  refine ⟨rfl, modA_end (f := fun x => { x with bal := W }) (c3 := upd4 c2 (i * 29 + 21) W) h hv hlc hcm hob hi hrows ((hb.drewN _).set4 _ _) (fun j hj => upd4_out _ _ _ _ (by omega)) (((Mod.refl (· = b) w).drewN _).set4 (Or.inl rfl) _ _ _ _ _) (fun _ => rfl) (fun own' w' K => acct_setBal K (hrows i hi) he.wLt)⟩
end
end Go.Proofs.YgvahwGreat
