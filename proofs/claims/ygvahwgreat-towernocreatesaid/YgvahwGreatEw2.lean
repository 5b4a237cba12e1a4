import Derived.Test.YgvahwGreatEw1
import Derived.Test.YgvahwGreatFv0
import Derived.Test.YgvahwGreatRowsT
namespace Go.Proofs.YgvahwGreat
open Go.RowKit
set_option linter.unusedSimpArgs false
set_option maxRecDepth 1000000 in
theorem zeroC92 : ZeroC (cf (z92 Hvah.prog)) := ⟨by kernel_rfl, by kernel_rfl, by kernel_rfl, by kernel_rfl, by kernel_rfl, by kernel_rfl, by kernel_rfl, by kernel_rfl⟩
set_option maxRecDepth 1000000 in
theorem z92b : cf (z92 Hvah.prog) 27023 = .bool false := by kernel_rfl
theorem z76c1 : cf (z76 Hvah.prog) 1 = .slice none 0 0 := by kernel_rfl
theorem z76c2 : cf (z76 Hvah.prog) 2 = .int .u32 0 := by kernel_rfl
theorem z76c10 : cf (z76 Hvah.prog) 10 = .int .u8 0 := by kernel_rfl
theorem z76c2259 : cf (z76 Hvah.prog) 2259 = .slice none 0 0 := by kernel_rfl
theorem z76c2400 : cf (z76 Hvah.prog) 2400 = .int .u64 0 ∧ cf (z76 Hvah.prog) 2401 = .int .u64 0 ∧ cf (z76 Hvah.prog) 2402 = .int .u64 0 ∧ cf (z76 Hvah.prog) 2403 = .int .u64 0 := ⟨by kernel_rfl, by kernel_rfl, by kernel_rfl, by kernel_rfl⟩
theorem z76c2404 : cf (z76 Hvah.prog) 2404 = .int .u8 0 ∧ cf (z76 Hvah.prog) 2405 = .int .u8 0 ∧ cf (z76 Hvah.prog) 2406 = .int .u8 0 ∧ cf (z76 Hvah.prog) 2407 = .int .u64 0 := ⟨by kernel_rfl, by kernel_rfl, by kernel_rfl, by kernel_rfl⟩
theorem z76o : (List.range 20).map (fun j => cf (z76 Hvah.prog) (2380 + j)) = List.replicate 20 (.int .u8 0) := by kernel_rfl
theorem z76m : (List.range 20).map (fun j => cf (z76 Hvah.prog) (2415 + j)) = List.replicate 20 (.int .u8 0) := by kernel_rfl
theorem av0l : (List.range 20).map (fun j => cf (av 0) j) = List.replicate 20 (.int .u8 0) := by kernel_rfl
theorem range_get {f : Nat → Value} {x : Value} (h : (List.range 20).map f = List.replicate 20 x) {j : Nat} (hj : j < 20) : f j = x := by
  have h1 : ((List.range 20).map f)[j]? = some (f j) := by simp [hj]
  rw [h, List.getElem?_replicate, if_pos hj] at h1
  injection h1 with h1
  exact h1.symm
theorem lim_zeroW (i : Nat) : lim 0 i = 0 := by unfold lim; simp
theorem wat_zeroW {c : Nat → Value} {o : Nat} (h0 : c o = .int .u64 0) (h1 : c (o + 1) = .int .u64 0) (h2 : c (o + 2) = .int .u64 0) (h3 : c (o + 3) = .int .u64 0) : WAt c o 0 :=
  ⟨by rw [lim_zeroW]; exact h0, by rw [lim_zeroW]; exact h1, by rw [lim_zeroW]; exact h2, by rw [lim_zeroW]; exact h3⟩
theorem aat_zeroW {c : Nat → Value} {o : Nat} (h : ∀ j, j < 20 → c (o + j) = .int .u8 0) : AAt c o 0 := fun i v hv => by
  have hi := (Array.getElem?_eq_some_iff.1 hv).1
  rw [av_size (show 0 < 2 ^ 160 by decide)] at hi
  rw [h i hi]
  have := get_cf (r := av 0) (i := i) (by rw [av_size (show 0 < 2 ^ 160 by decide)]; exact hi)
  rw [this, range_get av0l hi] at hv
  injection hv
/-- The state at the start. -/
def st0 (l : List IAcct) (e : AEnv) : ASt := { now := (newW l).abs, orig := (newW l).abs.slot, frames := [], ret := [], phase := 0, status := 0, applied := 0, limit := 0, txGas := 0, left := 0, price := 0, origin := 0, made := 0, env := e }
/-- The engine at the start. -/
structure EIdle (n : Nat) (l : List IAcct) (e : AEnv) (own : Nat → Nat) (w : World) (g : Nat) (c : Nat → Value) : Prop where
  h : MRep own w g c (fillV l) (st0 l e) [] []
  old : ∀ b, b < n → own b = 0
  gl : n ≤ g
section
variable {w : World} {r : Array Value} {e : AEnv} {v : Value} {l : List IAcct}
theorem idle_rep {own : Nat → Nat} {w7 w' : World} {g B : Nat} {c6 cB : Nat → Value} (hl : worldOKI l = true) (hV : VRep own w7 g c6 (fillV l)) (hz : ∀ i, i < 2435 ∨ 27019 ≤ i → c6 i = cf (z92 Hvah.prog) i) (hN : NewM (Mu own) w7 B cB (some ⟨g, 2435, none⟩) e) (hB : Blk w' g 27024 105 (layv c6 0 (rowOf cB 0 2435))) (m : Mod (· = g) w7 w') : MRep own w' g (layv c6 0 (rowOf cB 0 2435)) (fillV l) (st0 l e) [] [] := by
  obtain ⟨cF, hcF⟩ : ∃ z, layv c6 0 (rowOf cB 0 2435) = z := ⟨_, rfl⟩
  have lo : ∀ i, i < 2435 → cF i = cB i := fun i hi => by
    rw [← hcF]
    have := layv_in c6 0 (rowOf cB 0 2435) (j := i) (by rw [rowOf_size]; exact hi)
    rw [Nat.zero_add] at this
    rw [this, cf_rowOf _ _ _ hi, Nat.zero_add]
  have hi2 : ∀ i, 2435 ≤ i → cF i = c6 i := fun i hi => by
    rw [← hcF, layv_out _ _ _ (Or.inr (by rw [rowOf_size]; omega))]
  rw [hcF] at hB ⊢
  obtain ⟨hok, _, _⟩ := fillV_ok hl
  have K : Keep own own g 7 w7 w' := ⟨fun _ _ => rfl, m.sub (fun b hb => Or.inl hb), hV.tag, by decide⟩
  have hV' : VRep own w' g cF (fillV l) := hV.low7 K (fun b hb => hV.fresh b (Nat.le_trans m.size hb)) hB hi2
  have z : ∀ i, i < 2435 → i ≠ 0 → i ≠ 2258 → (i < 2260 ∨ 2380 ≤ i) → cF i = cf (z76 Hvah.prog) i := fun i h1 h2 h3 h4 => (lo i h1).trans (hN.rest i h1 h2 h3 h4)
  have hbare := hok.bare
  refine ⟨hV', ?_, hok.abs, ⟨?_, ?_, ?_, ?_⟩, hok.orig, ?_, List.Pairwise.nil, ?_, ?_⟩
  · refine ⟨(lo 0 (by decide)).trans hN.ptr, ⟨?_, ?_, ?_, (Nat.zero_le 7), ?_, (Nat.zero_le 5020960)⟩, trivial, ?_, ?_, ?_, ?_, (show (0 : Nat) < 2 ^ 160 by decide), ?_, ?_, ?_, (show (0 : Nat) ≤ 2 by decide), ?_, (show (0 : Nat) < 256 by decide), ?_, (show (0 : Nat) < 256 by decide), ?_, (show (0 : Nat) < 18446744073709551616 by decide), ?_, (show (0 : Nat) < 2 ^ 160 by decide), ?_, (show (0 : Nat) < 18446744073709551616 by decide)⟩
    · exact (z 10 (by decide) (by decide) (by decide) (by decide)).trans z76c10
    · exact (z 2 (by decide) (by decide) (by decide) (by decide)).trans z76c2
    · exact Or.inl ⟨rfl, (z 1 (by decide) (by decide) (by decide) (by decide)).trans z76c1⟩
    · intro m hm; exact absurd hm List.not_mem_nil
    · exact (lo 2258 (by decide)).trans hN.top
    · rw [z 2259 (by decide) (by decide) (by decide) (by decide), z76c2259]; exact NL.nil
    · exact hN.env.same (fun j h1 h2 => lo j (by omega)) (fun v l k => K.wl k)
    · exact aat_zeroW (fun j hj => (z _ (by omega) (by omega) (by omega) (by omega)).trans (range_get z76o hj))
    · exact wat_zeroW ((z 2400 (by decide) (by decide) (by decide) (by decide)).trans z76c2400.1) ((z 2401 (by decide) (by decide) (by decide) (by decide)).trans z76c2400.2.1) ((z 2402 (by decide) (by decide) (by decide) (by decide)).trans z76c2400.2.2.1) ((z 2403 (by decide) (by decide) (by decide) (by decide)).trans z76c2400.2.2.2)
    · show (0 : Nat) < P256
      rw [P256_eq]; decide
    · exact (z 2404 (by decide) (by decide) (by decide) (by decide)).trans z76c2404.1
    · exact (z 2405 (by decide) (by decide) (by decide) (by decide)).trans z76c2404.2.1
    · exact (z 2406 (by decide) (by decide) (by decide) (by decide)).trans z76c2404.2.2.1
    · exact (z 2407 (by decide) (by decide) (by decide) (by decide)).trans z76c2404.2.2.2
    · exact aat_zeroW (fun j hj => (z _ (by omega) (by omega) (by omega) (by omega)).trans (range_get z76m hj))
    · intro _ q; exact absurd (show (0 : Nat) = 2 from q) (by decide)
  · rw [hbare.journal]; intro x hx; exact absurd hx List.not_mem_nil
  · rw [hbare.journal]; exact Nat.zero_le _
  · rw [hbare.marks]; intro x hx; exact absurd hx List.not_mem_nil
  · rw [hbare.marks]; exact List.Pairwise.nil
  · intro s hs; exact absurd hs List.not_mem_nil
  · intro i hi; exact absurd hi (Nat.not_lt_zero _)
  · rw [hi2 27023 (by decide), hz 27023 (Or.inr (by decide))]; exact z92b
theorem eNewI (hin : EL 55 (IAcC (fun _ => False) w) (fun _ => False) w v l) (hl : worldOKI l = true) (hr : r.size = 120) (h : EnvI (fun _ => False) w (cf r) e) (hf : e.hashes.length ≤ 4) : Calls Hvah.prog 21 #[v, .agg r] w fun x w' => ∃ g own c, x = .returned (.tuple #[.pointer (some ⟨g, 0, none⟩), .bool true]) ∧ EIdle w.heap.size l e own w' g c ∧ Ext w w' := by
  refine (eNewGood2 hr h hf (fun O6 g c6 w6 => ∃ own, O6 = Mu own ∧ VRep own w6 g c6 (fillV l) ∧ (∀ i, i < 2435 ∨ 27019 ≤ i → c6 i = cf (z92 Hvah.prog) i) ∧ (∀ b, b < w.heap.size → own b = 0)) (fun W g hW hB hg => ?_)).mono ?_
  · refine (vFill hin hl hW hg hB zeroC92).mono ?_
    rintro x w' ⟨own, c', rfl, hV, hz, ho, hm⟩
    have ho2 : ∀ b, b < w.heap.size → own b = 0 := fun b hb => by
      rw [ho b (Nat.lt_of_lt_of_le hb hW.size), if_neg (by omega)]
    refine ⟨Mu own, c', rfl, hV.blk, ⟨own, rfl, hV, hz, ho2⟩, ?_, ?_, hm⟩
    · have e6 : Ext w w' := Ext.trans_mod hW hm (fun q hq => by have hq2 : q = g := hq; rw [hq2]; exact hg)
      refine EnvI.ext (w := w) { h with hashes := ?_ } e6
      rcases h.hashes with q | ⟨b, off, cap, q1, q2, q3, q4, q5, q6⟩
      · exact Or.inl q
      · exact Or.inr ⟨b, off, cap, q1, q2, q3, (fun k => k (ho2 b q5)), q5, q6⟩
    · intro b hb
      rcases Nat.lt_or_ge b w'.heap.size with q | q
      · exact q
      · exact absurd (hV.fresh b q) hb
  · rintro x w' ⟨O6, g, c6, w6, w7, B, cB, rfl, hg, ⟨own, rfl, hV, hz, ho⟩, e6, e7, hN, hgB, hB, hm⟩
    exact ⟨g, own, _, rfl, ⟨idle_rep hl (hV.ext e7) hz hN hB hm, ho, hg⟩, Ext.trans_mod (e6.trans e7) hm (fun q hq => by have hq2 : q = g := hq; rw [hq2]; exact hg)⟩
end
end Go.Proofs.YgvahwGreat
