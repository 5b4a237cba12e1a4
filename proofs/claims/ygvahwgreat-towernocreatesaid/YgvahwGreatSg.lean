import Derived.Test.YgvahwGreatMLb
import Derived.Test.YgvahwGreatCmpI
import Derived.Test.YgvahwGreatYpU
namespace Go.Proofs.YgvahwGreat
open Go.RowKit
theorem destA_end (c : List Nat) (a : Nat) : ∀ m k, c.length ≤ k → destA c a m k = false
  | 0, _, _ => rfl
  | m + 1, k, h => by rw [destA, if_neg (by omega)]
theorem immA_le (o : Nat) : immA o ≤ 32 := by unfold immA; split <;> omega
section
variable {O : Nat → Prop} {w : World} {v u : Value} {l : List Nat} {x : Nat}
set_option maxRecDepth 100000 in
set_option maxHeartbeats 1600000 in
theorem yIsDest (hO : Small O w) (h : NL O w v l) (g : NV O w u x) (hl : l.length ≤ 100000) : Calls Hvah.prog 149 #[v, u] w fun e w' => e = .returned (.bool (isDestA l x)) ∧ Ext w w' := by
  obtain ⟨o, c, rfl, h1, h2, h3⟩ := h
  have hlt := h3.lt
  have hll : (l.length : Int) ≤ 100000 := by omega
  have HA : ∀ k W, k < l.length → Ext w W → ∃ b off, o = some ⟨b, off, none⟩ ∧ W.cell? ⟨b, off + k, none⟩ = some (.int .u8 ((l.getD k 0 : Nat) : Int)) := fun k W hk hW => by
    obtain ⟨b, off, e, _, hb, hc⟩ := h3.spot (fun q => by rw [q] at hk; cases hk)
    exact ⟨b, off, e, by rw [hW.rc _ _ hb, hc k hk]; simp [List.getD, hk]⟩
  have hgb : ∀ k, k < l.length → l.getD k 0 < 256 := fun k hk => by
    have := hlt _ (List.getElem_mem hk)
    simpa [List.getD, hk] using this
  go_enter Hvah.func149, Hvah.ntmps149
  go_wp2
  go_loopw [5, 6] (fun p ix wr => ∃ k m, k ≤ 100033 ∧ ix = .int .i64 (k : Nat) ∧ Ext w wr ∧ NV O wr p k ∧ l.length - k ≤ m ∧ destA l x m k = isDestA l x) (fun _ ix _ => l.length - (intOf ix).toNat)
  case atStart => exact ⟨0, l.length, by omega, rfl, Ext.refl _, NV.nil, by omega, rfl⟩
  case round =>
    obtain ⟨k, m, hk0, rfl, hE, hp, hm, hd⟩ := hrel
    have hki0 : (k : Int) ≤ 100033 := by omega
    by_cases hk : k < l.length
    · have hki : (k : Int) < l.length := by omega
      obtain ⟨m, rfl⟩ : ∃ m', m = m' + 1 := ⟨m - 1, by omega⟩
      rw [destA, if_pos hk] at hd
      obtain ⟨b, off, rfl, ck0⟩ := HA k wr hk hE
      have hz := hgb k hk
      clear HA hgb
      by_cases hx : k = x
      · rw [if_pos hx] at hd
        have hck : cmpI k x = 0 := (cmpI_z k x).2 hx
        generalize l.getD k 0 = z at *
        have HD : Hid (_ = _) := hd
        clear hx hd
        go_wp2_with (first | (go_at_call 130; refine (nCmp O _ _ _ _ _ hp (g.ext hE)).mono ?_; rintro e w1 ⟨rfl, nd, rfl⟩; have ck := (((Ext.refl wr).drewN nd).cell (p := ⟨b, off + k, none⟩) (cell_lt ck0)).trans ck0))
        go_ret
        refine ⟨ret_b ?_, hE.trans ((Ext.refl _).drewN _)⟩
        rw [← HD.out, Bool.eq_iff_iff]
        simp only [beq_iff_eq, decide_eq_true_eq]
        omega
      · rw [if_neg hx] at hd
        have hck : ¬ cmpI k x = 0 := fun q => hx ((cmpI_z k x).1 q)
        have hI := immA_le (l.getD k 0)
        generalize l.getD k 0 = z at *
        obtain ⟨s, hs⟩ : ∃ s, Hid (1 + immA z = s) := ⟨_, rfl⟩
        have hs33 : s ≤ 33 := by have := hs.out; omega
        have i1 : (1 : Int) + (immA z : Nat) = s := by have := hs.out; omega
        have i2 : IntKind.u8.wrap (s : Int) = s := by rw [IntKind.wrap_u8']; omega
        have i3 : IntKind.i64.wrap ((k : Int) + s) = ((k + s : Nat) : Int) := by rw [IntKind.wrap_i64]; omega
        rw [show k + 1 + immA z = k + s by have := hs.out; omega] at hd
        have hdk : dl k ≤ 2000 := Nat.le_trans (dl_u64 _ (by omega)) (by decide)
        have hds : dl s ≤ 2000 := Nat.le_trans (dl_u64 _ (by omega)) (by decide)
        have hN : ∀ nd, NV O ((wr.drewN nd).alloc (.cells #[.int .u8 (s : Int)] 5)) (.slice (some ⟨wr.heap.size, 0, none⟩) 1 1) s := fun nd => ⟨[s], NL.row (t := 5) (heap_new (wr.drewN nd) _) (fun d hd => by rw [List.mem_singleton.1 hd]; omega) (fun hx => Nat.lt_irrefl _ (hO.ext hE _ hx)) rfl (by decide), by simp [val]⟩
        have HD : Hid (_ = _) := hd
        clear hx hd
        go_wp2_with (first
          | (go_at_call 130; refine (nCmp O _ _ _ _ _ hp (g.ext hE)).mono ?_; rintro e w1 ⟨rfl, nd, rfl⟩; have he1 := (Ext.refl wr).drewN nd; have ck := (he1.cell (p := ⟨b, off + k, none⟩) (cell_lt ck0)).trans ck0)
          | (go_at_call 160; refine (oImm z _ hz).mono ?_; rintro e w1 ⟨rfl, rfl⟩)
          | (go_at_call 44; refine (nAdd O _ _ _ _ _ ((hO.ext hE).ext (he1.alloc _ _)) (hp.ext (he1.alloc _ _)) (hN nd) hdk hds).mono ?_; rintro e w1 ⟨r, rfl, hr, he⟩))
        exact ⟨⟨k + s, m, by omega, rfl, (hE.trans (he1.alloc _ _)).trans he, hr, by have := hs.out; omega, HD.out⟩, by have := hs.out; simp [intOf]; omega⟩
    · have hki : ¬ (k : Int) < l.length := by omega
      rw [destA_end l x m k (by omega)] at hd
      have HD : Hid (_ = _) := hd
      clear hd
      go_wp2
      go_ret
      exact ⟨ret_b HD.out, hE⟩
end
end Go.Proofs.YgvahwGreat
