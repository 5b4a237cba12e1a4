import Derived.Test.YgvahwGreatVaultC
namespace Go.Proofs.YgvahwGreat
open Go.RowKit
attribute [local go_sem] wv_fold run_eq_wv

/-- A transient slot of the arena, from cell o on. -/
structure TempC (c : Nat → Value) (o : Nat) (x : ETemp) : Prop where
  acct : c o = .int .i32 (x.acct : Nat)
  aLt : x.acct < 2560
  key : WAt c (o + 1) x.key
  kLt : x.key < P256
  val : WAt c (o + 5) x.val
  vLt : x.val < P256
/-- The transient slots' arena. -/
def TempRow (T : Nat → Prop) (w : World) (v : Value) (l : List ETemp) : Prop :=
  (l = [] ∧ v = .slice none 0 0) ∨ ∃ b cap c, v = .slice (some ⟨b, 0, none⟩) l.length cap ∧ l.length ≤ cap ∧ cap ≤ 9223372036854775807 ∧ Blk w b (cap * 9) 439 c ∧ T b ∧ ∀ (i : Nat) (h : i < l.length), TempC c (i * 9) l[i]
/-- The transient slots' table. -/
def TTab (T : Nat → Prop) (w : World) (v : Value) (t : Nat → Int) : Prop := ∃ b cap c, v = .slice (some ⟨b, 0, none⟩) 16384 cap ∧ 16384 ≤ cap ∧ Blk w b cap 21 c ∧ T b ∧ ∀ p, p < 16384 → c p = .int .i32 (t p)
/-- What findTemp answers. -/
def foundT (l : List ETemp) (n k : Nat) (t : Nat → Int) (i f : Int) : Prop :=
  (∃ j, ixG ETemp.kc (n, k) l = some j ∧ i = j ∧ f = -1) ∨ (ixG ETemp.kc (n, k) l = none ∧ i = -1 ∧ ∃ d, d < 16384 ∧ f = ((mixP n k % 16384 + d) % 16384 : Nat) ∧ t ((mixP n k % 16384 + d) % 16384) = -1 ∧ ∀ e, e < d → 0 ≤ t ((mixP n k % 16384 + e) % 16384))
set_option maxRecDepth 100000 in
set_option maxHeartbeats 1600000 in
theorem vFindTemp (T T' : Nat → Prop) (g n k : Nat) (c : Nat → Value) (l : List ETemp) (t : Nat → Int) (w : World) (hn : n < 2560) (hk : k < P256) (hB : Blk w g 27024 105 c) (hl : l.length ≤ 12288) (ho : Once ETemp.kc l) (hrow : TempRow T w (c 27017) l)
    (ht : TTab T' w (c 27018) t) (hT : TOK 16384 l.length (fun i => mixP (l.getD i (ETemp.new 0 0)).acct (l.getD i (ETemp.new 0 0)).key % 16384) t) :
    Calls Hvah.prog 391 #[.pointer (some ⟨g, 2435, none⟩), .int .i32 n, wv k] w fun e w' => ∃ i f : Int, e = .returned (.tuple #[.int .i32 i, .int .i32 f]) ∧ foundT l n k t i f ∧ Ext w w' := by
  have H := fun W => vMixSlot n k W (by omega)
  have hML := mixP_lt n k (by omega)
  have hlt := hB.lt
  have hH : mixP n k % 16384 < 16384 := Nat.mod_lt _ (by decide)
  obtain ⟨h0, HH⟩ : ∃ h0, Hid (mixP n k % 16384 = h0) := ⟨mixP n k % 16384, (rfl : mixP n k % 16384 = _)⟩
  unfold foundT
  rw [HH.out] at hH ⊢
  obtain ⟨bT, capT, cT, hvT, hcT, hbT, hOT, hTc⟩ := ht
  have z0 := hB.cell (i := 27018) (by omega)
  rw [hvT] at z0
  have HM : ∀ W, Calls Hvah.prog 360 #[.int .i32 n, wv k] W fun e w' => e = .returned (.int .u64 (mixP n k : Nat)) ∧ Ext W w' := H
  obtain ⟨mx, hmx⟩ : ∃ m, Hid (mixP n k = m) := ⟨mixP n k, (rfl : mixP n k = _)⟩
  have HH2 : (mx : Int) % 16384 = (h0 : Int) := by have := HH.out; rw [hmx.out] at this; omega
  rw [hmx.out] at HM hML
  clear H
  go_enter Hvah.func391, Hvah.ntmps391
  go_wp2_with (first | (go_at_call 360; refine (HM _).mono ?_; rintro e w1 ⟨rfl, he⟩))
  clear HM
  go_loopw [8, 9] (fun p q wr => ∃ d : Nat, d ≤ 16384 ∧ p = .int .u64 ((h0 + d) % 16384 : Nat) ∧ q = .int .i64 d ∧ Ext (boxW w k) wr ∧ ∀ e, e < d → 0 ≤ t ((h0 + e) % 16384) ∧ ∀ j : Nat, t ((h0 + e) % 16384) = j → (l.getD j (ETemp.new 0 0)).kc ≠ (n, k)) (fun _ q _ => 16384 - (intOf q).toNat)
  case atStart => exact ⟨0, by omega, by rw [Nat.add_zero, Nat.mod_eq_of_lt hH, HH2], rfl, he, fun e h => by omega⟩
  case round =>
    clear HH2
    obtain ⟨d, hd, rfl, rfl, hE, hinv⟩ := hrel
    have hd' : d < 16384 := by
      rcases Nat.lt_or_ge d 16384 with h | h
      · exact h
      · obtain ⟨d0, h1, h2⟩ := hT.free (by omega) h0
        have := (hinv d0 (by omega)).1
        omega
    have hP : (h0 + d) % 16384 < 16384 := Nat.mod_lt _ (by decide)
    have hnext : Hid ((h0 + (d + 1)) % 16384 = ((h0 + d) % 16384 + 1) % 16384) := by unfold Hid; omega
    have hdi : (d : Int) < 16384 := by omega
    have HT := hT.rng _ hP
    obtain ⟨P, hPe⟩ : ∃ P, P = (h0 + d) % 16384 := ⟨_, rfl⟩
    rw [← hPe] at hP hnext HT ⊢
    have HP : Hid (P = (h0 + d) % 16384) := hPe
    clear hPe
    have hBr := (hB.alloc #[.int .u64 (lim k 0 : Nat), .int .u64 (lim k 1 : Nat), .int .u64 (lim k 2 : Nat), .int .u64 (lim k 3 : Nat)] 79).ext hE
    have hbTr := (hbT.alloc #[.int .u64 (lim k 0 : Nat), .int .u64 (lim k 1 : Nat), .int .u64 (lim k 2 : Nat), .int .u64 (lim k 3 : Nat)] 79).ext hE
    have k1 := hbTr.cell (i := P) (by omega)
    rw [hTc P hP] at k1
    have z1 := hBr.cell (i := 27018) (by omega)
    rw [hvT] at z1
    have k0 := hBr.cell (i := 27017) (by omega)
    have hPi : (P : Int) < 16384 := by omega
    rcases HT with hneg | hpos
    · rw [hneg] at k1
      go_wp2
      go_ret2
      refine ⟨-1, P, rfl, Or.inr ⟨?_, rfl, d, hd', by rw [HP.out], by rw [← HP.out]; exact hneg, fun e h => (hinv e h).1⟩, ((Ext.refl _).alloc _ _).trans hE⟩
      cases hc : ixG ETemp.kc (n, k) l with
      | none => rfl
      | some j =>
        exfalso
        obtain ⟨h1, h2⟩ := ix_some hc
        have e1 : (l.getD j (ETemp.new 0 0)).kc = (n, k) := by simpa [h1] using h2
        have e2 : (l.getD j (ETemp.new 0 0)).acct = n := congrArg Prod.fst e1
        have e3 : (l.getD j (ETemp.new 0 0)).key = k := congrArg Prod.snd e1
        have := hT.none (i := j) (d := d) h1 (by rw [e2, e3, HH.out, ← HP.out]; exact hneg)
        obtain ⟨e, h3, h4⟩ := this
        simp only [e2, e3, HH.out] at h4
        exact (hinv e h3).2 j h4 e1
    · obtain ⟨j, hj⟩ : ∃ j : Nat, t P = j := ⟨(t P).toNat, by omega⟩
      rw [hj] at k1 hpos
      have hjl : j < l.length := by omega
      rcases hrow with ⟨rfl, _⟩ | ⟨b, cap, c2, hv, hcap, hcm, hb2, hO, hA⟩
      · simp at hjl
      rw [hv] at k0
      have hAj := hA j hjl
      have hb3 := (hb2.alloc #[.int .u64 (lim k 0 : Nat), .int .u64 (lim k 1 : Nat), .int .u64 (lim k 2 : Nat), .int .u64 (lim k 3 : Nat)] 79).ext hE
      have hin : j * 9 + 9 ≤ cap * 9 := by have : (j + 1) * 9 ≤ cap * 9 := Nat.mul_le_mul_right _ (by omega); omega
      have ra := hb3.cell (i := j * 9) (by omega)
      rw [hAj.acct] at ra
      obtain ⟨q0, q1, q2, q3⟩ := hAj.key.cells hb3 (by omega)
      obtain ⟨m, hm⟩ : ∃ m, Hid (l[j].acct = m) := ⟨l[j].acct, (rfl : l[j].acct = l[j].acct)⟩
      obtain ⟨x, hx⟩ : ∃ x, Hid (l[j].key = x) := ⟨l[j].key, (rfl : l[j].key = l[j].key)⟩
      have hxl : x < P256 := by rw [← hx.out]; exact hAj.kLt
      have hml : (m : Int) < 2560 := by rw [← hm.out]; have := hAj.aLt; omega
      rw [hm.out] at ra
      rw [hx.out] at q0 q1 q2 q3
      have hjj : (j : Int) < l.length := by omega
      have hwj : IntKind.i64.wrap (j : Int) = (j : Int) := by rw [IntKind.wrap_i64]; omega
      obtain ⟨f0, f1, f2, f3⟩ := cell_there ((hE.block w.heap.size (by simp)).trans (heap_new _ _))
      go_upto_region 10 with fail
      refine rg_still (by kernel_rfl) fun W hW hc => ?_
      rw [← hc] at k0 k1 z1 ra q0 q1 q2 q3 f0 f1 f2 f3
      have hE' := hE.trans hW
      clear hc hAj hA hb2 hb3 hBr hB hT hbT hbTr hTc hvT hv hcm hO hpos hE hW he
      by_cases hmn : m = n
      · subst hmn
        repeat (refine wpStill_step (fun K hK => ?_); go_simp; refine hK _ ?_; clear hK K)
        refine wpStill_nil ?_
        by_cases hq : x = k
        · go_wp2
          go_ret2
          refine ⟨j, -1, rfl, Or.inl ⟨j, ?_, rfl, rfl⟩, ((Ext.refl _).alloc _ _).trans hE'⟩
          have : l[j].kc = (m, k) := by unfold ETemp.kc; rw [hm.out, hx.out, hq]
          rw [← this]; exact ix_once ho hjl
        · go_wp2
          refine ⟨⟨d + 1, by omega, ?_, int_eq (by omega), hE', fun e h => ?_⟩, by simp [intOf]; omega⟩
          · rw [hnext.out]; exact int_eq (by omega)
          · rcases Nat.lt_or_ge e d with h1 | h1
            · exact hinv e h1
            · have : e = d := by omega
              subst this
              rw [← HP.out, hj]
              refine ⟨by omega, fun j2 h2 => ?_⟩
              have : j2 = j := by omega
              subst this
              have e1 : (l.getD j2 (ETemp.new 0 0)).key = x := by rw [← hx.out]; simp [hjl]
              exact fun e2 => hq (e1.symm.trans (congrArg Prod.snd e2))
      · have hmi : ¬ ((m : Int) = n) := by omega
        repeat (refine wpStill_step (fun K hK => ?_); go_simp; refine hK _ ?_; clear hK K)
        refine wpStill_nil ?_
        go_wp2
        refine ⟨⟨d + 1, by omega, ?_, int_eq (by omega), hE', fun e h => ?_⟩, by simp [intOf]; omega⟩
        · rw [hnext.out]; exact int_eq (by omega)
        · rcases Nat.lt_or_ge e d with h1 | h1
          · exact hinv e h1
          · have : e = d := by omega
            subst this
            rw [← HP.out, hj]
            refine ⟨by omega, fun j2 h2 => ?_⟩
            have : j2 = j := by omega
            subst this
            have e1 : (l.getD j2 (ETemp.new 0 0)).acct = m := by rw [← hm.out]; simp [hjl]
            exact fun e2 => hmn (e1.symm.trans (congrArg Prod.fst e2))
end Go.Proofs.YgvahwGreat
