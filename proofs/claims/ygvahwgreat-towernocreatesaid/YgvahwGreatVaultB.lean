import Derived.Test.YgvahwGreatVaultA
import Derived.Test.YgvahwGreatArn
import Derived.Test.YgvahwGreatProbe
namespace Go.Proofs.YgvahwGreat
open Go.RowKit
attribute [local go_sem] wv_fold run_eq_av

/-- An address at twenty cells. -/
def AAt (c : Nat → Value) (o a : Nat) : Prop := ∀ i v, (av a)[i]? = some v → c (o + i) = v
theorem av_size {a : Nat} (h : a < 2 ^ 160) : (av a).size = 20 := by simp [av, bcells_length, len20 h]
theorem AAt.row {w : World} {g n o a : Nat} {t : TypeId} {c : Nat → Value} (h : AAt c o a) (ha : a < 2 ^ 160) (hB : Blk w g n t c) (hn : o + 20 ≤ n) : RowIn w g o (av a) := fun i v hv => by
  have hi : i < 20 := by
    have := (Array.getElem?_eq_some_iff.1 hv).1
    rw [av_size ha] at this; exact this
  rw [hB.cell (by omega), h i v hv]
/-- A boxed address. -/
theorem row_box {w w' : World} (a : Nat) (e : Ext (w.alloc (.cells (av a) 31)) w') : RowIn w' w.heap.size 0 (av a) := fun i v hv => by
  rw [e.rc _ _ (by simp), Nat.zero_add]
  have : (w.alloc (.cells (av a) 31)).heap[w.heap.size]? = some (.cells (av a) 31 (0, 0)) := heap_new _ _
  unfold World.cell?
  rw [this]
  exact hv
theorem RowIn.ext {w w' : World} {b o : Nat} {r : Array Value} (h : RowIn w b o r) (hb : b < w.heap.size) (e : Ext w w') : RowIn w' b o r := fun i v hv => by
  rw [e.rc _ _ hb]; exact h i v hv
theorem RowIn.drew {w : World} {b o : Nat} {r : Array Value} (h : RowIn w b o r) : RowIn w.drew b o r := h
/-- An account of the arena, from cell o on. -/
structure AcctC (O : Nat → Prop) (w : World) (c : Nat → Value) (o : Nat) (x : EAcct) : Prop where
  addr : AAt c o x.addr
  aLt : x.addr < 2 ^ 160
  nonce : c (o + 20) = .int .u64 (x.nonce : Nat)
  nLt : x.nonce < 18446744073709551616
  bal : WAt c (o + 21) x.bal
  bLt : x.bal < P256
  code : NL O w (c (o + 25)) x.code
  warm : c (o + 26) = .bool x.warm
  made : c (o + 27) = .bool x.made
  gone : c (o + 28) = .bool x.gone
/-- The accounts' arena. -/
def AcctRow (O T : Nat → Prop) (w : World) (v : Value) (l : List EAcct) : Prop :=
  (l = [] ∧ v = .slice none 0 0) ∨ ∃ b cap c, v = .slice (some ⟨b, 0, none⟩) l.length cap ∧ l.length ≤ cap ∧ cap ≤ 9223372036854775807 ∧ Blk w b (cap * 29) 176 c ∧ T b ∧ ∀ (i : Nat) (h : i < l.length), AcctC O w c (i * 29) l[i]

/-- What findAcct answers. -/
def foundA (l : List EAcct) (a : Nat) (t : Nat → Int) (i f : Int) : Prop :=
  (∃ j, ixG EAcct.addr a l = some j ∧ i = j ∧ f = -1) ∨ (ixG EAcct.addr a l = none ∧ i = -1 ∧ ∃ d, d < 4096 ∧ f = ((acctH a + d) % 4096 : Nat) ∧ t ((acctH a + d) % 4096) = -1 ∧ ∀ e, e < d → 0 ≤ t ((acctH a + e) % 4096))
theorem acctH_lt (a : Nat) : acctH a < 4096 := Nat.mod_lt _ (by decide)

set_option maxRecDepth 100000 in
set_option maxHeartbeats 1600000 in
theorem vFindAcct (O T : Nat → Prop) (g a : Nat) (c : Nat → Value) (l : List EAcct) (t : Nat → Int) (w : World) (ha : a < 2 ^ 160) (hB : Blk w g 27024 105 c) (hl : l.length ≤ 2560) (ho : Once EAcct.addr l) (hrow : AcctRow O T w (c 2435) l)
    (ht : ∀ p, p < 4096 → c (2437 + p) = .int .i32 (t p)) (hT : TOK 4096 l.length (fun i => acctH (l.getD i (EAcct.new 0)).addr) t) :
    Calls Hvah.prog 168 #[.pointer (some ⟨g, 2435, none⟩), .agg (av a)] w fun e w' => ∃ i f : Int, e = .returned (.tuple #[.int .i32 i, .int .i32 f]) ∧ foundA l a t i f ∧ Ext w w' := by
  have H := fun W => vAcctHome a W ha
  have hlt := hB.lt
  have hH := acctH_lt a
  go_enter Hvah.func168, Hvah.ntmps168
  go_wp2_with (first | ((with_reducible (refine Veil.out ?_; apply wl_box)); (case hx => rfl)) | ((with_reducible (refine Veil.out ?_; apply wl_load_av (n := a))); (case hn => exact ha); (case hx => rfl); (case hr => exact row_box a (Ext.refl _))) | (go_at_call 248; refine (H _).mono ?_; rintro e w1 ⟨rfl, he⟩))
  go_loopw [6, 7] (fun p k wr => ∃ d : Nat, d ≤ 4096 ∧ p = .int .u32 ((acctH a + d) % 4096 : Nat) ∧ k = .int .i64 d ∧ Ext (w.alloc (.cells (av a) 31)) wr ∧ ∀ e, e < d → 0 ≤ t ((acctH a + e) % 4096) ∧ ∀ j : Nat, t ((acctH a + e) % 4096) = j → (l.getD j (EAcct.new 0)).addr ≠ a) (fun _ k _ => 4096 - (intOf k).toNat)
  case atStart => exact ⟨0, by omega, by rw [Nat.add_zero, Nat.mod_eq_of_lt hH], rfl, he, fun e h => by omega⟩
  case round =>
    obtain ⟨d, hd, rfl, rfl, hE, hinv⟩ := hrel
    have hd' : d < 4096 := by
      rcases Nat.lt_or_ge d 4096 with h | h
      · exact h
      · obtain ⟨d0, h1, h2⟩ := hT.free (by omega) (acctH a)
        have := (hinv d0 (by omega)).1
        omega
    have hP : (acctH a + d) % 4096 < 4096 := Nat.mod_lt _ (by decide)
    have hnext : Hid ((acctH a + (d + 1)) % 4096 = ((acctH a + d) % 4096 + 1) % 4096) := by unfold Hid; omega
    have hdi : (d : Int) < 4096 := by omega
    have HT := hT.rng _ hP
    obtain ⟨P, hPe⟩ : ∃ P, P = (acctH a + d) % 4096 := ⟨_, rfl⟩
    rw [← hPe] at hP hnext HT ⊢
    have HP : Hid (P = (acctH a + d) % 4096) := hPe
    clear hPe
    have hBr := (hB.alloc (av a) 31).ext hE
    have k1 := hBr.cell (i := 2437 + P) (by omega)
    rw [ht P hP] at k1
    have k0 := hBr.cell (i := 2435) (by omega)
    have hPi : (P : Int) < 4096 := by omega
    rcases HT with hneg | hpos
    · rw [hneg] at k1
      go_wp2
      go_ret2
      refine ⟨-1, P, rfl, Or.inr ⟨?_, rfl, d, hd', by rw [HP.out], by rw [← HP.out]; exact hneg, fun e h => (hinv e h).1⟩, ((Ext.refl _).alloc _ _).trans hE⟩
      cases hc : ixG EAcct.addr a l with
      | none => rfl
      | some j =>
        exfalso
        obtain ⟨h1, h2⟩ := ix_some hc
        have e1 : (l.getD j (EAcct.new 0)).addr = a := by simpa [h1] using h2
        have := hT.none (i := j) (d := d) h1 (by rw [e1, ← HP.out]; exact hneg)
        obtain ⟨e, h3, h4⟩ := this
        simp only [e1] at h4
        exact (hinv e h3).2 j h4 e1
    · obtain ⟨j, hj⟩ : ∃ j : Nat, t P = j := ⟨(t P).toNat, by omega⟩
      rw [hj] at k1 hpos
      have hjl : j < l.length := by omega
      rcases hrow with ⟨rfl, _⟩ | ⟨b, cap, c2, hv, hcap, hcm, hb2, hO, hA⟩
      · simp at hjl
      rw [hv] at k0
      have hAj := hA j hjl
      have hb3 := (hb2.alloc (av a) 31).ext hE
      have hra := hAj.addr.row hAj.aLt hb3 (by have : (j + 1) * 29 ≤ cap * 29 := Nat.mul_le_mul_right _ (by omega); omega)
      have hrb := row_box a hE
      have hjj : (j : Int) < l.length := by omega
      have hwj : IntKind.i64.wrap (j : Int) = (j : Int) := by rw [IntKind.wrap_i64]; omega
      obtain ⟨x, hx⟩ : ∃ x, Hid (l[j].addr = x) := ⟨l[j].addr, (rfl : l[j].addr = l[j].addr)⟩
      have hxl : x < 2 ^ 160 := by rw [← hx.out]; exact hAj.aLt
      rw [hx.out] at hra
      go_upto_region 8 with fail
      refine rg_still (by kernel_rfl) fun W hW hc => ?_
      rw [← hc] at k0 k1
      have hra' := hra.ext hb3.lt hW
      have hrb' := hrb.ext (Nat.lt_of_lt_of_le (by simp) hE.size) hW
      have hE' := hE.trans hW
      clear hra hrb hc hAj hA hb2 hb3 hBr hB ht hT hv hcm hO hpos hE hW he
      repeat (refine wpStill_step (fun K hK => ?_); (first | (apply st_load_av b (j * 29) x hxl hra' rfl; (case hx => simp [Act.eval]); (case hw => simp [Region.wanted, yielded])) | (apply st_load_av w.heap.size 0 a ha hrb' rfl; (case hx => simp [Act.eval]); (case hw => simp [Region.wanted, yielded])) | skip); go_simp; refine hK _ ?_; clear hK K)
      refine wpStill_nil ?_
      by_cases hq : x = a
      · go_wp2
        go_ret2
        refine ⟨j, -1, rfl, Or.inl ⟨j, ?_, rfl, rfl⟩, ((Ext.refl _).alloc _ _).trans hE'⟩
        rw [← hq, ← hx.out]; exact ix_once ho hjl
      · go_wp2
        refine ⟨⟨d + 1, by omega, ?_, int_eq (by omega), hE', fun e h => ?_⟩, by simp [intOf]; omega⟩
        · rw [hnext.out]; exact int_eq (by omega)
        · rcases Nat.lt_or_ge e d with h1 | h1
          · exact hinv e h1
          · have : e = d := by omega
            subst this
            rw [← HP.out, hj]
            refine ⟨by omega, fun j2 h2 => ?_⟩
            have : j2 = j := by omega
            subst this
            have e1 : (l.getD j2 (EAcct.new 0)).addr = x := by rw [← hx.out]; simp [hjl]
            rw [e1]; exact hq
end Go.Proofs.YgvahwGreat
