import Derived.Test.YgvahwGreatYm2
import Derived.Test.YgvahwGreatTo
import Derived.Test.YgvahwGreatTi
namespace Go.Proofs.YgvahwGreat
open Go.RowKit
/-- The frame that a creation builds first. -/
theorem b147c {s : Nat} (hs : s < 2 ^ 160) {u v : Value} (hu : u.oneCell' = true) (hv : v.oneCell' = true) : ∃ R : Array Value, (∀ w, (Instr.build 156 ([(0, .int .u8 5), (5, u), (13, .agg (av s)), (10, v)] : List (Nat × Value)).toArray).run Hvah.prog w = .ok (.agg R) w) ∧ R.size = 60 ∧ Ones R ∧
    ∀ (O TM : Nat → Prop) (w : World) (x : Nat) (l : List Nat) (sv : AW), NV O w u x → NL O w v l → YFC O TM w (cf R) 0 { fr0 with kind := 5, value := x, caller := s, code := l, saved := sv } := by
  refine ⟨_, fun w => run_build_gen z147p z147q ([(0, .int .u8 5), (5, u), (13, .agg (av s)), (10, v)] : List (Nat × Value)) ⟨0, 1, rfl, rfl, by decide, 5, 1, rfl, by rw [one_cells hu]; rfl, by decide, 32, 20, rfl, av_size hs, by decide, 10, 1, rfl, by rw [one_cells hv]; rfl, by decide, trivial⟩ w, by rw [bld_size]; exact z147n, ?_, ?_⟩
  · refine ones_of (fun i hi => ?_)
    rw [bld_size] at hi
    rw [bld_get _ _ _ hi]
    simp only [partsA, List.map_cons, List.map_nil, List.getD_cons_zero, List.getD_cons_succ, bldc, one_cells hu, one_cells hv, one_cells (v := .int .u8 5) rfl, layv_one, one_agg]
    have hS := av_size hs
    unfold updv
    split
    · exact hv
    by_cases h1 : 32 ≤ i ∧ i < 52
    · obtain ⟨j, rfl⟩ : ∃ j, i = 32 + j := ⟨i - 32, by omega⟩
      rw [layv_in _ _ _ (by omega)]
      exact Ones.get (av_one _) (by omega)
    rw [layv_out _ _ _ (by omega)]
    split
    · exact hu
    split
    · rfl
    · exact Ones.get z147o hi
  · intro O TM w x l sv hx hl
    have e : ∀ i, i < 60 → cf (bld z147r (partsA [(0, 1), (1, 1), (2, 1), (3, 1), (4, 1), (5, 1), (6, 1), (7, 1), (8, 1), (9, 1), (10, 1), (11, 1), (12, 20), (32, 20), (52, 8)] [(0, .int .u8 5), (5, u), (13, .agg (av s)), (10, v)])) i = updv (layv (updv (updv (cf z147r) 0 (.int .u8 5)) 5 u) 32 (av s)) 10 v i := fun i hi => by
      rw [bld_get _ _ _ (by rw [z147n]; exact hi)]
      simp only [partsA, List.map_cons, List.map_nil, List.getD_cons_zero, List.getD_cons_succ, bldc, one_cells hu, one_cells hv, one_cells (v := .int .u8 5) rfl, layv_one, one_agg]
    have h0 : (0 : Nat) < 2 ^ 160 := by decide
    have k := (((((zeroC (O := O) (TM := TM) (w := w) sv).boxKind (x := 5) h0 h0 rfl).boxValue h0 h0 hx).boxCaller h0 h0 hs).boxCode h0 hs hl)
    exact k.same h0 hs (fun j hj => by rw [Nat.zero_add]; exact e j (by omega))
def b147d (P : Program) (s : Nat) (u v : Value) : Array Value := bltOf P 156 ([(0, .int .u8 5), (5, u), (13, .agg (av s)), (10, v)] : List (Nat × Value))
theorem b147D {s : Nat} (hs : s < 2 ^ 160) {u v : Value} (hu : u.oneCell' = true) (hv : v.oneCell' = true) : (∀ w, (Instr.build 156 ([(0, .int .u8 5), (5, u), (13, .agg (av s)), (10, v)] : List (Nat × Value)).toArray).run Hvah.prog w = .ok (.agg (b147d Hvah.prog s u v)) w) ∧ (b147d Hvah.prog s u v).size = 60 ∧ Ones (b147d Hvah.prog s u v) ∧
    ∀ (O TM : Nat → Prop) (w : World) (x : Nat) (l : List Nat) (sv : AW), NV O w u x → NL O w v l → YFC O TM w (cf (b147d Hvah.prog s u v)) 0 { fr0 with kind := 5, value := x, caller := s, code := l, saved := sv } := by
  have e : b147d Hvah.prog s u v = (b147c hs hu hv).choose := bltOf_eq (b147c hs hu hv).choose_spec.1
  rw [e]; exact (b147c hs hu hv).choose_spec
theorem acR_n {a : Nat} (ha : a < 2 ^ 160) (u1 u2 u3 u4 : Value) : cf (acR a u1 u2 u3 u4) 20 = u1 := by
  unfold acR; rw [cf_append, if_neg (by rw [av_size ha]; omega), av_size ha]; rfl
theorem acR_b {a : Nat} (ha : a < 2 ^ 160) (u1 u2 u3 u4 : Value) : cf (acR a u1 u2 u3 u4) 21 = u2 := by
  unfold acR; rw [cf_append, if_neg (by rw [av_size ha]; omega), av_size ha]; rfl
theorem rt108m : RowT 121 24 := rowT_of (by kernel_rfl) (by kernel_rfl)
theorem z108zm : (zeroOf Hvah.prog 121).map (fun z => z.size) = some 24 := by kernel_rfl
theorem z108m : ∃ z, zeroOf Hvah.prog 121 = some z ∧ z.size = 24 := by
  have h := z108zm
  cases e : zeroOf Hvah.prog 121 with
  | none => rw [e] at h; cases h
  | some z => rw [e] at h; exact ⟨z, rfl, by simpa using h⟩
theorem joinMc {P Fc : Nat → World → Value → Value → Value → Value → Prop} {G : Prop} (h : (∀ B W u1 u2 u3 u4, Fc B W u1 u2 u3 u4 → P B W u1 u2 u3 u4) → G) (k : ∀ B W u1 u2 u3 u4, Fc B W u1 u2 u3 u4 → P B W u1 u2 u3 u4) : G := h k
theorem joinMf {P Fc : World → Value → Prop} {G : Prop} (h : (∀ W u, Fc W u → P W u) → G) (k : ∀ W u, Fc W u → P W u) : G := h k
theorem readA_lenm (m : List Nat) (off k : Nat) : (readA m off k).length = k := by
  unfold readA cutA
  split
  · rename_i h; subst h; rfl
  · simp
theorem joinMe {P Fc : Nat → World → Value → Value → Value → Value → Prop} {G : Prop} (h : (∀ B W u v x y, Fc B W u v x y → P B W u v x y) → G) (k : ∀ B W u v x y, Fc B W u v x y → P B W u v x y) : G := h k
theorem YB.world {kk : Nat → Value} {O TM TL : Nat → Prop} {w w' : World} {Y F q n B : Nat} {c c' d dB : Nat → Value} {W W' : YW} {start : List (Nat × Nat × Nat)} {st st' : ASt} {f g : AFrame} (h : YB kk O TM TL w Y F q n c d W start st f B dB g) (hX : YX kk (Wd O B) TM TL w' Y F q n 156 c' d W' start st' f) (m : Mod (· = Y) w w') : YB kk O TM TL w' Y F q n c' d W' start st' f B dB g :=
  ⟨hX, h.b.mod m h.nY, h.fc.keep m (fun _ hb e => hb (e ▸ h.x.oY)) (fun _ q => q.elim), h.hs, h.hc, h.nY, h.nF, h.nM, h.nL, h.one⟩
/-- The creator while it waits. -/
def makeP (f : AFrame) (o : Nat) : AFrame := { f with gas := f.gas - sentA f.gas f.gas, stack := f.stack.drop (takesA o), outOff := 0, outLen := 0 }
/-- The address that it makes. -/
def makeS (f : AFrame) (o n : Nat) : Nat := if o = 245 then create2AddrA f.self (f.arg 3) (readA f.mem (f.arg 1) (f.arg 2)) else createAddrA f.self n
/-- The frame of a creation. -/
def makeC (now : AW) (f : AFrame) (o n : Nat) : AFrame :=
  { kind := if o = 245 then 6 else 5, pre := 0, static := false, pc := 0, gas := sentA f.gas f.gas, value := f.arg 0, outOff := 0, outLen := 0, stack := [], mem := [], code := readA f.mem (f.arg 1) (f.arg 2), input := [], self := makeS f o n, caller := f.self, saved := now }
end Go.Proofs.YgvahwGreat
