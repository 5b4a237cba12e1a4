import Derived.Test.YgvahwGreatYi0
import Derived.Test.YgvahwGreatYZe
import Derived.Test.YgvahwGreatTo
namespace Go.Proofs.YgvahwGreat
open Go.RowKit
set_option linter.unusedVariables false
section
variable {O TL : Nat → Prop} {w w' : World} {Y F n : Nat} {c d : Nat → Value} {W : YW} {start : List (Nat × Nat × Nat)} {st : ASt} {tot : Nat} {L : List YFrm}
/-- warmSlot on the whole state. -/
theorem zWarmSlot (h : YZ O TL w Y F n c d W start st tot L) (a : Nat) (ha : a < 2 ^ 160) (kv : Value) (key : Nat) (hkv : NV O w kv key) (hkey : key < Pk) (hl : YLim (W.warmSlot a key)) : Calls Hvah.prog 62 #[.pointer (some ⟨Y, 0, none⟩), .agg (av a), kv] w fun e w' => ∃ c', e = .returned (.tuple #[]) ∧ YZ O TL w' Y F n c' d (W.warmSlot a key) start { st with now := st.now.warmSlot a key } tot L ∧ Mod (· = Y) w w' := by
  refine (yWarmSlot h.bY (by decide) h.small h.oY W.warmS h.wc.warmS a ha kv key hkv hkey h.wf.warmS h.lim.warmS).mono ?_
  rintro e w1 ⟨v', rfl, hB, hL, m⟩
  have k := h.wc.keep m h.hsY
  have hab : (W.warmSlot a key).abs = st.now.warmSlot a key := by rw [YW.warmSlot_abs h.wf a key hkey, h.now]
  refine ⟨_, rfl, h.updY (W' := W.warmSlot a key) (j := 2) (by decide) (by decide) m hB ⟨by rw [updv_ne _ _ (by decide), (ws_same W a key).1]; exact k.accts, by rw [show 0 + 1 = 1 from rfl, updv_ne _ _ (by decide), (ws_same W a key).2.1]; exact k.warmA, by rw [show 0 + 2 = 2 from rfl, updv_same]; exact (by rw [(ws_same W a key).2.2.2.2.2.2.2]; exact hL), by rw [show 0 + 3 = 3 from rfl, updv_ne _ _ (by decide), (ws_same W a key).2.2.1]; exact k.refund, by rw [show 0 + 5 = 5 from rfl, updv_ne _ _ (by decide), (ws_same W a key).2.2.2.1]; exact k.temps, by rw [show 0 + 6 = 6 from rfl, updv_ne _ _ (by decide), (ws_same W a key).2.2.2.2.1]; exact k.made, by rw [show 0 + 7 = 7 from rfl, updv_ne _ _ (by decide), (ws_same W a key).2.2.2.2.2.1]; exact k.gone⟩ ?_ hl (YW.warmSlot_wf h.wf a key hkey) hab, m⟩
  exact (ws_same W a key).2.2.2.2.2.2.1
/-- The phase is set while a transaction runs or begins. -/
theorem YZ.putPhase (h : YZ O TL w Y F n c d W start st tot L) (p : Nat) (hp : p < 2) (m : Mod (· = Y) w w') (hB : Blk w' Y 179 118 (updv c 11 (.int .u8 (p : Nat)))) : YZ O TL w' Y F n (updv c 11 (.int .u8 (p : Nat))) d W start { st with phase := p } tot L := by
  have hs := h.hsY
  have hc : ∀ i, i ≠ 11 → updv c 11 (.int .u8 (p : Nat)) i = c i := fun i hi => updv_ne _ _ hi
  exact { bY := hB
          wc := (h.wc.keep m hs).cells (fun j hj => by rw [Nat.zero_add, hc _ (by omega)])
          lim := h.lim
          wf := h.wf
          st8 := by rw [hc _ (by decide)]; exact TmpL.keep h.st8 m hs
          sl := h.sl
          fv := by rw [hc _ (by decide)]; exact h.fv.mod m (fun q => h.ne q.symm)
          few := h.few
          small := fun b hb => Nat.lt_of_lt_of_le (h.small b hb) m.size
          ret := by rw [hc _ (by decide)]; exact h.ret.keep m hs
          phase := updv_same _ _ _
          hLt := by show p ≤ 2; omega
          status := by rw [hc _ (by decide)]; exact h.status
          applied := by rw [hc _ (by decide)]; exact h.applied
          limit := by rw [hc _ (by decide)]; exact h.limit.keep m hs
          left := fun q => by have q2 : p = 2 := q; omega
          price := by rw [hc _ (by decide)]; exact h.price.keep m hs
          pLt := h.pLt
          total := by rw [hc _ (by decide)]; exact h.total.keep m hs
          tg := by rw [hc _ (by decide)]; exact h.tg.keep m hs
          origin := h.origin.same h.oLt (fun j hj => hc _ (by omega))
          oLt := h.oLt
          made := h.made.same h.mLt (fun j hj => hc _ (by omega))
          mLt := h.mLt
          env := h.env.same (fun j hj _ => hc j (by omega)) (fun _ _ q => q.keep m hs)
          now := h.now
          orig := h.orig
          oY := h.oY
          oF := h.oF
          ne := h.ne
          frs := h.frs
          fl := YFL.keep m hs h.fl (fun x hx b hb q => (h.tm x hx b hb).2.1 q)
          tm := h.tm
          td := h.td
          tl := h.tl
          lg := by
            rw [hc 4 (by decide)]
            exact h.lg.imp (fun k => LogL.keep k m hs (fun b hb => (h.tl b hb).2.1)) (fun k => ⟨LogL.keep k.1 m hs (fun b hb => hs b hb), k.2⟩) }
end
/-- The frame that Begin builds. -/
theorem b147e {a s : Nat} (ha : a < 2 ^ 160) (hs : s < 2 ^ 160) {u v : Value} (hu : u.oneCell' = true) (hv : v.oneCell' = true) : ∃ R : Array Value, (∀ w, (Instr.build 156 ([(0, .int .u8 0), (4, u), (5, v), (12, .agg (av a)), (13, .agg (av s))] : List (Nat × Value)).toArray).run Hvah.prog w = .ok (.agg R) w) ∧ R.size = 60 ∧ Ones R ∧
    ∀ (O TM : Nat → Prop) (w : World) (x y : Nat) (sv : AW), NV O w u x → NV O w v y → YFC O TM w (cf R) 0 { fr0 with kind := 0, gas := x, value := y, self := a, caller := s, saved := sv } := by
  refine ⟨_, fun w => run_build_gen z147p z147q ([(0, .int .u8 0), (4, u), (5, v), (12, .agg (av a)), (13, .agg (av s))] : List (Nat × Value)) ⟨0, 1, rfl, rfl, by decide, 4, 1, rfl, by rw [one_cells hu]; rfl, by decide, 5, 1, rfl, by rw [one_cells hv]; rfl, by decide, 12, 20, rfl, av_size ha, by decide, 32, 20, rfl, av_size hs, by decide, trivial⟩ w, by rw [bld_size]; exact z147n, ?_, ?_⟩
  · refine ones_of (fun i hi => ?_)
    rw [bld_size] at hi
    rw [bld_get _ _ _ hi]
    simp only [partsA, List.map_cons, List.map_nil, List.getD_cons_zero, List.getD_cons_succ, bldc, one_cells hu, one_cells hv, one_cells (v := .int .u8 0) rfl, layv_one, one_agg]
    have hA := av_size ha
    have hS := av_size hs
    by_cases h1 : 32 ≤ i ∧ i < 52
    · obtain ⟨j, rfl⟩ : ∃ j, i = 32 + j := ⟨i - 32, by omega⟩
      rw [layv_in _ _ _ (by omega)]
      exact Ones.get (av_one _) (by omega)
    rw [layv_out _ _ _ (by omega)]
    by_cases h2 : 12 ≤ i ∧ i < 32
    · obtain ⟨j, rfl⟩ : ∃ j, i = 12 + j := ⟨i - 12, by omega⟩
      rw [layv_in _ _ _ (by omega)]
      exact Ones.get (av_one _) (by omega)
    rw [layv_out _ _ _ (by omega)]
    unfold updv
    split
    · exact hv
    split
    · exact hu
    split
    · rfl
    · exact Ones.get z147o hi
  · intro O TM w x y sv hx hy
    have e : ∀ i, i < 60 → cf (bld z147r (partsA [(0, 1), (1, 1), (2, 1), (3, 1), (4, 1), (5, 1), (6, 1), (7, 1), (8, 1), (9, 1), (10, 1), (11, 1), (12, 20), (32, 20), (52, 8)] [(0, .int .u8 0), (4, u), (5, v), (12, .agg (av a)), (13, .agg (av s))])) i = layv (layv (updv (updv (updv (cf z147r) 0 (.int .u8 0)) 4 u) 5 v) 12 (av a)) 32 (av s) i := fun i hi => by
      rw [bld_get _ _ _ (by rw [z147n]; exact hi)]
      simp only [partsA, List.map_cons, List.map_nil, List.getD_cons_zero, List.getD_cons_succ, bldc, one_cells hu, one_cells hv, one_cells (v := .int .u8 0) rfl, layv_one, one_agg]
    have h0 : (0 : Nat) < 2 ^ 160 := by decide
    have k := ((((((zeroC (O := O) (TM := TM) (w := w) sv).boxKind (x := 0) h0 h0 rfl).setGas h0 h0 hx).boxValue h0 h0 hy).boxSelf h0 h0 ha).boxCaller ha h0 hs)
    exact k.same ha hs (fun j hj => by rw [Nat.zero_add]; exact e j (by omega))
end Go.Proofs.YgvahwGreat
