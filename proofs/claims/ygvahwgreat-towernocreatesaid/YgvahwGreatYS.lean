import Derived.Test.YgvahwGreatTa
namespace Go.Proofs.YgvahwGreat
open Go.RowKit
section
variable {O S : Nat → Prop} {w w' : World} {v : Value}
theorem NumL.keep {l : List Nat} (h : NumL O w v l) (m : Mod S w w') (hs : ∀ b, ¬ O b → ¬ S b) : NumL O w' v l :=
  GRow.mono h (fun _ _ _ (k : NV O w _ _) => k.keep m hs) (fun _ _ k => k) (fun _ _ _ _ k hb => k.mod m (hs _ hb))
theorem NumS.keep {l : List Nat} (h : NumS O w v l) (m : Mod S w w') (hs : ∀ b, ¬ O b → ¬ S b) : NumS O w' v l := by
  obtain ⟨o, cap, h1, h2, h3, h4⟩ := h
  refine ⟨o, cap, h1, h2, h3, fun q => ?_⟩
  obtain ⟨b, m1, c, k1, k2, k3, k4, k5⟩ := h4 q
  exact ⟨b, m1, c, k1, k2.mod m (hs _ k4), k3, k4, fun i hi => (k5 i hi).keep m hs⟩
theorem AddrL.keep {l : List Nat} (h : AddrL O w v l) (m : Mod S w w') (hs : ∀ b, ¬ O b → ¬ S b) : AddrL O w' v l :=
  GRow.mono h (fun _ _ _ k => k) (fun _ _ k => k) (fun _ _ _ _ k hb => k.mod m (hs _ hb))
theorem AccL.keep {l : List YA} (h : AccL O w v l) (m : Mod S w w') (hs : ∀ b, ¬ O b → ¬ S b) : AccL O w' v l :=
  GRow.mono h (fun _ _ _ k => YAC.keep k m hs) (fun _ _ k => k) (fun _ _ _ _ k hb => k.mod m (hs _ hb))
theorem MarkL.keep {l : List (Nat × Nat)} (h : MarkL O w v l) (m : Mod S w w') (hs : ∀ b, ¬ O b → ¬ S b) : MarkL O w' v l :=
  GRow.mono h (fun _ _ _ k => ⟨k.addr, k.aLt, k.key.keep m hs⟩) (fun _ _ k => k) (fun _ _ _ _ k hb => k.mod m (hs _ hb))
theorem TmpL.keep {t : TypeId} {l : List (Nat × Nat × Nat)} (h : TmpL t O w v l) (m : Mod S w w') (hs : ∀ b, ¬ O b → ¬ S b) : TmpL t O w' v l :=
  GRow.mono h (fun _ _ _ k => ⟨k.addr, k.aLt, k.key.keep m hs, k.val.keep m hs⟩) (fun _ _ k => k) (fun _ _ _ _ k hb => k.mod m (hs _ hb))
theorem RowIn.keep {b o : Nat} {r : Array Value} (h : RowIn w b o r) (hb : b < w.heap.size) (m : Mod S w w') (hs : ¬ S b) : RowIn w' b o r := fun i u hu => by
  rw [m.cell (p := ⟨b, o + i, none⟩) hb hs]; exact h i u hu
theorem WL.keep {l : List Nat} (h : WL O w v l) (m : Mod S w w') (hs : ∀ b, ¬ O b → ¬ S b) : WL O w' v l := by
  rcases h with h | ⟨b, off, cap, h1, h2, h3, h4, h5, h6⟩
  · exact Or.inl h
  · exact Or.inr ⟨b, off, cap, h1, h2, h3, h4, Nat.lt_of_lt_of_le h5 m.size, fun i hi => ⟨(h6 i hi).1, (h6 i hi).2.keep h5 m (hs b h4)⟩⟩
theorem LgC.keep {c : Nat → Value} {o : Nat} {x : ALog} (h : LgC O w c o x) (m : Mod S w w') (hs : ∀ b, ¬ O b → ¬ S b) : LgC O w' c o x := ⟨h.addr, h.aLt, h.topics.keep m hs, h.few, h.data.keep m hs⟩
theorem YWC.keep {c : Nat → Value} {q : Nat} {W : YW} (h : YWC O w c q W) (m : Mod S w w') (hs : ∀ b, ¬ O b → ¬ S b) : YWC O w' c q W :=
  ⟨AccL.keep h.accts m hs, AddrL.keep h.warmA m hs, MarkL.keep h.warmS m hs, h.refund.keep m hs, TmpL.keep h.temps m hs, AddrL.keep h.made m hs, AddrL.keep h.gone m hs⟩
theorem EnvC.keep {c : Nat → Value} {o : Nat} {e : AEnv} (h : EnvC O w c o e) (m : Mod S w w') (hs : ∀ b, ¬ O b → ¬ S b) : EnvC O w' c o e := h.same (fun _ _ _ => rfl) (fun _ _ q => q.keep m hs)
theorem YFC.keep {TM : Nat → Prop} {d : Nat → Value} {q : Nat} {f : AFrame} (h : YFC O TM w d q f) (m : Mod S w w') (hs : ∀ b, ¬ O b → ¬ S b) (ht : ∀ b, TM b → ¬ S b) : YFC O TM w' d q f :=
  ⟨h.kind, h.pre, h.static, h.pc.keep m hs, h.gas.keep m hs, h.value.keep m hs, h.outOff.keep m hs, h.outLen.keep m hs, NumS.keep h.stack m hs, GRow.mono h.mem (fun _ _ _ k => k) (fun _ _ k => k) (fun _ _ _ _ k hb => k.mod m (ht _ hb)), h.code.keep m hs, h.input.keep m hs, h.self, h.caller, h.mcap⟩
theorem LogL.keep {T : Nat → Prop} {l : List ALog} (h : LogL T O w v l) (m : Mod S w w') (hs : ∀ b, ¬ O b → ¬ S b) (ht : ∀ b, T b → ¬ S b) : LogL T O w' v l :=
  GRow.mono h (fun _ _ _ k => k.keep m hs) (fun _ _ k => k) (fun _ _ _ _ k hb => k.mod m (ht _ hb))
end
section
variable {kk : Nat → Value} {O TM TL : Nat → Prop} {w w' : World} {Y F q n : Nat} {tF : TypeId} {c d c' d' : Nat → Value} {W W' : YW} {start : List (Nat × Nat × Nat)} {st st' : ASt} {f f' : AFrame}
theorem Small.mod {S : Nat → Prop} (h : Small O w) (m : Mod S w w') : Small O w' := fun b hb => Nat.lt_of_lt_of_le (h b hb) m.size
/-- The frame's cells are written. -/
theorem YX.keepF (h : YX kk O TM TL w Y F q n tF c d W start st f) (m : Mod (· = F) w w') (hB : Blk w' F n tF d') (hf : YFC O TM w' d' q f') (hok : FOK f') : YX kk O TM TL w' Y F q n tF c d' W start st f' := by
  have hs : ∀ b, ¬ O b → ¬ b = F := fun b hb e => hb (e ▸ h.oF)
  exact ⟨h.bY.mod m h.ne, hB, h.hq, h.wc.keep m hs, h.lim, TmpL.keep h.st8 m hs, h.sl, hf, hok, h.small.mod m, h.ret.keep m hs, h.env.keep m hs, h.price.keep m hs, h.pLt, h.origin, h.oLt, h.now, h.orig, h.oY, h.oF, h.ne, h.hi, h.tm, h.tl,
    h.lg.imp (fun k => LogL.keep k m hs (fun b hb => (h.tl b hb).2.2.1)) (fun k => ⟨LogL.keep k.1 m hs (fun b hb => hs b hb), k.2⟩)⟩
/-- The world's cells are written. -/
theorem YX.keepY (h : YX kk O TM TL w Y F q n tF c d W start st f) (m : Mod (· = Y) w w') (hB : Blk w' Y 179 118 c') (hc : ∀ i, 8 ≤ i → c' i = c i) (hwc : YWC O w' c' 0 W') (hlim : YLim W') (hlg : LogL TL O w' (c' 4) W'.logs ∨ (LogL (fun b => ¬ O b) O w' (c' 4) W'.logs ∧ Full (c' 4)))
    (hst : st' = { st with now := W'.abs }) : YX kk O TM TL w' Y F q n tF c' d W' start st' f := by
  have hs : ∀ b, ¬ O b → ¬ b = Y := fun b hb e => hb (e ▸ h.oY)
  subst hst
  refine ⟨hB, h.bF.mod m (fun e => h.ne e.symm), h.hq, hwc, hlim, ?_, h.sl, h.fc.keep m hs (fun b hb => (h.tm b hb).2.1), h.ok, h.small.mod m, ?_, ?_, ?_, h.pLt, ?_, h.oLt, rfl, h.orig, h.oY, h.oF, h.ne, fun i hi => (hc i hi).trans (h.hi i hi), h.tm, h.tl, hlg⟩
  · rw [hc _ (by decide)]; exact TmpL.keep h.st8 m hs
  · rw [hc _ (by decide)]; exact h.ret.keep m hs
  · exact h.env.same (fun j hj _ => hc j (by omega)) (fun _ _ q => q.keep m hs)
  · rw [hc _ (by decide)]; exact h.price.keep m hs
  · exact h.origin.same h.oLt (fun j hj => hc _ (by omega))
/-- The logs stay. -/
theorem YX.lgY (h : YX kk O TM TL w Y F q n tF c d W start st f) (m : Mod (· = Y) w w') (h4 : c' 4 = c 4) : LogL TL O w' (c' 4) W.logs ∨ (LogL (fun b => ¬ O b) O w' (c' 4) W.logs ∧ Full (c' 4)) := by
  have hs : ∀ b, ¬ O b → ¬ b = Y := fun b hb e => hb (e ▸ h.oY)
  rw [h4]
  exact h.lg.imp (fun k => LogL.keep k m hs (fun b hb => (h.tl b hb).2.1)) (fun k => ⟨LogL.keep k.1 m hs (fun b hb => hs b hb), k.2⟩)
/-- warm. -/
theorem xWarm (h : YX kk O TM TL w Y F q n tF c d W start st f) (a : Nat) (ha : a < 2 ^ 160) (hl : YLim (W.warm a)) : Calls Hvah.prog 61 #[.pointer (some ⟨Y, 0, none⟩), .agg (av a)] w fun e w' => ∃ c', e = .returned (.tuple #[]) ∧ YX kk O TM TL w' Y F q n tF c' d (W.warm a) start { st with now := st.now.warm a } f ∧ Mod (· = Y) w w' := by
  refine (yWarm h.bY (by decide) h.small h.oY W.warmA h.wc.warmA a ha (Nat.le_trans h.lim.warmA (by decide))).mono ?_
  rintro e w1 ⟨v', rfl, hB, hL, m⟩
  have hs : ∀ b, ¬ O b → ¬ b = Y := fun b hb e => hb (e ▸ h.oY)
  have k := h.wc.keep m hs
  refine ⟨_, rfl, h.keepY m hB (fun i hi => updv_ne _ _ (by omega)) ⟨?_, ?_, ?_, ?_, ?_, ?_, ?_⟩ hl (h.lgY m (updv_ne _ _ (by decide))) ?_, m⟩
  · exact k.accts
  · exact hL
  · exact k.warmS
  · exact k.refund
  · exact k.temps
  · exact k.made
  · exact k.gone
  · rw [YW.warm_abs, h.now]
end
end Go.Proofs.YgvahwGreat
