import Derived.Test.YgvahwGreatSa
import Derived.Test.YgvahwGreatYpYe
namespace Go.Proofs.YgvahwGreat
open Go.RowKit
/-- The lists are not too long. -/
structure YLim (W : YW) : Prop where
  accts : W.accts.length ≤ 90000
  warmA : W.warmA.length ≤ 90000
  warmS : W.warmS.length ≤ 90000
  temps : W.temps.length ≤ 90000
  logs : W.logs.length ≤ 90000
  made : W.made.length ≤ 90000
  gone : W.gone.length ≤ 90000
  slots : ∀ a, (W.acct a).slots.length ≤ 90000
  code : ∀ a, (W.acct a).code.length ≤ 90000
  nonce : ∀ a, (W.acct a).nonce < 18446744073709551616
  bal : ∀ a, (W.acct a).bal < P256
  refund : W.refund < 18446744073709551616
/-- No room behind it. -/
def Full (v : Value) : Prop := ∀ o n cap, v = .slice o n cap → cap = n
/-- The specification's state with a frame at cell q of block F. -/
structure YX (kk : Nat → Value) (O TM TL : Nat → Prop) (w : World) (Y F q n : Nat) (tF : TypeId) (c d : Nat → Value) (W : YW) (start : List (Nat × Nat × Nat)) (st : ASt) (f : AFrame) : Prop where
  bY : Blk w Y 179 118 c
  bF : Blk w F n tF d
  hq : q + 60 ≤ n
  wc : YWC O w c 0 W
  lim : YLim W
  st8 : TmpL 149 O w (c 8) start
  sl : start.length ≤ 90000
  fc : YFC O TM w d q f
  ok : FOK f
  small : Small O w
  ret : NL O w (c 10) st.ret
  env : EnvC O w c 59 st.env
  price : NV O w (c 17) st.price
  pLt : st.price < P256
  origin : AAt c 19 st.origin
  oLt : st.origin < 2 ^ 160
  now : st.now = W.abs
  orig : st.orig = lookT start
  oY : O Y
  oF : O F
  ne : Y ≠ F
  hi : ∀ i, 8 ≤ i → c i = kk i
  tm : ∀ b, TM b → O b ∧ b ≠ Y ∧ b ≠ F
  tl : ∀ b, TL b → O b ∧ b ≠ Y ∧ b ≠ F ∧ ¬ TM b
  lg : LogL TL O w (c 4) W.logs ∨ (LogL (fun b => ¬ O b) O w (c 4) W.logs ∧ Full (c 4))
theorem EnvC.ext {O : Nat → Prop} {w w' : World} {c : Nat → Value} {o : Nat} {e : AEnv} (h : EnvC O w c o e) (k : Ext w w') : EnvC O w' c o e := h.same (fun _ _ _ => rfl) (fun _ _ q => q.ext k)
/-- The world under a letter. -/
theorem w_ext {F : World → Prop} {W : World} (h : ∀ X, Ext W X → F X) : F W := h W (Ext.refl W)
theorem yieldsIf_load1 {ops : Array Oper} {S : World → Prop} {op : Oper} {a : Act} (hw : Region.wanted op (yielded ops a.tmps) = true) (t : TypeId) (x : Operand) (ho : op.op = .load t x) (b o : Nat) (hx : a.eval x = .pointer (some ⟨b, o, none⟩)) (ht : OneT t) (v : Value)
    (hS : ∀ w, S w → w.cell? ⟨b, o, none⟩ = some v) : YieldsIf Hvah.prog ops S op v a :=
  .inl ⟨hw, fun w hw' => by
    unfold execOp
    simp only [ho, hx, Instr.loadAt, Instr.sureAddr, Sem.run_bind, Sem.run_pure, Result.andThen_ok, run_loadVar_one ht (hS w hw')]⟩
theorem one96 : OneT 109 := oneT_of (by kernel_rfl) (by kernel_rfl)
theorem one32 : OneT 23 := oneT_of (by kernel_rfl) (by kernel_rfl)
theorem rng_av {w : World} {g n o a : Nat} {t : TypeId} {c : Nat → Value} (h : AAt c o a) (ha : a < 2 ^ 160) (hB : Blk w g n t c) (hn : o + 20 ≤ n) : w.rangeAt g o (bcells (beL 20 a)) := fun j v hv => h.row ha hB hn j v (by simpa [av] using hv)
theorem sz_av {a : Nat} (ha : a < 2 ^ 160) : (Hvah.prog.info? 31).map (·.size) = some (bcells (beL 20 a)).length := by rw [rt25.size, bcells_length, len20 ha]
section
variable {kk : Nat → Value} {O TM TL : Nat → Prop} {w w' : World} {Y F q n : Nat} {tF : TypeId} {c d : Nat → Value} {W : YW} {start : List (Nat × Nat × Nat)} {st : ASt} {f : AFrame}
theorem YX.ext (h : YX kk O TM TL w Y F q n tF c d W start st f) (e : Ext w w') : YX kk O TM TL w' Y F q n tF c d W start st f :=
  ⟨h.bY.ext e, h.bF.ext e, h.hq, h.wc.ext e, h.lim, TmpL.ext h.st8 e, h.sl, h.fc.ext e, h.ok, h.small.ext e, h.ret.ext e, h.env.ext e, h.price.ext e, h.pLt, h.origin, h.oLt, h.now, h.orig, h.oY, h.oF, h.ne, h.hi, h.tm, h.tl, h.lg.imp (fun k => GRow.ext k e (fun _ _ _ k => k.ext e)) (fun k => ⟨GRow.ext k.1 e (fun _ _ _ k => k.ext e), k.2⟩)⟩
theorem xArg (h : YX kk O TM TL w Y F q n tF c d W start st f) (i : Nat) (hi : i < 1000) : Calls Hvah.prog 73 #[.pointer (some ⟨F, q, none⟩), .int .i64 i] w fun e w' => ∃ r, e = .returned r ∧ NV O w' r (f.arg i) ∧ Ext w w' := yArgF h.bF h.fc h.hq h.ok i hi
theorem xWarmSlot (h : YX kk O TM TL w Y F q n tF c d W start st f) (a : Nat) (ha : a < 2 ^ 160) (kv : Value) (key : Nat) (hkv : NV O w kv key) : Calls Hvah.prog 138 #[.pointer (some ⟨Y, 0, none⟩), .agg (av a), kv] w fun e w' => e = .returned (.bool (st.now.warmS a key)) ∧ Ext w w' := by
  rw [h.now]
  exact yIsWarmSlot h.bY (by decide) W.warmS h.wc.warmS a ha kv key hkv (Nat.le_trans h.lim.warmS (by decide))
theorem xIsWarm (h : YX kk O TM TL w Y F q n tF c d W start st f) (a : Nat) (ha : a < 2 ^ 160) : Calls Hvah.prog 402 #[.pointer (some ⟨Y, 0, none⟩), .agg (av a)] w fun e w' => e = .returned (.bool (st.now.warmA a)) ∧ Ext w w' := by
  rw [h.now]
  exact yIsWarm h.bY (by decide) W.warmA h.wc.warmA a ha (Nat.le_trans h.lim.warmA (by decide))
theorem xOrig (h : YX kk O TM TL w Y F q n tF c d W start st f) (a : Nat) (ha : a < 2 ^ 160) (kv : Value) (key : Nat) (hkv : NV O w kv key) : Calls Hvah.prog 404 #[.pointer (some ⟨Y, 0, none⟩), .agg (av a), kv] w fun e w' => ∃ r, e = .returned r ∧ NV O w' r (st.orig a key) ∧ Ext w w' := by
  rw [h.orig]
  exact yOrig h.bY (by decide) start h.st8 a ha kv key hkv (Nat.le_trans h.sl (by decide))
theorem xLoad (h : YX kk O TM TL w Y F q n tF c d W start st f) (a : Nat) (ha : a < 2 ^ 160) (kv : Value) (key : Nat) (hkv : NV O w kv key) : Calls Hvah.prog 241 #[.pointer (some ⟨Y, 0, none⟩), .agg (av a), kv] w fun e w' => ∃ r, e = .returned r ∧ NV O w' r (st.now.slot a key) ∧ Ext w w' := by
  rw [h.now]
  exact yLoad h.bY (by decide) W.accts h.wc.accts a ha kv key hkv (Nat.le_trans h.lim.accts (by decide)) (Nat.le_trans (h.lim.slots a) (by decide))
theorem xTload (h : YX kk O TM TL w Y F q n tF c d W start st f) (a : Nat) (ha : a < 2 ^ 160) (kv : Value) (key : Nat) (hkv : NV O w kv key) : Calls Hvah.prog 242 #[.pointer (some ⟨Y, 0, none⟩), .agg (av a), kv] w fun e w' => ∃ r, e = .returned r ∧ NV O w' r (st.now.temp a key) ∧ Ext w w' := by
  rw [h.now]
  exact yTload h.bY (by decide) W.temps h.wc.temps a ha kv key hkv (Nat.le_trans h.lim.temps (by decide))
theorem xAccess (h : YX kk O TM TL w Y F q n tF c d W start st f) (a : Nat) (ha : a < 2 ^ 160) : Calls Hvah.prog 342 #[.pointer (some ⟨Y, 0, none⟩), .agg (av a)] w fun e w' => ∃ r, e = .returned r ∧ NV O w' r (st.now.access a) ∧ Ext w w' := by
  have := yAccess h.bY (by decide) h.small W.warmA h.wc.warmA a ha (Nat.le_trans h.lim.warmA (by decide))
  rw [h.now]
  refine this.mono ?_
  rintro e w1 ⟨r, h1, h2, h3⟩
  refine ⟨r, h1, h2.cast ?_, h3⟩
  simp [AW.access, YW.abs]
theorem xAccount (h : YX kk O TM TL w Y F q n tF c d W start st f) (a : Nat) (ha : a < 2 ^ 160) : Calls Hvah.prog 53 #[.pointer (some ⟨Y, 0, none⟩), .agg (av a)] w fun e w' => ∃ u1 u2 u3 u4, e = .returned (.agg (acR a u1 u2 u3 u4)) ∧ AcP O w' (W.acct a) u1 u2 u3 u4 ∧ Ext w w' := by
  refine (yAccount h.bY (by decide) W.accts h.wc.accts a ha (Nat.le_trans h.lim.accts (by decide))).mono ?_
  rintro e w1 ⟨r, rfl, ⟨u1, u2, u3, u4, rfl, hp⟩, he⟩
  refine ⟨u1, u2, u3, u4, ?_, hp, he⟩
  have := W.acct_addr a
  unfold YW.acct at this
  rw [this]
end
end Go.Proofs.YgvahwGreat
