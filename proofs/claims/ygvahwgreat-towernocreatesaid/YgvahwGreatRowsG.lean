import Derived.Test.YgvahwGreatYX
import Derived.Test.YgvahwGreatMemF
namespace Go.Proofs.YgvahwGreat
open Go.RowKit
/-- A type whose zero is a row of n cells. -/
structure AlT (t : TypeId) (n : Nat) : Prop where
  ex : ∃ i cs, Hvah.prog.info? t = some i ∧ i.zero = some (.agg cs) ∧ cs.size = n
theorem alT_of {t : TypeId} {n : Nat} (h : ((Hvah.prog.info? t).bind fun i => i.zero.bind fun z => match z with | .agg cs => some cs.size | _ => none) = some n) : AlT t n := by
  cases hi : Hvah.prog.info? t with
  | none => simp [hi] at h
  | some i =>
    cases hz : i.zero with
    | none => simp [hi, hz] at h
    | some z =>
      cases z <;> simp [hi, hz] at h
      exact ⟨⟨i, _, hi, hz, h⟩⟩
theorem there_new (w : World) (cs : Array Value) (t : TypeId) : (w.alloc (.cells cs t)).there w.heap.size 0 cs.size := boxes_there w cs t _ _ rfl (Ext.refl _)
theorem there_ext {w w' : World} {b o n : Nat} (h : w.there b o n) (hb : b < w.heap.size) (e : Ext w w') : w'.there b o n := fun j hj => by
  obtain ⟨h1, h2⟩ := h j hj
  exact ⟨by rw [e.cell (p := ⟨b, o + j, none⟩) hb]; exact h1, by rw [e.frozen (p := ⟨b, o + j, none⟩) hb]; exact h2⟩
section
variable {ops : Array Oper} {rest : List Oper} {o : Oper} {a : Act} {w : World} {K : Act → World → Prop} {Q : Exit → Act → World → Prop} {E : Prop} {dst : Option Tmp} {ty : TypeId} {pos : String} {aft : Array Edge}
theorem wl_allocL {t : TypeId} {n : Nat} (al : AlT t n) (h : ∀ B W, Ext w W → W.there B 0 n → B < W.heap.size → w.heap.size ≤ B → wpList Hvah.prog ops Q rest (a.put dst (.pointer (some ⟨B, 0, none⟩))) W) : Veil (wpList Hvah.prog ops Q (⟨dst, .alloc t, ty, pos, aft, none⟩ :: rest) a w) := by
  refine Veil.mk ?_
  obtain ⟨i, cs, h1, h2, rfl⟩ := al.ex
  exact (wl_alloc t i cs h1 h2 (h _ _ ((Ext.refl w).alloc _ _) (there_new w cs t) (by simp) (Nat.le_refl _))).out
theorem step_alloc {t : TypeId} {n : Nat} (al : AlT t n) (hg : o.guard = none) (hop : o.op = .alloc t) (h : ∀ B W, Ext w W → W.there B 0 n → B < W.heap.size → w.heap.size ≤ B → K (a.put o.dst (.pointer (some ⟨B, 0, none⟩))) W) :
    if Region.wanted o (yielded ops a.tmps) = true then Oper.wp Hvah.prog o a w K Q else E := by
  have hw : Region.wanted o (yielded ops a.tmps) = true := by simp [Region.wanted, hg]
  rw [if_pos hw]
  obtain ⟨i, cs, h1, h2, rfl⟩ := al.ex
  have := h w.heap.size (w.alloc (.cells cs t)) ((Ext.refl w).alloc _ _) (there_new w cs t) (by simp) (Nat.le_refl _)
  unfold Oper.wp
  simp [execOp, hop, Instr.alloc, zeroValue, typeInfo, h1, h2, newVar, newRow, newObj, Value.cells, Sem.run, program, bind, Sem.bind, pure]
  exact this
theorem wl_storeB {x y : Operand} {t : TypeId} {n : Nat} (rt : RowT t n) {B : Nat} {r : Array Value} (hn : r.size = n) (hx : a.eval x = .pointer (some ⟨B, 0, none⟩)) (hy : a.eval y = .agg r)
    (hth : w.there B 0 n) (hbl : B < w.heap.size) (h1 : ∀ v ∈ r.toList, v.oneCell' = true) (h : ∀ W, Mod (· = B) w W → RowIn W B 0 r → B < W.heap.size → wpList Hvah.prog ops Q rest (a.put dst undef) W) : Veil (wpList Hvah.prog ops Q (⟨dst, .store t x y, ty, pos, aft, none⟩ :: rest) a w) :=
  wl_storeR rt B 0 r hn hx hy hth h1 (h _ (setCells_mod (S := (· = B)) (Or.inl rfl) r.toList 0 w (Mod.refl _ _)) (row_set (by rw [hn]; exact hth)) (by rw [setCells_size]; exact hbl))
theorem step_storeB {x y : Operand} {t : TypeId} {n : Nat} (rt : RowT t n) {B : Nat} {r : Array Value} (hg : o.guard = none) (hop : o.op = Op.store t x y) (hn : r.size = n) (hx : a.eval x = .pointer (some ⟨B, 0, none⟩)) (hy : a.eval y = .agg r)
    (hth : w.there B 0 n) (hbl : B < w.heap.size) (h1 : ∀ v ∈ r.toList, v.oneCell' = true) (h : ∀ W, Mod (· = B) w W → RowIn W B 0 r → B < W.heap.size → K (a.put o.dst undef) W) :
    if Region.wanted o (yielded ops a.tmps) = true then Oper.wp Hvah.prog o a w K Q else E :=
  step_storeR hg rt x y hop B 0 r hn hx hy hth h1 (h _ (setCells_mod (S := (· = B)) (Or.inl rfl) r.toList 0 w (Mod.refl _ _)) (row_set (by rw [hn]; exact hth)) (by rw [setCells_size]; exact hbl))
end
theorem alT25 : AlT 31 20 := alT_of (by kernel_rfl)
theorem alT108 : AlT 121 24 := alT_of (by kernel_rfl)
theorem fld1 : fieldOf Hvah.prog 121 1 = some (109, 20) := by kernel_rfl
theorem fld3 : fieldOf Hvah.prog 121 3 = some (23, 22) := by kernel_rfl
theorem acF {a : Nat} (ha : a < 2 ^ 160) (u1 u2 u3 u4 : Value) : (∀ W, (Instr.field 121 (.agg (acR a u1 u2 u3 u4)) 1).run Hvah.prog W = .ok u1 W) ∧ (∀ W, (Instr.field 121 (.agg (acR a u1 u2 u3 u4)) 2).run Hvah.prog W = .ok u2 W) ∧ (∀ W, (Instr.field 121 (.agg (acR a u1 u2 u3 u4)) 3).run Hvah.prog W = .ok u3 W) ∧ ∀ W, (Instr.field 121 (.agg (acR a u1 u2 u3 u4)) 4).run Hvah.prog W = .ok u4 W := by
  have hs := av_size ha
  have hg : ∀ i, (acR a u1 u2 u3 u4)[20 + i]? = (#[u1, u2, u3, u4] : Array Value)[i]? := fun i => by
    rw [acR, Array.getElem?_append_right (by omega), hs]; congr 1; omega
  exact ⟨run_field1 fld1 ⟨_, under96⟩ (hg 0), run_field1 fld2 ⟨_, under96⟩ (hg 1), run_field1 fld3 ⟨_, under32'⟩ (hg 2), run_field1 fld4 ⟨_, under106⟩ (hg 3)⟩
/-- What the walk asks of an account's row. -/
structure AcG (a : Nat) (u1 u2 u3 u4 : Value) : Prop where
  f1 : ∀ W, (Instr.field 121 (.agg (acR a u1 u2 u3 u4)) 1).run Hvah.prog W = .ok u1 W
  f2 : ∀ W, (Instr.field 121 (.agg (acR a u1 u2 u3 u4)) 2).run Hvah.prog W = .ok u2 W
  f3 : ∀ W, (Instr.field 121 (.agg (acR a u1 u2 u3 u4)) 3).run Hvah.prog W = .ok u3 W
  f4 : ∀ W, (Instr.field 121 (.agg (acR a u1 u2 u3 u4)) 4).run Hvah.prog W = .ok u4 W
  sz : (acR a u1 u2 u3 u4).size = 24
  one : ∀ v ∈ (acR a u1 u2 u3 u4).toList, v.oneCell' = true
theorem AcP.g {O : Nat → Prop} {w : World} {x : YA} {u1 u2 u3 u4 : Value} {a : Nat} (h : AcP O w x u1 u2 u3 u4) (ha : x.addr = a) : AcG a u1 u2 u3 u4 := by
  subst ha
  obtain ⟨h1, h2, h3, h4⟩ := acF h.aLt u1 u2 u3 u4
  exact ⟨h1, h2, h3, h4, acR_size h.aLt _ _ _ _, acR_one h.nonce.one h.bal.one h.code.one h.slots.one⟩
theorem xAccountG {kk : Nat → Value} {O TM TL : Nat → Prop} {w : World} {Y F q n : Nat} {tF : TypeId} {c d : Nat → Value} {W : YW} {start : List (Nat × Nat × Nat)} {st : ASt} {f : AFrame} (h : YX kk O TM TL w Y F q n tF c d W start st f) (a : Nat) (ha : a < 2 ^ 160) : Calls Hvah.prog 53 #[.pointer (some ⟨Y, 0, none⟩), .agg (av a)] w fun e w' => ∃ u1 u2 u3 u4, e = .returned (.agg (acR a u1 u2 u3 u4)) ∧ AcP O w' (W.acct a) u1 u2 u3 u4 ∧ AcG a u1 u2 u3 u4 ∧ Ext w w' := by
  refine (xAccount h a ha).mono ?_
  rintro e w1 ⟨u1, u2, u3, u4, rfl, hp, he⟩
  exact ⟨u1, u2, u3, u4, rfl, hp, hp.g (W.acct_addr a), he⟩
theorem yEmptyB {O : Nat → Prop} {w : World} {B q a : Nat} {x : YA} {u1 u2 u3 u4 : Value} {b : Bool} (hb : x.empty = b) (ha : x.addr = a) (hr : RowIn w B q (acR a u1 u2 u3 u4)) (hp : AcP O w x u1 u2 u3 u4) :
    Calls Hvah.prog 33 #[.pointer (some ⟨B, q, none⟩)] w fun e w' => e = .returned (.bool b) ∧ Ext w w' := by
  subst hb ha
  exact yEmpty hr hp
/-- Two orders that come together again. -/
theorem join6 {P Fc : Nat → World → Value → Value → Value → Value → Prop} {G : Prop} (h : (∀ B W u1 u2 u3 u4, Fc B W u1 u2 u3 u4 → P B W u1 u2 u3 u4) → G) (k : ∀ B W u1 u2 u3 u4, Fc B W u1 u2 u3 u4 → P B W u1 u2 u3 u4) : G := h k
/-- O and one block more. -/
def Wd (O : Nat → Prop) (B : Nat) : Nat → Prop := fun b => O b ∨ b = B
section
variable {O : Nat → Prop} {w w' : World} {v : Value} {B : Nat}
theorem NL.widen {l : List Nat} (h : NL O w v l) (hB : w.heap.size ≤ B) : NL (Wd O B) w v l := by
  obtain ⟨o, c, h1, h2, h3, h4⟩ := h
  refine ⟨o, c, h1, h2, h3, h4.lt, fun hl => ?_⟩
  obtain ⟨b, off, q1, q2, q3, q4⟩ := h4.spot hl
  exact ⟨b, off, q1, fun hb => by rcases hb with hb | hb <;> first | exact q2 hb | omega, q3, q4⟩
theorem NL.narrow {l : List Nat} (h : NL (Wd O B) w v l) : NL O w v l := by
  obtain ⟨o, c, h1, h2, h3, h4⟩ := h
  exact ⟨o, c, h1, h2, h3, h4.sub (fun b hb => Or.inl hb)⟩
theorem NV.widen {x : Nat} (h : NV O w v x) (hB : w.heap.size ≤ B) : NV (Wd O B) w v x := by
  obtain ⟨l, h1, h2⟩ := h; exact ⟨l, h1.widen hB, h2⟩
theorem NV.narrow {x : Nat} (h : NV (Wd O B) w v x) : NV O w v x := by
  obtain ⟨l, h1, h2⟩ := h; exact ⟨l, h1.narrow, h2⟩
theorem WL.widen {l : List Nat} (h : WL O w v l) (hB : w.heap.size ≤ B) : WL (Wd O B) w v l := by
  rcases h with h | ⟨b, off, cap, h1, h2, h3, h4, h5, h6⟩
  · exact Or.inl h
  · exact Or.inr ⟨b, off, cap, h1, h2, h3, fun hb => by rcases hb with hb | hb <;> first | exact h4 hb | omega, h5, h6⟩
theorem GRow.widen {α : Type} {ty : TypeId} {sz : Nat} {R R' : (Nat → Value) → Nat → α → Prop} {l : List α} (h : GRow ty sz R (fun b => ¬ O b) w v l) (hB : w.heap.size ≤ B) (hR : ∀ c o x, R c o x → R' c o x) : GRow ty sz R' (fun b => ¬ Wd O B b) w v l :=
  h.mono hR (fun b hb hn hw => by rcases hw with hw | hw <;> first | exact hn hw | omega) (fun _ _ _ _ k _ => k)
theorem GRow.narrow {α : Type} {ty : TypeId} {sz : Nat} {R R' : (Nat → Value) → Nat → α → Prop} {l : List α} (h : GRow ty sz R (fun b => ¬ Wd O B b) w v l) (hR : ∀ c o x, R c o x → R' c o x) : GRow ty sz R' (fun b => ¬ O b) w v l :=
  h.mono hR (fun _ _ hn hw => hn (Or.inl hw)) (fun _ _ _ _ k _ => k)
theorem LgC.widen {c : Nat → Value} {o : Nat} {x : ALog} (h : LgC O w c o x) (hB : w.heap.size ≤ B) : LgC (Wd O B) w c o x := ⟨h.addr, h.aLt, h.topics.widen hB, h.few, h.data.widen hB⟩
theorem NumS.widen {l : List Nat} (h : NumS O w v l) (hB : w.heap.size ≤ B) : NumS (Wd O B) w v l := by
  obtain ⟨o, cap, h1, h2, h3, h4⟩ := h
  refine ⟨o, cap, h1, h2, h3, fun q => ?_⟩
  obtain ⟨b, m, c, k1, k2, k3, k4, k5⟩ := h4 q
  exact ⟨b, m, c, k1, k2, k3, fun hb => by rcases hb with hb | hb <;> first | exact k4 hb | (have := k2.lt; omega), fun i hi => (k5 i hi).widen hB⟩
theorem AcP.narrow {x : YA} {u1 u2 u3 u4 : Value} (h : AcP (Wd O B) w x u1 u2 u3 u4) : AcP O w x u1 u2 u3 u4 :=
  ⟨h.aLt, h.nonce.narrow, h.bal.narrow, h.code.narrow, GRow.narrow h.slots (fun _ _ _ k => ⟨k.key.narrow, k.val.narrow⟩)⟩
theorem AcP.widen {x : YA} {u1 u2 u3 u4 : Value} (h : AcP O w x u1 u2 u3 u4) (hB : w.heap.size ≤ B) : AcP (Wd O B) w x u1 u2 u3 u4 :=
  ⟨h.aLt, h.nonce.widen hB, h.bal.widen hB, h.code.widen hB, GRow.widen h.slots hB (fun _ _ _ k => ⟨k.key.widen hB, k.val.widen hB⟩)⟩
theorem AcP.keep {S : Nat → Prop} {x : YA} {u1 u2 u3 u4 : Value} (h : AcP O w x u1 u2 u3 u4) (m : Mod S w w') (hs : ∀ b, ¬ O b → ¬ S b) : AcP O w' x u1 u2 u3 u4 :=
  ⟨h.aLt, h.nonce.keep m hs, h.bal.keep m hs, h.code.keep m hs, h.slots.keep m hs⟩
/-- What was known with the new block apart, behind a store into it. -/
theorem AcP.box {x : YA} {u1 u2 u3 u4 : Value} (h : AcP (Wd O B) w x u1 u2 u3 u4) (m : Mod (· = B) w w') : AcP O w' x u1 u2 u3 u4 :=
  (h.keep m (fun _ hb hq => hb (Or.inr hq))).narrow
/-- .. and what was known before it was made. -/
theorem AcP.box2 {w0 : World} {x : YA} {u1 u2 u3 u4 : Value} (h : AcP O w0 x u1 u2 u3 u4) (hB : w0.heap.size ≤ B) (e : Ext w0 w) (m : Mod (· = B) w w') : AcP O w' x u1 u2 u3 u4 := ((h.widen hB).ext e).box m
end
section
variable {kk : Nat → Value} {O TM TL : Nat → Prop} {w w' : World} {Y F q n B : Nat} {tF : TypeId} {c d : Nat → Value} {W : YW} {start : List (Nat × Nat × Nat)} {st : ASt} {f : AFrame}
theorem YX.widen0 (h : YX kk O TM TL w Y F q n tF c d W start st f) (hB : w.heap.size ≤ B) (e : Ext w w') (hB2 : B < w'.heap.size) : YX kk (Wd O B) TM TL w' Y F q n tF c d W start st f :=
  ⟨h.bY.ext e, h.bF.ext e, h.hq,
   YWC.ext ⟨GRow.widen h.wc.accts hB (fun _ _ _ k => ⟨k.addr, k.parts.widen hB⟩), GRow.widen h.wc.warmA hB (fun _ _ _ k => k), GRow.widen h.wc.warmS hB (fun _ _ _ k => ⟨k.addr, k.aLt, k.key.widen hB⟩), h.wc.refund.widen hB, GRow.widen h.wc.temps hB (fun _ _ _ k => ⟨k.addr, k.aLt, k.key.widen hB, k.val.widen hB⟩), GRow.widen h.wc.made hB (fun _ _ _ k => k), GRow.widen h.wc.gone hB (fun _ _ _ k => k)⟩ e,
   h.lim, TmpL.ext (GRow.widen h.st8 hB (fun _ _ _ k => ⟨k.addr, k.aLt, k.key.widen hB, k.val.widen hB⟩)) e, h.sl,
   YFC.ext ⟨h.fc.kind, h.fc.pre, h.fc.static, h.fc.pc.widen hB, h.fc.gas.widen hB, h.fc.value.widen hB, h.fc.outOff.widen hB, h.fc.outLen.widen hB, NumS.widen h.fc.stack hB, h.fc.mem, h.fc.code.widen hB, h.fc.input.widen hB, h.fc.self, h.fc.caller, h.fc.mcap⟩ e,
   h.ok, fun b hb => by
    rcases hb with hb | hb
    · exact Nat.lt_of_lt_of_le (h.small b hb) e.size
    · rw [hb]; exact hB2,
   (h.ret.widen hB).ext e, (h.env.same (fun _ _ _ => rfl) (fun _ _ q => q.widen hB)).ext e, (h.price.widen hB).ext e, h.pLt, h.origin, h.oLt, h.now, h.orig, Or.inl h.oY, Or.inl h.oF, h.ne, h.hi, fun b hb => ⟨Or.inl (h.tm b hb).1, (h.tm b hb).2⟩, fun b hb => ⟨Or.inl (h.tl b hb).1, (h.tl b hb).2⟩, h.lg.imp (fun k => k.mono (fun _ _ _ k => (LgC.widen k hB).ext e) (fun _ _ k => k) (fun _ _ _ _ k _ => k.ext e)) (fun k => ⟨(GRow.widen k.1 hB (fun _ _ _ k => LgC.widen k hB)).ext e (fun _ _ _ k => k.ext e), k.2⟩)⟩
end
end Go.Proofs.YgvahwGreat
