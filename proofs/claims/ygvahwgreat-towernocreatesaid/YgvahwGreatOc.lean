import Derived.Test.YgvahwGreatOa
import Derived.Test.YgvahwGreatVaultU
namespace Go.Proofs.YgvahwGreat
open Go.RowKit
/-- Room for n more of everything. -/
structure Room (V : EV) (n : Nat) : Prop where
  j : V.journal.length + n ≤ 65536
  a : V.accts.length + n ≤ 2560
  s : V.slots.length + n ≤ 2560
  t : V.temps.length + n ≤ 12288
  l : V.logs.length + n ≤ 2800
  m : V.marks.length + n ≤ 16384
theorem Room.le {V : EV} {n m : Nat} (h : Room V n) (hm : m ≤ n) : Room V m := ⟨by have := h.j; omega, by have := h.a; omega, by have := h.s; omega, by have := h.t; omega, by have := h.l; omega, by have := h.m; omega⟩
/-- No list of X is longer by more than so much. -/
structure EV.Grew (V X : EV) (j a s t l m : Nat) : Prop where
  j : X.journal.length ≤ V.journal.length + j
  a : X.accts.length ≤ V.accts.length + a
  s : X.slots.length ≤ V.slots.length + s
  t : X.temps.length ≤ V.temps.length + t
  l : X.logs.length ≤ V.logs.length + l
  m : X.marks.length ≤ V.marks.length + m
theorem EV.Grew.refl (V : EV) : V.Grew V 0 0 0 0 0 0 := ⟨by omega, by omega, by omega, by omega, by omega, by omega⟩
theorem EV.Grew.trans {V X Y : EV} {j a s t l m j2 a2 s2 t2 l2 m2 : Nat} (h : V.Grew X j a s t l m) (k : X.Grew Y j2 a2 s2 t2 l2 m2) : V.Grew Y (j + j2) (a + a2) (s + s2) (t + t2) (l + l2) (m + m2) :=
  ⟨by have := h.j; have := k.j; omega, by have := h.a; have := k.a; omega, by have := h.s; have := k.s; omega, by have := h.t; have := k.t; omega, by have := h.l; have := k.l; omega, by have := h.m; have := k.m; omega⟩
theorem EV.Grew.le {V X : EV} {j a s t l m j2 a2 s2 t2 l2 m2 : Nat} (h : V.Grew X j a s t l m) (hj : j ≤ j2) (ha : a ≤ a2) (hs : s ≤ s2) (ht : t ≤ t2) (hl : l ≤ l2) (hm : m ≤ m2) : V.Grew X j2 a2 s2 t2 l2 m2 :=
  ⟨by have := h.j; omega, by have := h.a; omega, by have := h.s; omega, by have := h.t; omega, by have := h.l; omega, by have := h.m; omega⟩
theorem Room.grew {V X : EV} {n k : Nat} (h : Room V (n + k)) {j a s t l m : Nat} (q : V.Grew X j a s t l m) (hj : j ≤ k) (ha : a ≤ k) (hs : s ≤ k) (ht : t ≤ k) (hl : l ≤ k) (hm : m ≤ k) : Room X n :=
  ⟨by have := h.j; have := q.j; omega, by have := h.a; have := q.a; omega, by have := h.s; have := q.s; omega, by have := h.t; have := q.t; omega, by have := h.l; have := q.l; omega, by have := h.m; have := q.m; omega⟩
section
variable {V : EV}
theorem need_acl (V : EV) (a : Nat) : (V.need a).accts.length ≤ V.accts.length + 1 ∧ (V.need a).slots = V.slots ∧ (V.need a).temps = V.temps ∧ (V.need a).logs = V.logs ∧ (V.need a).marks = V.marks ∧ (V.need a).journal = V.journal := by
  unfold EV.need
  split <;> simp
theorem grew_opA (V : EV) (a : Nat) (f : EAcct → EAcct) (e : JE) : V.Grew (V.opA a f e) 1 1 0 0 0 0 := by
  obtain ⟨h1, h2, h3, h4, h5, h6⟩ := need_acl V a
  refine ⟨?_, ?_, ?_, ?_, ?_, ?_⟩
  · show ((V.need a).journal.length + 1) ≤ _; rw [h6]; exact Nat.le_refl _
  · show ((V.need a).accts.modify (V.at_ a) f).length ≤ _; rw [List.length_modify]; exact h1
  · show (V.need a).slots.length ≤ _; rw [h2]; omega
  · show (V.need a).temps.length ≤ _; rw [h3]; omega
  · show (V.need a).logs.length ≤ _; rw [h4]; omega
  · show (V.need a).marks.length ≤ _; rw [h5]; omega
theorem grew_opS (V : EV) (a k : Nat) (f : ESlot → ESlot) (e : JE) : V.Grew (V.opS a k f e) 1 1 1 0 0 0 := by
  obtain ⟨h1, h2, h3, h4, h5, h6⟩ := need_acl V a
  have q : (V.needAS a k).accts = (V.need a).accts ∧ (V.needAS a k).slots.length ≤ (V.need a).slots.length + 1 ∧ (V.needAS a k).temps = (V.need a).temps ∧ (V.needAS a k).logs = (V.need a).logs ∧ (V.needAS a k).marks = (V.need a).marks ∧ (V.needAS a k).journal = (V.need a).journal := by
    unfold EV.needAS EV.needS
    split <;> simp
  obtain ⟨q1, q2, q3, q4, q5, q6⟩ := q
  refine ⟨?_, ?_, ?_, ?_, ?_, ?_⟩
  · show ((V.needAS a k).journal.length + 1) ≤ _; rw [q6, h6]; exact Nat.le_refl _
  · show (V.needAS a k).accts.length ≤ _; rw [q1]; exact h1
  · show ((V.needAS a k).slots.modify _ f).length ≤ _; rw [List.length_modify, ← h2]; exact q2
  · show (V.needAS a k).temps.length ≤ _; rw [q3, h3]; omega
  · show (V.needAS a k).logs.length ≤ _; rw [q4, h4]; omega
  · show (V.needAS a k).marks.length ≤ _; rw [q5, h5]; omega
theorem grew_tstore (V : EV) (a k v : Nat) : V.Grew (V.tstore a k v) 1 1 0 1 0 0 := by
  obtain ⟨h1, h2, h3, h4, h5, h6⟩ := need_acl V a
  have q : (V.needAT a k).accts = (V.need a).accts ∧ (V.needAT a k).temps.length ≤ (V.need a).temps.length + 1 ∧ (V.needAT a k).slots = (V.need a).slots ∧ (V.needAT a k).logs = (V.need a).logs ∧ (V.needAT a k).marks = (V.need a).marks ∧ (V.needAT a k).journal = (V.need a).journal := by
    unfold EV.needAT EV.needT
    split <;> simp
  obtain ⟨q1, q2, q3, q4, q5, q6⟩ := q
  refine ⟨?_, ?_, ?_, ?_, ?_, ?_⟩
  · show ((V.needAT a k).journal.length + 1) ≤ _; rw [q6, h6]; exact Nat.le_refl _
  · show (V.needAT a k).accts.length ≤ _; rw [q1]; exact h1
  · show (V.needAT a k).slots.length ≤ _; rw [q3, h2]; omega
  · show ((V.needAT a k).temps.modify _ _).length ≤ _; rw [List.length_modify, ← h3]; exact q2
  · show (V.needAT a k).logs.length ≤ _; rw [q4, h4]; omega
  · show (V.needAT a k).marks.length ≤ _; rw [q5, h5]; omega
theorem grew_setRef (V : EV) (n : Nat) : V.Grew (V.setRef n) 1 0 0 0 0 0 := ⟨Nat.le_refl _, Nat.le_refl _, Nat.le_refl _, Nat.le_refl _, Nat.le_refl _, Nat.le_refl _⟩
theorem grew_putLog (V : EV) (l : ALog) : V.Grew (V.putLog l) 1 0 0 0 1 0 := ⟨Nat.le_refl _, Nat.le_refl _, Nat.le_refl _, Nat.le_refl _, by show (V.logs ++ [l]).length ≤ _; simp, Nat.le_refl _⟩
theorem grew_snap (V : EV) : V.Grew V.snap 0 0 0 0 0 1 := ⟨Nat.le_refl _, Nat.le_refl _, Nat.le_refl _, Nat.le_refl _, Nat.le_refl _, Nat.le_refl _⟩
theorem Room.opA {n a : Nat} {f : EAcct → EAcct} {e : JE} (h : Room V (n + 1)) : Room (V.opA a f e) n := h.grew (grew_opA V a f e) (by decide) (by decide) (by decide) (by decide) (by decide) (by decide)
theorem Room.opS {n a k : Nat} {f : ESlot → ESlot} {e : JE} (h : Room V (n + 1)) : Room (V.opS a k f e) n := h.grew (grew_opS V a k f e) (by decide) (by decide) (by decide) (by decide) (by decide) (by decide)
theorem Room.setRef {n r : Nat} (h : Room V (n + 1)) : Room (V.setRef r) n := h.grew (grew_setRef V r) (by decide) (by decide) (by decide) (by decide) (by decide) (by decide)
theorem Room.jp {n : Nat} (h : Room V (n + 1)) : V.journal.length < 65536 := by have := h.j; omega
theorem Room.ap {n : Nat} (h : Room V (n + 1)) : V.accts.length < 2560 := by have := h.a; omega
theorem Room.sp {n : Nat} (h : Room V (n + 1)) : V.slots.length < 2560 := by have := h.s; omega
theorem Room.tp {n : Nat} (h : Room V (n + 1)) : V.temps.length < 12288 := by have := h.t; omega
theorem Room.lp {n : Nat} (h : Room V (n + 1)) : V.logs.length < 2800 := by have := h.l; omega
theorem Room.mp {n : Nat} (h : Room V (n + 1)) : V.marks.length < 16384 := by have := h.m; omega
end
/-- What stands while the vault changes: seen from W0. -/
def SV (own : Nat → Nat) (g : Nat) (c : Nat → Value) (W0 w' : World) : Prop := ∃ own' c', VStep own W0 c own' w' c' ∧ Blk w' g 27024 105 c'
section
variable {own own' : Nat → Nat} {w w' W0 : World} {g : Nat} {c c' : Nat → Value} {V X : EV} {st : ASt} {sn stale : List Nat}
theorem SV.ext (h : SV own g c W0 w) (e : Ext w w') : SV own g c W0 w' := by
  obtain ⟨o, d, k, b⟩ := h
  exact ⟨o, d, k.trans (VStep.ext e), b.ext e⟩
theorem SV.start (h : Blk W0 g 27024 105 c) (e : Ext W0 w) : SV own g c W0 w := SV.ext ⟨own, c, VStep.ext (Ext.refl _), h⟩ e
theorem SV.cell (h : SV own g c W0 w') {i : Nat} (hi : i < 2435) : w'.cell? ⟨g, i, none⟩ = some (c i) := by
  obtain ⟨o, d, k, b⟩ := h
  rw [b.cell (by omega), k.far i (Or.inl hi)]
theorem SV.box (h : SV own g c W0 w') {B n : Nat} {t : TypeId} {d : Nat → Value} (hb : Blk W0 B n t d) (hB : own B = 0) : Blk w' B n t d := by
  obtain ⟨o, e, k, b⟩ := h
  exact hb.mod k.mod (fun q => q.1.1 hB)
theorem yieldsS_A {S : World → Prop} {ops : Array Oper} {o : Oper} {a : Act} {x : Operand} {b i y : Nat} (hw : Region.wanted o (yielded ops a.tmps) = true) (hop : o.op = .load 31 x) (hx : a.eval x = .pointer (some ⟨b, i, none⟩)) (hB : ∀ w, S w → ∀ j, j < 20 → w.cell? ⟨b, i + j, none⟩ = some (c (i + j))) (hA : AAt c i y) (hy : y < 2 ^ 160) : YieldsIf Hvah.prog ops S o (.agg (av y)) a := by
  obtain ⟨d, h1, h2⟩ := rt25.desc
  exact yieldsIf_load_mid hw 31 x hop b i hx (av y).toList d (fun w h j v hv => by
    have hv2 : (av y)[j]? = some v := by simpa using hv
    have hj := (Array.getElem?_eq_some_iff.1 hv2).1
    rw [av_size hy] at hj
    rw [hB w h j hj, hA j v hv2]) h1 h2 (by rw [rt25.size]; simp [av_size hy])
theorem mPutNonce {n : Nat} (h : MRep own w g c V st sn stale) (hr : Room V (n + 1)) (a : Nat) (ha : a < 2 ^ 160) (x : Nat) (hx : x < 18446744073709551616) : Calls Hvah.prog 105 #[.pointer (some ⟨g, 2435, none⟩), .agg (av a), .int .u64 x] w fun e w' => e = .returned (.bool true) ∧ ∃ own' c', MRep own' w' g c' (V.putNonce a x) { st with now := st.now.setNonce a x } sn stale ∧ VStep own w c own' w' c' := by
  refine (vPutNonce x h.v ha hx hr.jp (fun _ => hr.ap)).mono ?_
  rintro e w1 ⟨rfl, own', c', hv, ks⟩
  have := h.op hv ks (putNonce_op h.v.wf a x)
  rw [h.abs] at this
  exact ⟨rfl, own', c', this, ks⟩
theorem mPutBal {n : Nat} (h : MRep own w g c V st sn stale) (hr : Room V (n + 1)) (a : Nat) (ha : a < 2 ^ 160) (x : Nat) (hx : x < P256) : Calls Hvah.prog 106 #[.pointer (some ⟨g, 2435, none⟩), .agg (av a), wv x] w fun e w' => e = .returned (.bool true) ∧ ∃ own' c', MRep own' w' g c' (V.putBal a x) { st with now := st.now.setBal a x } sn stale ∧ VStep own w c own' w' c' := by
  refine (vPutBalance x h.v ha hx hr.jp (fun _ => hr.ap)).mono ?_
  rintro e w1 ⟨rfl, own', c', hv, ks⟩
  have := h.op hv ks (putBal_op h.v.wf a x)
  rw [h.abs] at this
  exact ⟨rfl, own', c', this, ks⟩
theorem mWarmAcct {n : Nat} (h : MRep own w g c V st sn stale) (hr : Room V (n + 1)) (a : Nat) (ha : a < 2 ^ 160)  : Calls Hvah.prog 182 #[.pointer (some ⟨g, 2435, none⟩), .agg (av a)] w fun e w' => e = .returned (.bool true) ∧ ∃ own' c', MRep own' w' g c' (V.warmA a) { st with now := st.now.warm a } sn stale ∧ VStep own w c own' w' c' := by
  refine (vWarmAcct h.v ha hr.jp (fun _ => hr.ap)).mono ?_
  rintro e w1 ⟨rfl, own', c', hv, ks⟩
  have := h.op hv ks (warmA_op h.v.wf a)
  rw [h.abs] at this
  exact ⟨rfl, own', c', this, ks⟩
theorem mMarkMade {n : Nat} (h : MRep own w g c V st sn stale) (hr : Room V (n + 1)) (a : Nat) (ha : a < 2 ^ 160)  : Calls Hvah.prog 190 #[.pointer (some ⟨g, 2435, none⟩), .agg (av a)] w fun e w' => e = .returned (.bool true) ∧ ∃ own' c', MRep own' w' g c' (V.markMade a) { st with now := st.now.markMade a } sn stale ∧ VStep own w c own' w' c' := by
  refine (vMarkMade h.v ha hr.jp (fun _ => hr.ap)).mono ?_
  rintro e w1 ⟨rfl, own', c', hv, ks⟩
  have := h.op hv ks (markMade_op h.v.wf a)
  rw [h.abs] at this
  exact ⟨rfl, own', c', this, ks⟩
theorem mMarkGone {n : Nat} (h : MRep own w g c V st sn stale) (hr : Room V (n + 1)) (a : Nat) (ha : a < 2 ^ 160)  : Calls Hvah.prog 323 #[.pointer (some ⟨g, 2435, none⟩), .agg (av a)] w fun e w' => e = .returned (.bool true) ∧ ∃ own' c', MRep own' w' g c' (V.markGone a) { st with now := st.now.markGone a } sn stale ∧ VStep own w c own' w' c' := by
  refine (vMarkGone h.v ha hr.jp (fun _ => hr.ap)).mono ?_
  rintro e w1 ⟨rfl, own', c', hv, ks⟩
  have := h.op hv ks (markGone_op h.v.wf a)
  rw [h.abs] at this
  exact ⟨rfl, own', c', this, ks⟩
theorem mWarmSlot {n : Nat} (h : MRep own w g c V st sn stale) (hr : Room V (n + 1)) (a : Nat) (ha : a < 2 ^ 160) (k : Nat) (hk : k < P256) : Calls Hvah.prog 184 #[.pointer (some ⟨g, 2435, none⟩), .agg (av a), wv k] w fun e w' => e = .returned (.bool true) ∧ ∃ own' c', MRep own' w' g c' (V.warmS a k) { st with now := st.now.warmSlot a k } sn stale ∧ VStep own w c own' w' c' := by
  refine (vWarmSlot h.v ha hk hr.jp (fun _ => hr.ap) hr.sp).mono ?_
  rintro e w1 ⟨rfl, own', c', hv, ks⟩
  have := h.op hv ks (warmS_op h.v.wf a k)
  rw [h.abs] at this
  exact ⟨rfl, own', c', this, ks⟩
theorem mStore {n : Nat} (h : MRep own w g c V st sn stale) (hr : Room V (n + 1)) (a : Nat) (ha : a < 2 ^ 160) (k : Nat) (hk : k < P256) (x : Nat) (hx : x < P256) : Calls Hvah.prog 315 #[.pointer (some ⟨g, 2435, none⟩), .agg (av a), wv k, wv x] w fun e w' => e = .returned (.bool true) ∧ ∃ own' c', MRep own' w' g c' (V.store a k x) { st with now := st.now.store a k x } sn stale ∧ VStep own w c own' w' c' := by
  refine (vStore x h.v ha hx hk hr.jp (fun _ => hr.ap) hr.sp).mono ?_
  rintro e w1 ⟨rfl, own', c', hv, ks⟩
  have := h.op hv ks (store_op h.v.wf a k x)
  rw [h.abs] at this
  exact ⟨rfl, own', c', this, ks⟩
theorem mRefDown {n : Nat} (h : MRep own w g c V st sn stale) (hr : Room V (n + 1)) (x : Nat) (hx : x ≤ st.now.refund) : Calls Hvah.prog 316 #[.pointer (some ⟨g, 2435, none⟩), .int .u64 x] w fun e w' => e = .returned (.bool true) ∧ ∃ own' c', MRep own' w' g c' (V.setRef (st.now.refund - x)) { st with now := st.now.setRefund (st.now.refund - x) } sn stale ∧ VStep own w c own' w' c' := by
  have hrf : V.ref = st.now.refund := by rw [← h.abs]; rfl
  refine (vRefundDown x h.v (by rw [hrf]; exact hx) hr.jp).mono ?_
  rintro e w1 ⟨rfl, own', c', hv, ks⟩
  have := h.op hv ks (setRef_op h.v.wf (V.ref - x))
  rw [h.abs, hrf] at this
  exact ⟨rfl, own', c', this, ks⟩
theorem mRefUp {n : Nat} (h : MRep own w g c V st sn stale) (hr : Room V (n + 1)) (x : Nat) (hx : st.now.refund + x ≤ 209715200) : Calls Hvah.prog 317 #[.pointer (some ⟨g, 2435, none⟩), .int .u64 x] w fun e w' => e = .returned (.bool true) ∧ ∃ own' c', MRep own' w' g c' (V.setRef (st.now.refund + x)) { st with now := st.now.setRefund (st.now.refund + x) } sn stale ∧ VStep own w c own' w' c' := by
  have hrf : V.ref = st.now.refund := by rw [← h.abs]; rfl
  refine (vRefundUp x h.v (by rw [hrf]; exact hx) hr.jp).mono ?_
  rintro e w1 ⟨rfl, own', c', hv, ks⟩
  have := h.op hv ks (setRef_op h.v.wf (V.ref + x))
  rw [h.abs, hrf] at this
  exact ⟨rfl, own', c', this, ks⟩
end
end Go.Proofs.YgvahwGreat
