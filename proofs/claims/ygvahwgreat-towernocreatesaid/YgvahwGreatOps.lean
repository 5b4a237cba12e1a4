import Derived.Test.YgvahwGreatAW
namespace Go.Proofs.YgvahwGreat
theorem absA {V : EV} (hw : V.WF) (a : Nat) (f : EAcct → EAcct) (hf : ∀ x, (f x).addr = x.addr) : ((V.need a).modA (V.at_ a) f).abs =
    { V.abs with nonce := up V.abs.nonce a (f (V.acct a)).nonce, bal := up V.abs.bal a (f (V.acct a)).bal, code := up V.abs.code a (f (V.acct a)).code, warmA := up V.abs.warmA a (f (V.acct a)).warm, made := up V.abs.made a (f (V.acct a)).made, gone := up V.abs.gone a (f (V.acct a)).gone } := by
  have hw1 := need_wf hw a
  have hx := need_ex V a
  have hA : ∀ b, ((V.need a).modA (V.at_ a) f).acct b = if b = a then f (V.acct a) else V.acct b := fun b => by
    rw [acct_modA hw1 (need_ix V a) f hf, hx.acct, hx.acct]
  unfold EV.abs
  congr 1
  · funext b; simp only [hA, up]; split <;> rfl
  · funext b; simp only [hA, up]; split <;> rfl
  · funext b; simp only [hA, up]; split <;> rfl
  · funext b k; rw [sl_modA f hf]; exact (hx.sl hw b k).1
  · funext b; simp only [hA, up]; split <;> rfl
  · funext b k; rw [sl_modA f hf]; exact (hx.sl hw b k).2.2
  · exact hx.ref
  · exact hx.logs
  · funext b k; rw [tp_modA f hf]; exact hx.tp hw b k
  · funext b; simp only [hA, up]; split <;> rfl
  · funext b; simp only [hA, up]; split <;> rfl
theorem up_nonce (V : EV) (a : Nat) : up V.abs.nonce a (V.acct a).nonce = V.abs.nonce := up_self V.abs.nonce a
theorem up_bal (V : EV) (a : Nat) : up V.abs.bal a (V.acct a).bal = V.abs.bal := up_self V.abs.bal a
theorem up_code (V : EV) (a : Nat) : up V.abs.code a (V.acct a).code = V.abs.code := up_self V.abs.code a
theorem up_warm (V : EV) (a : Nat) : up V.abs.warmA a (V.acct a).warm = V.abs.warmA := up_self V.abs.warmA a
theorem up_made (V : EV) (a : Nat) : up V.abs.made a (V.acct a).made = V.abs.made := up_self V.abs.made a
theorem up_gone (V : EV) (a : Nat) : up V.abs.gone a (V.acct a).gone = V.abs.gone := up_self V.abs.gone a
theorem putBal_op {V : EV} (hw : V.WF) (a v : Nat) : V.Op (V.putBal a v) (V.abs.setBal a v) ⟨0, V.at_ a, 0, (V.acct a).bal, [], false⟩ := by
  unfold EV.putBal
  refine opA_op hw a _ (fun x => { x with bal := (V.acct a).bal }) _ ?_ ?_ ?_ ?_ ?_ _ ?_
  · exact fun _ => rfl
  · simp
  · rfl
  · exact fun X => by simp [EV.undo]
  · rfl
  refine (absA hw a _ ?_).trans ?_
  · exact fun _ => rfl
  simp only [up_nonce, up_code, up_warm, up_made, up_gone]; rfl
theorem putNonce_op {V : EV} (hw : V.WF) (a v : Nat) : V.Op (V.putNonce a v) (V.abs.setNonce a v) ⟨1, V.at_ a, (V.acct a).nonce, 0, [], false⟩ := by
  unfold EV.putNonce
  refine opA_op hw a _ (fun x => { x with nonce := (V.acct a).nonce }) _ ?_ ?_ ?_ ?_ ?_ _ ?_
  · exact fun _ => rfl
  · simp
  · rfl
  · exact fun X => by simp [EV.undo]
  · rfl
  refine (absA hw a _ ?_).trans ?_
  · exact fun _ => rfl
  simp only [up_bal, up_code, up_warm, up_made, up_gone]; rfl
theorem putCode_op {V : EV} (hw : V.WF) (a : Nat) (c : List Nat) : V.Op (V.putCode a c) (V.abs.setCode a c) ⟨2, V.at_ a, 0, 0, (V.acct a).code, false⟩ := by
  unfold EV.putCode
  refine opA_op hw a _ (fun x => { x with code := (V.acct a).code }) _ ?_ ?_ ?_ ?_ ?_ _ ?_
  · exact fun _ => rfl
  · simp
  · rfl
  · exact fun X => by simp [EV.undo]
  · rfl
  refine (absA hw a _ ?_).trans ?_
  · exact fun _ => rfl
  simp only [up_bal, up_nonce, up_warm, up_made, up_gone]; rfl
theorem warmA_op {V : EV} (hw : V.WF) (a : Nat) : V.Op (V.warmA a) (V.abs.warm a) ⟨4, V.at_ a, 0, 0, [], (V.acct a).warm⟩ := by
  unfold EV.warmA
  refine opA_op hw a _ (fun x => { x with warm := (V.acct a).warm }) _ ?_ ?_ ?_ ?_ ?_ _ ?_
  · exact fun _ => rfl
  · simp
  · rfl
  · exact fun X => by simp [EV.undo]
  · rfl
  refine (absA hw a _ ?_).trans ?_
  · exact fun _ => rfl
  simp only [up_bal, up_nonce, up_code, up_made, up_gone]; rfl
theorem markMade_op {V : EV} (hw : V.WF) (a : Nat) : V.Op (V.markMade a) (V.abs.markMade a) ⟨9, V.at_ a, 0, 0, [], (V.acct a).made⟩ := by
  unfold EV.markMade
  refine opA_op hw a _ (fun x => { x with made := (V.acct a).made }) _ ?_ ?_ ?_ ?_ ?_ _ ?_
  · exact fun _ => rfl
  · simp
  · rfl
  · exact fun X => by simp [EV.undo]
  · rfl
  refine (absA hw a _ ?_).trans ?_
  · exact fun _ => rfl
  simp only [up_bal, up_nonce, up_code, up_warm, up_gone]; rfl
theorem markGone_op {V : EV} (hw : V.WF) (a : Nat) : V.Op (V.markGone a) (V.abs.markGone a) ⟨10, V.at_ a, 0, 0, [], (V.acct a).gone⟩ := by
  unfold EV.markGone
  refine opA_op hw a _ (fun x => { x with gone := (V.acct a).gone }) _ ?_ ?_ ?_ ?_ ?_ _ ?_
  · exact fun _ => rfl
  · simp
  · rfl
  · exact fun X => by simp [EV.undo]
  · rfl
  refine (absA hw a _ ?_).trans ?_
  · exact fun _ => rfl
  simp only [up_bal, up_nonce, up_code, up_warm, up_made]; rfl

theorem needAS_wf {V : EV} (hw : V.WF) (a k : Nat) : (V.needAS a k).WF := needS_wf (need_wf hw a) (need_len V a).2.2 k
theorem needAS_ex (V : EV) (a k : Nat) : V.Ex (V.needAS a k) := (need_ex V a).trans (needS_ex _ _ _)
theorem needAS_ix (V : EV) (a k : Nat) : (V.needAS a k).ix a = some (V.at_ a) := by
  have := need_ix V a
  unfold EV.needAS EV.needS
  split
  · exact this
  · exact this
theorem needAS_sl {V : EV} (hw : V.WF) (a k : Nat) : ∃ h : V.atAS a k < (V.needAS a k).slots.length, (V.needAS a k).slots[V.atAS a k].val = (V.sl a k).val ∧ (V.needAS a k).slots[V.atAS a k].warm = (V.sl a k).warm ∧ (V.needAS a k).sl a k = (V.needAS a k).slots[V.atAS a k] := by
  have hj : ixG ESlot.kc (V.at_ a, k) (V.needAS a k).slots = some (V.atAS a k) := needS_ix (V.need a) (V.at_ a) k
  obtain ⟨h1, h2⟩ := ix_some hj
  have hl := look_getElem (needAS_wf hw a k).s1 h1
  rw [h2] at hl
  have he : (V.needAS a k).sl a k = (V.needAS a k).slots[V.atAS a k] := by
    unfold EV.sl; rw [needAS_ix]; simp only [Option.bind_some]; rw [hl]; rfl
  have hx := (needAS_ex V a k).sl hw a k
  rw [he] at hx
  exact ⟨h1, hx.1, hx.2.2, he⟩
theorem opS_op {V : EV} (hw : V.WF) (a k : Nat) (f g : ESlot → ESlot) (e : JE) (hf : ∀ x, (f x).kc = x.kc) (hfo : ∀ x, (f x).orig = x.orig) (hk : e.kind = 3 ∨ e.kind = 5) (he : e.at_ = V.atAS a k)
    (hu : ∀ X : EV, X.undo e = X.modS e.at_ g) (hg : ∀ x : ESlot, x.val = (V.sl a k).val → x.warm = (V.sl a k).warm → g (f x) = x) (W : AW)
    (hW : { V.abs with slot := up2 V.abs.slot a k (f (V.sl a k)).val, warmS := up2 V.abs.warmS a k (f (V.sl a k)).warm } = W) (hfv : ∀ x y : ESlot, x.val = y.val → x.warm = y.warm → (f x).val = (f y).val ∧ (f x).warm = (f y).warm) : V.Op (V.opS a k f e) W e := by
  have hl := need_len V a
  have hs : (V.need a).slots = V.slots := by unfold EV.need; split <;> rfl
  have ht : (V.needAS a k).temps = V.temps := by unfold EV.needAS EV.needS EV.need; split <;> split <;> rfl
  have hj : (V.needAS a k).journal = V.journal := by unfold EV.needAS EV.needS EV.need; split <;> split <;> rfl
  have hm : (V.needAS a k).marks = V.marks := by unfold EV.needAS EV.needS EV.need; split <;> split <;> rfl
  have hlg : (V.needAS a k).logs = V.logs := by unfold EV.needAS EV.needS EV.need; split <;> split <;> rfl
  have ha : (V.needAS a k).accts = (V.need a).accts := by unfold EV.needAS EV.needS; split <;> rfl
  have hsl : V.slots.length ≤ (V.needAS a k).slots.length ∧ (V.needAS a k).slots.length ≤ V.slots.length + 1 := by
    unfold EV.needAS EV.needS; rw [hs]; split <;> simp [hs]
  have hw1 := needAS_wf hw a k
  have hw2 := WF_modS hw1 (i := V.atAS a k) f hf
  have hx := needAS_ex V a k
  obtain ⟨q1, q2, q3, q4⟩ := needAS_sl hw a k
  have hS : ∀ b l, ((V.needAS a k).modS (V.atAS a k) f).sl b l = if b = a ∧ l = k then f ((V.needAS a k).sl a k) else (V.needAS a k).sl b l := fun b l =>
    sl_modS hw1 (needAS_ix V a k) (needS_ix (V.need a) (V.at_ a) k) f hf b l
  have hxl : (V.opS a k f e).slots.length = (V.needAS a k).slots.length := by simp [EV.opS, EV.push, EV.modS]
  refine ⟨⟨hw2.a1, hw2.s1, hw2.t1, hw2.sA, hw2.tA⟩, ?_, ?_, ?_, ?_, ?_, ?_, ?_, ?_, ?_⟩
  · rw [← hW]
    show EV.abs ((V.needAS a k).modS (V.atAS a k) f) = _
    have hab := hx.abs hw
    have hfx := hfv ((V.needAS a k).sl a k) (V.sl a k) (by rw [q4]; exact q2) (by rw [q4]; exact q3)
    unfold EV.abs at hab ⊢
    simp only [AW.mk.injEq] at hab
    obtain ⟨e1, e2, e3, e4, e5, e6, e7, e8, e9, e10, e11⟩ := hab
    congr 1
    · funext b l; simp only [hS, up2]
      split
      · exact hfx.1
      · exact congrFun (congrFun e4 b) l
    · funext b l; simp only [hS, up2]
      split
      · exact hfx.2
      · exact congrFun (congrFun e6 b) l
  · show e :: (V.needAS a k).journal = _; rw [hj]
  · show (V.needAS a k).marks = _; rw [hm]
  · exact ⟨fun h => by omega, fun _ => by rw [hxl, he]; exact q1, fun h => by omega, by omega⟩
  · rw [hu, he]
    have : (V.opS a k f e).modS (V.atAS a k) g = (V.needAS a k).push e := by
      have hb := modS_back (V := V.needAS a k) (i := V.atAS a k) (f := f) (g := g) (fun hi => hg _ q2 q3)
      calc (((V.needAS a k).modS (V.atAS a k) f).push e).modS (V.atAS a k) g = (((V.needAS a k).modS (V.atAS a k) f).modS (V.atAS a k) g).push e := rfl
        _ = _ := by rw [hb]
    rw [this]
    exact ⟨hx.accts, hx.slots, hx.temps, hx.logs, hx.ref⟩
  · rw [hxl]; exact ⟨by show _ ≤ (V.needAS a k).accts.length; rw [ha]; exact hl.1, hsl.1, by show _ ≤ (V.needAS a k).temps.length; rw [ht]; exact Nat.le_refl _⟩
  · rw [hxl]; exact ⟨by show (V.needAS a k).accts.length ≤ _; rw [ha]; exact hl.2.1, hsl.2, by show (V.needAS a k).temps.length ≤ _; rw [ht]; omega⟩
  · show _ ≤ (V.needAS a k).logs.length; rw [hlg, if_neg (by omega)]; omega
  · intro b l
    show (((V.needAS a k).modS (V.atAS a k) f).sl b l).orig = _
    rw [hS]
    split
    · rename_i h; rw [hfo, h.1, h.2]; exact (hx.sl hw a k).2.1
    · exact (hx.sl hw b l).2.1
theorem store_op {V : EV} (hw : V.WF) (a k v : Nat) : V.Op (V.store a k v) (V.abs.store a k v) ⟨3, V.atAS a k, 0, (V.sl a k).val, [], false⟩ := by
  unfold EV.store
  refine opS_op hw a k _ (fun x => { x with val := (V.sl a k).val }) _ ?_ ?_ ?_ ?_ ?_ ?_ _ ?_ ?_
  · exact fun _ => rfl
  · exact fun _ => rfl
  · simp
  · rfl
  · exact fun X => by simp [EV.undo]
  · exact fun x h _ => by rw [← h]
  case refine_8 => exact fun x y _ h => ⟨rfl, h⟩
  unfold AW.store
  have := up2_self V.abs.warmS a k
  show ({ V.abs with slot := up2 V.abs.slot a k v, warmS := up2 V.abs.warmS a k (V.abs.warmS a k) } : AW) = _
  rw [this]
theorem warmS_op {V : EV} (hw : V.WF) (a k : Nat) : V.Op (V.warmS a k) (V.abs.warmSlot a k) ⟨5, V.atAS a k, 0, 0, [], (V.sl a k).warm⟩ := by
  unfold EV.warmS
  refine opS_op hw a k _ (fun x => { x with warm := (V.sl a k).warm }) _ ?_ ?_ ?_ ?_ ?_ ?_ _ ?_ ?_
  · exact fun _ => rfl
  · exact fun _ => rfl
  · simp
  · rfl
  · exact fun X => by simp [EV.undo]
  · exact fun x _ h => by rw [← h]
  case refine_8 => exact fun x y h _ => ⟨h, rfl⟩
  unfold AW.warmSlot
  have := up2_self V.abs.slot a k
  show ({ V.abs with slot := up2 V.abs.slot a k (V.abs.slot a k), warmS := up2 V.abs.warmS a k true } : AW) = _
  rw [this]
theorem needAT_wf {V : EV} (hw : V.WF) (a k : Nat) : (V.needAT a k).WF := needT_wf (need_wf hw a) (need_len V a).2.2 k
theorem needAT_ex (V : EV) (a k : Nat) : V.Ex (V.needAT a k) := (need_ex V a).trans (needT_ex _ _ _)
theorem needAT_ix (V : EV) (a k : Nat) : (V.needAT a k).ix a = some (V.at_ a) := by
  have := need_ix V a
  unfold EV.needAT EV.needT
  split
  · exact this
  · exact this
theorem needAT_tp {V : EV} (hw : V.WF) (a k : Nat) : ∃ h : V.atAT a k < (V.needAT a k).temps.length, (V.needAT a k).temps[V.atAT a k].val = V.tp a k := by
  have hj : ixG ETemp.kc (V.at_ a, k) (V.needAT a k).temps = some (V.atAT a k) := needT_ix (V.need a) (V.at_ a) k
  obtain ⟨h1, h2⟩ := ix_some hj
  have hl := look_getElem (needAT_wf hw a k).t1 h1
  rw [h2] at hl
  have he : (V.needAT a k).tp a k = (V.needAT a k).temps[V.atAT a k].val := by
    unfold EV.tp; rw [needAT_ix]; simp only [Option.bind_some]; rw [hl]; rfl
  exact ⟨h1, by rw [← he]; exact (needAT_ex V a k).tp hw a k⟩
theorem tstore_op {V : EV} (hw : V.WF) (a k v : Nat) : V.Op (V.tstore a k v) (V.abs.tstore a k v) ⟨8, V.atAT a k, 0, V.tp a k, [], false⟩ := by
  have hl := need_len V a
  have htt : (V.need a).temps = V.temps := by unfold EV.need; split <;> rfl
  have ht : (V.needAT a k).slots = V.slots := by unfold EV.needAT EV.needT EV.need; split <;> split <;> rfl
  have hj : (V.needAT a k).journal = V.journal := by unfold EV.needAT EV.needT EV.need; split <;> split <;> rfl
  have hm : (V.needAT a k).marks = V.marks := by unfold EV.needAT EV.needT EV.need; split <;> split <;> rfl
  have hlg : (V.needAT a k).logs = V.logs := by unfold EV.needAT EV.needT EV.need; split <;> split <;> rfl
  have ha : (V.needAT a k).accts = (V.need a).accts := by unfold EV.needAT EV.needT; split <;> rfl
  have hsl : V.temps.length ≤ (V.needAT a k).temps.length ∧ (V.needAT a k).temps.length ≤ V.temps.length + 1 := by
    unfold EV.needAT EV.needT; rw [htt]; split <;> simp [htt]
  have hw1 := needAT_wf hw a k
  have hw2 := WF_modT hw1 (i := V.atAT a k) v
  have hx := needAT_ex V a k
  obtain ⟨q1, q2⟩ := needAT_tp hw a k
  have hS : ∀ b l, ((V.needAT a k).modT (V.atAT a k) fun x => { x with val := v }).tp b l = if b = a ∧ l = k then v else (V.needAT a k).tp b l := fun b l =>
    tp_modT hw1 (needAT_ix V a k) (needT_ix (V.need a) (V.at_ a) k) v b l
  have hxl : (V.tstore a k v).temps.length = (V.needAT a k).temps.length := by simp [EV.tstore, EV.push, EV.modT]
  refine ⟨⟨hw2.a1, hw2.s1, hw2.t1, hw2.sA, hw2.tA⟩, ?_, ?_, ?_, ?_, ?_, ?_, ?_, ?_, ?_⟩
  · show EV.abs ((V.needAT a k).modT (V.atAT a k) fun x => { x with val := v }) = _
    have hab := hx.abs hw
    unfold AW.tstore
    unfold EV.abs at hab ⊢
    simp only [AW.mk.injEq] at hab
    obtain ⟨e1, e2, e3, e4, e5, e6, e7, e8, e9, e10, e11⟩ := hab
    congr 1
    funext b l; simp only [hS, up2]
    split
    · rfl
    · exact congrFun (congrFun e9 b) l
  · show _ :: (V.needAT a k).journal = _; rw [hj]
  · show (V.needAT a k).marks = _; rw [hm]
  · exact ⟨fun h => by simp at h, fun h => by simp at h, fun _ => by rw [hxl]; exact q1, by simp⟩
  · rw [show (V.tstore a k v).undo ⟨8, V.atAT a k, 0, V.tp a k, [], false⟩ = (V.tstore a k v).modT (V.atAT a k) (fun x => { x with val := V.tp a k }) by simp [EV.undo]]
    have : (V.tstore a k v).modT (V.atAT a k) (fun x => { x with val := V.tp a k }) = (V.needAT a k).push ⟨8, V.atAT a k, 0, V.tp a k, [], false⟩ := by
      have hb := modT_back (V := V.needAT a k) (i := V.atAT a k) (f := fun x => { x with val := v }) (g := fun x => { x with val := V.tp a k }) (fun hi => by rw [← q2])
      calc (((V.needAT a k).modT (V.atAT a k) fun x => { x with val := v }).push _).modT (V.atAT a k) (fun x => { x with val := V.tp a k }) = (((V.needAT a k).modT (V.atAT a k) fun x => { x with val := v }).modT (V.atAT a k) (fun x => { x with val := V.tp a k })).push _ := rfl
        _ = _ := by rw [hb]
    rw [this]
    exact ⟨hx.accts, hx.slots, hx.temps, hx.logs, hx.ref⟩
  · rw [hxl]; exact ⟨by show _ ≤ (V.needAT a k).accts.length; rw [ha]; exact hl.1, by show _ ≤ (V.needAT a k).slots.length; rw [ht]; exact Nat.le_refl _, hsl.1⟩
  · rw [hxl]; exact ⟨by show (V.needAT a k).accts.length ≤ _; rw [ha]; exact hl.2.1, by show (V.needAT a k).slots.length ≤ _; rw [ht]; omega, hsl.2⟩
  · show _ ≤ (V.needAT a k).logs.length; rw [hlg]; simp
  · intro b l
    exact (hx.sl hw b l).2.1
theorem setRef_op {V : EV} (hw : V.WF) (n : Nat) : V.Op (V.setRef n) (V.abs.setRefund n) ⟨6, 0, V.ref, 0, [], false⟩ := by
  refine ⟨⟨hw.a1, hw.s1, hw.t1, hw.sA, hw.tA⟩, rfl, rfl, rfl, ⟨fun h => by simp at h, fun h => by simp at h, fun h => by simp at h, by simp⟩, ?_, ⟨Nat.le_refl _, Nat.le_refl _, Nat.le_refl _⟩, ⟨by simp [EV.setRef, EV.push], by simp [EV.setRef, EV.push], by simp [EV.setRef, EV.push]⟩, by simp [EV.setRef, EV.push], fun _ _ => rfl⟩
  have : (V.setRef n).undo ⟨6, 0, V.ref, 0, [], false⟩ = V.push ⟨6, 0, V.ref, 0, [], false⟩ := by simp [EV.undo, EV.setRef, EV.push]
  rw [this]
  exact ⟨⟨[], by simp [EV.push]⟩, ⟨[], by simp [EV.push]⟩, ⟨[], by simp [EV.push]⟩, rfl, rfl⟩
theorem putLog_op {V : EV} (hw : V.WF) (l : ALog) : V.Op (V.putLog l) (V.abs.putLog l) ⟨7, 0, 0, 0, [], false⟩ := by
  refine ⟨⟨hw.a1, hw.s1, hw.t1, hw.sA, hw.tA⟩, rfl, rfl, rfl, ⟨fun h => by simp at h, fun h => by simp at h, fun h => by simp at h, by simp⟩, ?_, ⟨Nat.le_refl _, Nat.le_refl _, Nat.le_refl _⟩, ⟨by simp [EV.putLog, EV.push], by simp [EV.putLog, EV.push], by simp [EV.putLog, EV.push]⟩, by simp [EV.putLog, EV.push]; omega, fun _ _ => rfl⟩
  have : (V.putLog l).undo ⟨7, 0, 0, 0, [], false⟩ = V.push ⟨7, 0, 0, 0, [], false⟩ := by simp [EV.undo, EV.putLog, EV.push]
  rw [this]
  exact ⟨⟨[], by simp [EV.push]⟩, ⟨[], by simp [EV.push]⟩, ⟨[], by simp [EV.push]⟩, rfl, rfl⟩
end Go.Proofs.YgvahwGreat
