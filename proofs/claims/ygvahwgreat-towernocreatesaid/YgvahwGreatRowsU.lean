import Derived.Test.YgvahwGreatRowsT
import Derived.Test.YgvahwGreatVaPc
namespace Go.Proofs.YgvahwGreat
open Go.RowKit
/-- A list in which one member is changed but for its key and what q tells. -/
theorem look_modify {α β κ : Type} [DecidableEq κ] (key : α → κ) (q : α → β) (f : α → α) (hk : ∀ x, key (f x) = key x) (hq : ∀ x, q (f x) = q x) (k : κ) : ∀ (l : List α) (i : Nat), (look key k (l.modify i f)).map q = (look key k l).map q
  | [], i => by cases i <;> rfl
  | x :: l, 0 => by
    rw [List.modify_zero_cons, look_cons, look_cons, hk]
    split
    · simp [hq]
    · rfl
  | x :: l, i + 1 => by
    rw [List.modify_succ_cons, look_cons, look_cons]
    split
    · rfl
    · exact look_modify key q f hk hq k l i
theorem ix_modify {α κ : Type} [DecidableEq κ] (key : α → κ) (f : α → α) (hk : ∀ x, key (f x) = key x) (k : κ) : ∀ (l : List α) (i : Nat), ixG key k (l.modify i f) = ixG key k l
  | [], i => by cases i <;> rfl
  | x :: l, 0 => by rw [List.modify_zero_cons, ixG_cons, ixG_cons, hk]
  | x :: l, i + 1 => by rw [List.modify_succ_cons, ixG_cons, ixG_cons, ix_modify key f hk k l i]
theorem sl_origA (V : EV) (i : Nat) (f : EAcct → EAcct) (hf : ∀ x, (f x).addr = x.addr) (a k : Nat) : ((V.modA i f).sl a k).orig = (V.sl a k).orig := by
  have : (V.modA i f).ix a = V.ix a := ix_modify EAcct.addr f hf a V.accts i
  unfold EV.sl
  rw [this]; rfl
theorem sl_origS (V : EV) (i : Nat) (f : ESlot → ESlot) (hf : ∀ x, (f x).kc = x.kc) (ho : ∀ x, (f x).orig = x.orig) (a k : Nat) : ((V.modS i f).sl a k).orig = (V.sl a k).orig := by
  unfold EV.sl
  show ((((V.ix a).bind fun j => look ESlot.kc (j, k) (V.slots.modify i f))).getD (ESlot.new 0 k)).orig = _
  cases V.ix a with
  | none => rfl
  | some j =>
    simp only [Option.bind_some]
    have := look_modify ESlot.kc ESlot.orig f hf ho (j, k) V.slots i
    cases h1 : look ESlot.kc (j, k) (V.slots.modify i f) with
    | none => rw [h1] at this; cases h2 : look ESlot.kc (j, k) V.slots with
      | none => rfl
      | some y => rw [h2] at this; cases this
    | some x => rw [h1] at this; cases h2 : look ESlot.kc (j, k) V.slots with
      | none => rw [h2] at this; cases this
      | some y =>
        rw [h2] at this
        simp only [Option.map_some, Option.some.injEq] at this
        exact this
theorem undo_orig (V : EV) (e : JE) (a k : Nat) : ((V.undo e).sl a k).orig = (V.sl a k).orig := by
  unfold EV.undo
  repeat' (first | (refine sl_origA V _ _ ?_ a k; intro _; rfl) | (refine sl_origS V _ _ ?_ ?_ a k <;> (intro _; rfl)) | rfl | split)
theorem undoL_orig : ∀ (l : List JE) (V : EV) (a k : Nat), ((undoL l V).sl a k).orig = (V.sl a k).orig
  | [], _, _, _ => rfl
  | e :: l, V, a, k => (undoL_orig l (V.undo e) a k).trans (undo_orig V e a k)
theorem revertTo_orig (V : EV) (id a k : Nat) : ((V.revertTo id).sl a k).orig = (V.sl a k).orig := undoL_orig _ V a k
section
variable {own own' : Nat → Nat} {w w' : World} {g : Nat} {c c' : Nat → Value} {V X : EV} {st : ASt} {sn sn' stale stale' : List Nat} {f p : AFrame} {rest frs' : List AFrame} {s n : Nat} {o : List Nat}
theorem mPutCode {n : Nat} (h : MRep own w g c V st sn stale) (hr : Room V (n + 1)) (a : Nat) (ha : a < 2 ^ 160) (v : Value) (L : List Nat) (hv : NL (Mu own) w v L) (hL : L.length ≤ 256) : Calls Hvah.prog 264 #[.pointer (some ⟨g, 2435, none⟩), .agg (av a), v] w fun e w' => e = .returned (.bool true) ∧ ∃ own' c', MRep own' w' g c' (V.putCode a L) { st with now := st.now.setCode a L } sn stale ∧ VStep own w c own' w' c' := by
  refine (vPutCode v L h.v ha hv hL hr.jp (fun _ => hr.ap)).mono ?_
  rintro e w1 ⟨rfl, own', c', hv2, ks⟩
  have := h.op hv2 ks (putCode_op h.v.wf a L)
  rw [h.abs] at this
  exact ⟨rfl, own', c', this, ks⟩
/-- What a vault must keep when the top frame goes. -/
structure GoneTo (V X : EV) (st : ASt) (A : AW) (sn : List Nat) : Prop where
  abs : X.abs = A
  jok : X.JOK
  orig : ∀ a k, (X.sl a k).orig = st.orig a k
  snl : ∀ s ∈ sn, s < X.marks.length
  saved : ∀ t ∈ sn, X.savedAt t = V.savedAt t
theorem MRep.goneSame (h : MRep own w g c V st (s :: sn) stale) : GoneTo V V st st.now sn := ⟨h.abs, h.jok, h.orig, fun x hx => h.snl x (List.mem_cons_of_mem _ hx), fun _ _ => rfl⟩
theorem MRep.goneBack (h : MRep own w g c V st (s :: sn) stale) (hst : st.frames = f :: rest) : GoneTo V (V.revertTo s) st f.saved sn := by
  have hs := h.snl s (List.mem_cons_self ..)
  obtain ⟨h1, h2, h3, h4, h5⟩ := revertTo_ok h.v.wf h.jok hs
  have hlt : ∀ t ∈ sn, t < s := fun t ht => (List.pairwise_cons.1 h.snr).1 t ht
  refine ⟨h1.trans ?_, h2, fun a k => (revertTo_orig V s a k).trans (h.orig a k), fun t ht => by rw [h4]; exact hlt t ht, fun t ht => h5 t (hlt t ht)⟩
  have := h.saved 0 (by rw [hst]; simp)
  rw [show (s :: sn).getD 0 0 = s from rfl] at this
  rw [this]; simp [hst]
/-- The machine whose top frame is gone. -/
theorem MRep.left_ {A : AW} {c1 : Nat → Value} (h : MRep own w g c V st (s :: sn) stale) (hst : st.frames = f :: rest) (hph : st.phase = 1) (hX : GoneTo V X st A sn) (hv : VRep own' w' g c' X) (k : VStep own w c own' w' c1) (hc : ∀ i, i < 2435 → i ≠ 10 → i ≠ 2258 → i ≠ 2259 → c' i = c i) (hbt : c' 27023 = c 27023) (h10 : c' 10 = .int .u8 (rest.length : Nat)) (ht : c' 2258 = .int .i8 ((rest.length : Int) - 1)) (hret : NL (Mu own') w' (c' 2259) o) :
    MRep own' w' g c' X { st with now := A, ret := o, frames := rest } sn (f.mem ++ stale) := by
  have hnl : ∀ v l, NL (Mu own) w v l → NL (Mu own') w' v l := fun v l q => k.nl q
  have hwl : ∀ v l, WL (Mu own) w v l → WL (Mu own') w' v l := fun v l q => k.wl q
  have hm0 := h.m
  have hmm := hm0.mem
  have hfs := hm0.frs
  have hsv := h.saved
  rw [hst] at hmm hfs hsv
  have hfew := hmm.few
  simp at hfew
  have hlow : ∀ j, 2260 ≤ j → j < 2435 → c' j = c j := fun j h1 h2 => hc j h2 (by omega) (by omega) (by omega)
  refine ⟨hv, ⟨(hc 0 (by omega) (by omega) (by omega) (by omega)).trans hm0.ptr, ?_, ?_, ht, hret, hm0.env.same (fun j h1 h2 => hlow j (by omega) (by omega)) hwl, hm0.origin.same hm0.oLt (fun j hj => hlow _ (by omega) (by omega)), hm0.oLt, ⟨by rw [hlow _ (by omega) (by omega)]; exact hm0.price.c0, by rw [hlow _ (by omega) (by omega)]; exact hm0.price.c1, by rw [hlow _ (by omega) (by omega)]; exact hm0.price.c2, by rw [hlow _ (by omega) (by omega)]; exact hm0.price.c3⟩, hm0.pLt, (hlow _ (by omega) (by omega)).trans hm0.phase, hm0.hLt, (hlow _ (by omega) (by omega)).trans hm0.status, hm0.sLt, (hlow _ (by omega) (by omega)).trans hm0.applied, hm0.aLt, (hlow _ (by omega) (by omega)).trans hm0.limit, hm0.lLt, hm0.made.same hm0.mLt (fun j hj => hlow _ (by omega) (by omega)), hm0.mLt, fun _ q => (by have q2 : st.phase = 2 := q; rw [hph] at q2; cases q2), hm0.fLt⟩, hX.abs, hX.jok, hX.orig, hX.snl, (List.pairwise_cons.1 h.snr).2, ?_, hbt.trans h.built⟩
  · show MemC own' w' c' (rest.map (·.mem)) (f.mem ++ stale)
    have hl0 : lowB (rest.map (·.mem)) ++ (f.mem ++ stale) = lowB (f.mem :: rest.map (·.mem)) ++ stale := by simp [lowB]
    refine ⟨by rw [h10, List.length_map], ?_, ?_, by simp; omega, fun x hx => hmm.size x (List.mem_cons_of_mem _ hx), by rw [hl0]; exact hmm.stl⟩
    · exact hmm.base.2.same (by simp; omega) (fun j h1 h2 => hc j (by omega) (by omega) (by omega) (by omega))
    · rw [hl0, hc 1 (by omega) (by omega) (by omega) (by omega)]
      exact hmm.buf.mono (fun _ _ _ q => q) (fun b hb q => by unfold Ow at *; rw [k.keep b hb]; exact q) (fun b m t cc hB hT => hB.mod k.mod (fun q => q.2 hT))
  · exact FrL.same (fun j h1 h2 => hc j (by omega) (by omega) (by omega) (by omega)) hnl (show rest.length ≤ 7 by omega) hfs.2
  · intro i hi
    have hsl := hfs.len
    have hmem : sn.getD i 0 ∈ sn := by
      have : i < sn.length := by simp at hsl; simp at hi; omega
      rw [List.getD_eq_getElem?_getD, List.getElem?_eq_getElem this]
      exact List.getElem_mem _
    rw [hX.saved _ hmem]
    exact hsv (i + 1) (by simpa using hi)
/-- The transaction has ended. -/
theorem MRep.ended {lf sts : Nat} (h : MRep own w g c V st [] stale) (hst : st.frames = []) (hm : Mod (· = g) w w') (hB : Blk w' g 27024 105 c') (hc : ∀ i, i ≠ 1810 → i ≠ 2404 → i ≠ 2405 → c' i = c i) (h1 : c' 2404 = .int .u8 2) (h2 : c' 2405 = .int .u8 (sts : Nat)) (hs : sts < 256) (h3 : c' 1810 = .int .u64 (lf : Nat)) (hl : lf < 18446744073709551616) :
    MRep own w' g c' V { st with frames := [], phase := 2, status := sts, left := lf } [] stale ∧ MStep own w own w' := by
  have K : Keep own own g 7 w w' := ⟨fun _ _ => rfl, hm.sub (fun x hx => Or.inl hx), h.v.tag, by decide⟩
  have hmm := h.m.mem
  have htop := h.m.top
  rw [hst] at hmm htop
  refine ⟨h.gen2 (frs' := []) (ret' := st.ret) (ph := 2) (sts := sts) (lf := lf) K (fun b hb => h.v.fresh b (Nat.le_trans hm.size hb)) hB (hc 0 (by omega) (by omega) (by omega)) (fun i q1 q2 q3 => hc i (by omega) q2 q3) ⟨(hc _ (by omega) (by omega) (by omega)).trans hmm.top, (hc _ (by omega) (by omega) (by omega)).trans hmm.base, ?_, hmm.few, hmm.size, hmm.stl⟩ trivial ((hc _ (by omega) (by omega) (by omega)).trans htop) (by rw [hc _ (by omega) (by omega) (by omega)]; exact K.nl h.m.ret) h1 (by decide) h2 hs (fun _ _ => h3) hl (fun s q => by cases q) List.Pairwise.nil (fun i q => by simp at q), MStep.ofG h.v.tag hm⟩
  rw [hc 1 (by omega) (by omega) (by omega)]
  exact (Keep.here h.v hm).row hmm.buf (fun _ _ _ q => q) (by decide) (by decide)
/-- The top frame's gas is set. -/
theorem MRep.setGas (h : MRep own w g c V st (s :: sn) stale) (hst : st.frames = f :: rest) (x : Nat) (hx : x ≤ 1048576) (hm : Mod (· = g) w w') (hB : Blk w' g 27024 105 (updv c (1803 + rest.length * 65 + 7) (.int .u64 x))) : MRep own w' g (updv c (1803 + rest.length * 65 + 7) (.int .u64 x)) V { st with frames := { f with gas := x } :: rest } (s :: sn) stale ∧ MStep own w own w' := by
  obtain ⟨hf, hl7⟩ := h.frame hst
  refine ⟨h.top_ hst hm hB ?_ ?_ rfl rfl, MStep.ofG h.v.tag hm⟩
  · intro j hj
    rw [updv_ne _ _ (by have := hj.2; omega)]
  · have := hf.scal (pre := f.pre) (pc := f.pc) (gas := x) (oo := f.outOff) (ol := f.outLen) (O' := Mu own) (w' := w') (c' := updv c (1803 + rest.length * 65 + 7) (.int .u64 x)) (fun j h1 h2 => updv_ne _ _ (by omega)) (fun j _ _ _ _ h7 _ _ => updv_ne _ _ h7) (fun v l k => (Keep.here h.v hm).nl k) ⟨hf.ok.kind, hf.ok.pre, hf.ok.pc, hf.ok.sLen, hf.ok.sLt, hx, hf.ok.self, hf.ok.caller, hf.ok.value, hf.ok.code, hf.ok.mLen, hf.ok.m32, hf.ok.oLt, hf.ok.lLt, hf.ok.out⟩ (by rw [updv_ne _ _ (by omega)]; exact hf.pre) (by rw [updv_ne _ _ (by omega)]; exact hf.pc) (updv_same ..) (by rw [updv_ne _ _ (by omega)]; exact hf.outOff) (by rw [updv_ne _ _ (by omega)]; exact hf.outLen)
    exact this
end
end Go.Proofs.YgvahwGreat
