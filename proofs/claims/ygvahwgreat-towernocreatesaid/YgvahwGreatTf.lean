import Derived.Test.YgvahwGreatTe
namespace Go.Proofs.YgvahwGreat
open Go.RowKit
set_option linter.unusedSimpArgs false
section
variable {kk : Nat → Value} {O TM TL : Nat → Prop} {w w' : World} {Y F q n B : Nat} {tF : TypeId} {c d : Nat → Value} {W : YW} {start : List (Nat × Nat × Nat)} {st : ASt} {f : AFrame}
/-- A new memory. -/
theorem YX.newMem (h : YX kk O TM TL w Y F q n tF c d W start st f) (m : Mod (· = F) w w') {v : Value} {l : List Nat} (hB : Blk w' F n tF (updv d (q + 9) v)) (hg : GRow 5 1 ByC (· = B) w' v l) (hOB : O B) (hBY : B ≠ Y) (hBF : B ≠ F) (hTL : ¬ TL B) (hcap : ∀ o k cap, v = .slice o k cap → cap ≤ 140737488355328) (hok : FOK { f with mem := l }) :
    YX kk O (· = B) TL w' Y F q n tF c (updv d (q + 9) v) W start st { f with mem := l } := by
  have hs := h.hsF
  have hc := h.fc
  have hd : ∀ i, i ≠ q + 9 → updv d (q + 9) v i = d i := fun i hi => updv_ne _ _ hi
  exact ⟨h.bY.mod m h.ne, hB, h.hq, h.wc.keep m hs, h.lim, TmpL.keep h.st8 m hs, h.sl,
    ⟨by rw [hd _ (by omega)]; exact hc.kind, by rw [hd _ (by omega)]; exact hc.pre, by rw [hd _ (by omega)]; exact hc.static, by rw [hd _ (by omega)]; exact hc.pc.keep m hs, by rw [hd _ (by omega)]; exact hc.gas.keep m hs, by rw [hd _ (by omega)]; exact hc.value.keep m hs, by rw [hd _ (by omega)]; exact hc.outOff.keep m hs, by rw [hd _ (by omega)]; exact hc.outLen.keep m hs, by rw [hd _ (by omega)]; exact NumS.keep hc.stack m hs, by rw [updv_same]; exact hg, by rw [hd _ (by omega)]; exact hc.code.keep m hs, by rw [hd _ (by omega)]; exact hc.input.keep m hs, hc.self.same h.ok.self (fun j hj => hd _ (by omega)), hc.caller.same h.ok.caller (fun j hj => hd _ (by omega)), by rw [updv_same]; exact hcap⟩,
    hok, h.small.mod m, h.ret.keep m hs, h.env.keep m hs, h.price.keep m hs, h.pLt, h.origin, h.oLt, h.now, h.orig, h.oY, h.oF, h.ne, h.hi, fun b hb => by rw [hb]; exact ⟨hOB, hBY, hBF⟩, fun b hb => ⟨(h.tl b hb).1, (h.tl b hb).2.1, (h.tl b hb).2.2.1, fun e => hTL (e ▸ hb)⟩,
    h.lg.imp (fun k => LogL.keep k m hs (fun b hb => (h.tl b hb).2.2.1)) (fun k => ⟨LogL.keep k.1 m hs (fun b hb => hs b hb), k.2⟩)⟩
theorem ByC.ofRow {w : World} {g : Nat} {l : List Nat} (h : w.heap[g]? = some (.cells (bcells l).toArray 5 (0, 0))) (hd : Digits l) (hn : l.length ≤ 9223372036854775807) : GRow 5 1 ByC (· = g) w (.slice (some ⟨g, 0, none⟩) l.length l.length) l := by
  refine Or.inr ⟨g, l.length, fun i => .int .u8 (l.getD i 0 : Nat), rfl, Nat.le_refl _, hn, ⟨_, h, by simp [bcells_length], fun i hi => ?_⟩, rfl, fun i hi => ?_⟩
  · have : i < l.length := by omega
    simp [bcells, List.getD, this]
  · rw [Nat.mul_one]
    exact ⟨by simp [List.getD, hi], hd _ (List.getElem_mem hi)⟩
end
section
variable {kk : Nat → Value} {O TM TL : Nat → Prop} {w : World} {Y F q n : Nat} {tF : TypeId} {c d : Nat → Value} {W : YW} {start : List (Nat × Nat × Nat)} {st : ASt} {f : AFrame}
set_option maxRecDepth 100000 in
set_option maxHeartbeats 6400000 in
theorem xCopied (hX : YX kk O TM TL w Y F q n tF c d W start st f) {O' : Nat → Prop} (dst off k : Nat) (L : List Nat) {vd vs vo vn : Value} (hvd : NV O w vd dst) (hvs : NL O' w vs L) (hvo : NV O w vo off) (hvn : NV O w vn k) (hk : k ≤ 717280) (hok' : FOK { f with mem := copyA f.mem dst L off k }) : Calls Hvah.prog 243 #[.pointer (some ⟨F, q, none⟩), vd, vs, vo, vn] w fun e w' => e = .returned (.tuple #[]) ∧ YX kk O TM TL w' Y F q n tF c d W start st { f with mem := copyA f.mem dst L off k } ∧ Mod TM w w' := by
  have hO := hX.small
  have HZ := nIsZero O vn k w hvn
  have HC := fun W (hW : Ext w W) => yCut (hO.ext hW) (hvs.ext hW) (hvo.ext hW) (hvn.ext hW) hk
  by_cases h0 : k = 0
  · rw [decide_eq_true h0] at HZ
    have e0 : copyA f.mem dst L off k = f.mem := by simp [copyA, h0]
    rw [e0] at hok' ⊢
    clear h0
    go_enter Hvah.func243, Hvah.ntmps243
    go_wp2_with (first | (go_at_call 88; refine HZ.mono ?_; rintro e w1 ⟨rfl, hdr⟩; have he := drew_ext hdr; clear hdr))
    go_end0
    exact ⟨rfl, hX.ext he, he.mod _⟩
  · rw [decide_eq_false h0] at HZ
    have e0 : copyA f.mem dst L off k = writeA f.mem dst (cutA L off k) := by simp [copyA, h0]
    rw [e0] at hok' ⊢
    clear h0
    go_enter Hvah.func243, Hvah.ntmps243
    go_wp2_with (first | (go_at_call 88; refine HZ.mono ?_; rintro e w1 ⟨rfl, hdr⟩; have he := drew_ext hdr; clear hdr) | (go_at_call 155; refine (HC _ he).mono ?_; rintro e w2 ⟨r, rfl, hr, he2⟩) | (go_at_call 151; refine (xWrite ((hX.ext he).ext he2) dst _ ((hvd.ext he).ext he2) hr hok').mono ?_; rintro e w3 ⟨rfl, hX3, hm3⟩))
    go_end0
    exact ⟨rfl, hX3, ((he.trans he2).mod _).trans hm3⟩
set_option maxRecDepth 100000 in
set_option maxHeartbeats 6400000 in
theorem xGrow (hX : YX kk O TM TL w Y F q n tF c d W start st f) (tt : Nat) {vt : Value} (hvt : NV O w vt tt) (hto : tt ≤ 717280) (hok' : FOK { f with mem := growA f.mem tt }) : Calls Hvah.prog 70 #[.pointer (some ⟨F, q, none⟩), vt] w fun e w' => ∃ O' TM' d', e = .returned (.tuple #[]) ∧ YX kk O' TM' TL w' Y F q n tF c d' W start st { f with mem := growA f.mem tt } ∧ (∀ b, b < w.heap.size → (O' b ↔ O b)) ∧ (∀ b, TM' b → TM b ∨ w.heap.size ≤ b) ∧ Mod (· = F) w w' ∧ (∀ i, i ≠ q + 9 → d' i = d i) := by
  have hO := hX.small
  have hq := hX.hq
  have hml := hX.ok.mLen
  have hm32 := hX.ok.m32
  have hmi : (f.mem.length : Int) ≤ 717280 := by omega
  obtain ⟨om, cm, hmd, _⟩ := GRow.slice hX.fc.mem
  have k9 : ∀ W, Ext w W → W.cell? ⟨F, q + 9, none⟩ = some (.slice om f.mem.length cm) := fun W hW => by rw [← hmd]; exact (hX.bF.ext hW).cell (by omega)
  have hdt : dl tt ≤ 1000 := Nat.le_trans (dl_u64 _ (by omega)) (by decide)
  have HW := nWords O _ _ w hO hvt hdt
  obtain ⟨z, hz⟩ : ∃ z, Hid ((tt + 31) / 32 = z) := ⟨_, rfl⟩
  have hz2 : z ≤ 22415 := by have := hz.out; omega
  rw [hz.out] at HW
  have HS := fun W v (hv : NV O W v z) => ySmall hv
  rw [if_pos (show z < 18446744073709551616 by omega)] at HS
  have hzi : (z : Int) ≤ 22415 := by omega
  have i1 : (f.mem.length : Int) / 32 = ((f.mem.length / 32 : Nat) : Int) := by omega
  have hgv : growA f.mem tt = if f.mem.length / 32 < z then f.mem ++ List.replicate (32 * z - f.mem.length) 0 else f.mem := by unfold growA wordsA; rw [hz.out]
  obtain ⟨hv, hhv⟩ : ∃ hv, Hid (f.mem.length / 32 = hv) := ⟨_, rfl⟩
  rw [hhv.out] at i1 hgv
  have hvi : (hv : Int) ≤ 22415 := by have := hhv.out; omega
  have hmh : Hid (f.mem.length = 32 * hv) := by have := hhv.out; show f.mem.length = 32 * hv; omega
  clear hm32
  by_cases hlt : hv < z
  · rw [if_pos hlt] at hgv
    rw [hgv] at hok' ⊢
    clear hgv
    have i2 : (hv : Int) < z := by omega
    have hle : f.mem.length ≤ 32 * z := by have := hmh.out; omega
    have i3 : (32 : Int) * z = ((32 * z : Nat) : Int) := by omega
    have hdg : ∀ x ∈ f.mem, x < 256 := fun x hx => by
      obtain ⟨i, hi, rfl⟩ := List.getElem_of_mem hx
      rcases hX.fc.mem with ⟨h1, _⟩ | ⟨b, cap, cc, h1, h2, h3, h4, h5, h6⟩
      · rw [h1] at hi; cases hi
      · exact (h6 i hi).2
    have hdg2 : Digits (f.mem ++ List.replicate (32 * z - f.mem.length) 0) := fun x hx => by
      rcases List.mem_append.1 hx with hx | hx
      · exact hdg x hx
      · rw [List.eq_of_mem_replicate hx]; decide
    have hlen : (f.mem ++ List.replicate (32 * z - f.mem.length) 0).length = 32 * z := by simp; omega
    have hdrop : (List.replicate (32 * z) 0).drop f.mem.length = (List.replicate (32 * z - f.mem.length) 0 : List Nat) := by simp
    have hsrc : f.mem ≠ [] → ∀ W, Ext w W → ∃ b o, om = some ⟨b, o, none⟩ ∧ ∀ (i : Nat) (h : i < f.mem.length), W.cell? ⟨b, o + i, none⟩ = some (.int .u8 (f.mem[i] : Int)) := fun hne W hW => by
      rcases hX.fc.mem with ⟨h1, _⟩ | ⟨b, cap, cc, h1, h2, h3, h4, h5, h6⟩
      · exact absurd h1 hne
      · rw [hmd] at h1
        injection h1 with e1 _ _
        refine ⟨b, 0, e1, fun i hi => ?_⟩
        rw [Nat.zero_add, (h4.ext hW).cell (by omega)]
        have := (h6 i hi).1
        rw [Nat.mul_one] at this
        rw [this]
    obtain ⟨L, hL⟩ : ∃ L, Hid (32 * z = L) := ⟨_, rfl⟩
    rw [hL.out] at i3 hle hlen hdrop hok' hdg2 ⊢
    have hLm : L ≤ 717280 := by have := hL.out; omega
    have FIN : ∀ w1 W2 v, Ext w w1 → v = .slice (some ⟨w1.heap.size, 0, none⟩) L L → Mod (· = F) ((w1.alloc (.cells (zrow L) 5)).setRow w1.heap.size (bcells (f.mem ++ List.replicate (L - f.mem.length) 0)).toArray) W2 → Blk W2 F n tF (updv d (q + 9) v) → ∃ O' TM' d', YX kk O' TM' TL W2 Y F q n tF c d' W start st { f with mem := f.mem ++ List.replicate (L - f.mem.length) 0 } ∧ (∀ b, b < w.heap.size → (O' b ↔ O b)) ∧ (∀ b, TM' b → TM b ∨ w.heap.size ≤ b) ∧ Mod (· = F) w W2 ∧ (∀ i, i ≠ q + 9 → d' i = d i) := fun w1 W2 v he hv hm hB => by
      have hEr : Ext w ((w1.alloc (.cells (zrow L) 5)).setRow w1.heap.size (bcells (f.mem ++ List.replicate (L - f.mem.length) 0)).toArray) := he.trans (((Ext.refl w1).alloc _ _).setRow (Nat.le_refl _) _)
      have hsz : w1.heap.size < ((w1.alloc (.cells (zrow L) 5)).setRow w1.heap.size (bcells (f.mem ++ List.replicate (L - f.mem.length) 0)).toArray).heap.size := by simp [World.setRow]
      have hX1 := hX.widen0 (B := w1.heap.size) he.size hEr hsz
      have hYl := hX.bY.lt
      have hFl := hX.bF.lt
      have hne : w1.heap.size ≠ F := fun e => by have := he.size; omega
      have hrow : W2.heap[w1.heap.size]? = some (.cells (bcells (f.mem ++ List.replicate (L - f.mem.length) 0)).toArray 5 (0, 0)) := (hm.block _ hsz hne).trans (setRow_heap _ _ _ _ _ _ (heap_new _ _))
      have hg := ByC.ofRow hrow hdg2 (by rw [hlen]; omega)
      rw [hlen, ← hv] at hg
      refine ⟨_, _, _, hX1.newMem hm hB hg (Or.inr rfl) (fun e => by have := he.size; omega) hne (fun e => by have h1 := (hX.tl _ e).1; have h2 := hO _ h1; have := he.size; omega) (fun o k cap e => by rw [hv] at e; injection e with _ _ e; omega) hok', fun b hb => ⟨fun k => k.resolve_right (fun e => by have := he.size; omega), Or.inl⟩, fun b hb => Or.inr (by rw [hb]; exact he.size), (hEr.mod _).trans hm, fun i hi => updv_ne _ _ hi⟩
    by_cases hm0 : f.mem = []
    · have hl0 : f.mem.length = 0 := by rw [hm0]; rfl
      have hl0i : (f.mem.length : Int) = 0 := by omega
      have hzr : ∀ w1 : World, (w1.alloc (.cells (zrow L) 5)).setRow w1.heap.size (bcells (f.mem ++ List.replicate (L - f.mem.length) 0)).toArray = w1.alloc (.cells (zrow L) 5) := fun w1 => by
        rw [alloc_setRow, hm0]
        rfl
      clear hsrc hdrop
      go_enter Hvah.func70, Hvah.ntmps70
      go_wp2_with (first | (go_at_call 135; refine HW.mono ?_; rintro e w1 ⟨r, rfl, hr, he⟩; have kk := k9 _ he) | (go_at_call 34; refine (HS _ _ hr).mono ?_; rintro e w2 ⟨rfl, hww⟩; replace hww := hww.symm; subst hww) | (at_make; refine wl_make_bytesK Hvah.underlying23 .u64 .u64 L rfl rfl (by omega) ?_; have kk := k9 _ (he.alloc (zrow L) 5)) | ((with_reducible (refine Veil.out ?_; apply wl_copy0 Hvah.underlying23)); (case hd => rfl); (case hs => rfl); (case hl => simp [hl0])) | ((with_reducible (refine Veil.out ?_; apply wl_store1 one32)); (case hx => rfl); (case hy => rfl); (case h1 => rfl); (case hB => exact hX.bF.ext (he.alloc _ _)); (case ho => omega); rintro W2 hB hm))
      go_end0
      first | exact ⟨rfl, FIN w1 W2 _ he rfl (by rw [hzr]; exact hm) hB⟩ | (obtain ⟨O', TM', d', hh⟩ := FIN w1 W2 _ he rfl (by rw [hzr]; exact hm) hB; exact ⟨O', TM', d', rfl, hh⟩)
    · have hsr := hsrc hm0
      clear hsrc
      go_enter Hvah.func70, Hvah.ntmps70
      go_wp2_with (first | (go_at_call 135; refine HW.mono ?_; rintro e w1 ⟨r, rfl, hr, he⟩; have kk := k9 _ he) | (go_at_call 34; refine (HS _ _ hr).mono ?_; rintro e w2 ⟨rfl, hww⟩; replace hww := hww.symm; subst hww) | (at_make; refine wl_make_bytesK Hvah.underlying23 .u64 .u64 L rfl rfl (by omega) ?_; have kk := k9 _ (he.alloc (zrow L) 5)) | ((with_reducible (refine Veil.out ?_; apply wl_copy_bytes Hvah.underlying23 (L := List.replicate L 0) (t := 5) (l := f.mem))); (case hd => rfl); (case hs => rfl); (case hg => exact heap_new _ _); (case hl => omega); (case hsrc => exact hsr _ (he.alloc _ _)); (case hfit => simpa using hle); rw [hdrop]) | ((with_reducible (refine Veil.out ?_; apply wl_store1 one32)); (case hx => rfl); (case hy => rfl); (case h1 => rfl); (case hB => exact hX.bF.ext (he.trans (((Ext.refl w1).alloc _ _).setRow (Nat.le_refl _) _))); (case ho => omega); rintro W2 hB hm))
      go_end0
      first | exact ⟨rfl, FIN w1 W2 _ he rfl hm hB⟩ | (obtain ⟨O', TM', d', hh⟩ := FIN w1 W2 _ he rfl hm hB; exact ⟨O', TM', d', rfl, hh⟩)
  · rw [if_neg hlt] at hgv
    rw [hgv] at hok' ⊢
    clear hgv
    have i2 : ¬ (hv : Int) < z := by omega
    go_enter Hvah.func70, Hvah.ntmps70
    go_wp2_with (first | (go_at_call 135; refine HW.mono ?_; rintro e w1 ⟨r, rfl, hr, he⟩; have kk := k9 _ he) | (go_at_call 34; refine (HS _ _ hr).mono ?_; rintro e w2 ⟨rfl, hww⟩; replace hww := hww.symm; subst hww))
    go_end0
    first | exact ⟨rfl, O, TM, d, hX.ext he, fun b _ => Iff.rfl, fun b hb => Or.inl hb, he.mod _, fun i _ => rfl⟩ | exact ⟨O, TM, d, rfl, hX.ext he, fun b _ => Iff.rfl, fun b hb => Or.inl hb, he.mod _, fun i _ => rfl⟩
end
end Go.Proofs.YgvahwGreat
