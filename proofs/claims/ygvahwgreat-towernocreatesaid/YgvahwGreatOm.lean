import Derived.Test.YgvahwGreatOl
import Derived.Test.YgvahwGreatMemG
namespace Go.Proofs.YgvahwGreat
open Go.RowKit
set_option linter.unusedSimpArgs false
theorem lowB_len {ms : List (List Nat)} (h : ∀ m ∈ ms, m.length ≤ 717280) : (lowB ms).length ≤ ms.length * 717280 := by
  induction ms with
  | nil => simp [lowB]
  | cons m r ih =>
    have h1 := ih (fun x hx => h x (List.mem_cons_of_mem _ hx))
    have h2 := h m (List.mem_cons_self ..)
    simp only [lowB, List.length_append, List.length_cons]
    omega
theorem wl_append0 {ops : Array Oper} {rest : List Oper} {a : Act} {Q : Exit → Act → World → Prop} {w : World} {dst : Option Tmp} {ty : TypeId} {pos : String} {aft : Array Edge} {own : Nat → Nat} {s x : Operand} {l : List Nat} {v : Value} {k : Nat} (hs : a.eval s = v) (hx : a.eval x = .int .i64 (k : Nat)) (hG : GRow 5 1 BC (Ow own 7) w v l) (hfr : ∀ b, w.heap.size ≤ b → own b = 0) (hl : l.length ≤ 5020960) (h0 : 0 < k) (hk : k ≤ 5020960)
    (h : ∀ v' W own', GRow 5 1 BC (Ow own' 7) W v' (l ++ List.replicate k 0) → (∀ b, b < w.heap.size → own' b = own b) → (∀ b, W.heap.size ≤ b → own' b = 0) → Mod (fun b => own b = 7) w W → v'.oneCell' = true → wpList Hvah.prog ops Q rest (a.put dst v') W) : Veil (wpList Hvah.prog ops Q (⟨dst, .call { callee := Callee.builtin Builtin.append, args := #[s, x], argTypes := #[23, 3] }, ty, pos, aft, none⟩ :: rest) a w) := by
  refine Veil.mk ?_
  obtain ⟨v', W, own', q1, q2, q3, q4, q5, q6⟩ := run_append0 (own := own) (w := w) ty hG hfr hl k h0 hk
  exact Lib.wpList_append_run w rfl s x 23 3 rfl v _ hs hx v' W q1 (h v' W own' q2 q3 q4 q5 q6)
theorem onel32 : OneT 23 := oneT_of (by kernel_rfl) (by kernel_rfl)
section
variable {own : Nat → Nat} {w : World} {g : Nat} {c : Nat → Value} {V : EV} {st : ASt} {sn stale : List Nat} {s : Nat} {f : AFrame} {rest : List AFrame}
theorem mGrow1 (h : MRep own w g c V st (s :: sn) stale) (hst : st.frames = f :: rest) (words : Nat) (hw : words ≤ 22415) (hmore : f.mem.length < 32 * words) (hroom : 32 * words - f.mem.length ≤ stale.length) : Calls Hvah.prog 281 #[.pointer (some ⟨g, 1, none⟩), .int .u32 words] w fun e w' => e = .returned (.bool true) ∧ ∃ own' c' stale', MRep own' w' g c' V { st with frames := { f with mem := f.mem ++ List.replicate (32 * words - f.mem.length) 0 } :: rest } (s :: sn) stale' ∧ MStep own w own' w' := by
  obtain ⟨hf, hl7⟩ := h.frame hst
  obtain ⟨cap, b, o, cc, ht⟩ := h.top2 hst
  have hmm := h.m.mem
  rw [hst, List.map_cons] at hmm
  have hn : 0 < (lowB (rest.map (fun x : AFrame => x.mem)) ++ f.mem ++ stale).length := by simp; omega
  obtain ⟨q1, q2, q3⟩ := ht.blk hn
  have hgb : g ≠ b := fun e => by have := h.v.tag; rw [e, q1] at this; cases this
  have e1 : (lowB (rest.map (fun x : AFrame => x.mem))).length + f.mem.length - (lowB (rest.map (fun x : AFrame => x.mem))).length = f.mem.length := by omega
  have e2 : (lowB (rest.map (fun x : AFrame => x.mem)) ++ f.mem ++ stale).length = (lowB (rest.map (fun x : AFrame => x.mem))).length + f.mem.length + stale.length := by simp; omega
  refine (tGrow1 ht h.v.blk hgb words hw (by rw [e1]; exact hmore) (by rw [e1, e2]; omega)).mono ?_
  rintro e w1 ⟨rfl, b1, ⟨cc', b2, r2⟩, m1⟩
  rw [e1] at r2
  have K : Keep own own g 7 w w1 := ⟨fun _ _ => rfl, m1.sub (fun x hx => by rcases hx with q | q; exact Or.inl q; exact Or.inr (by rw [q]; exact q1)), h.v.tag, by decide⟩
  have el : layN (lowB (rest.map (fun x : AFrame => x.mem)) ++ f.mem ++ stale) ((lowB (rest.map (fun x : AFrame => x.mem))).length + f.mem.length) (List.replicate (32 * words - f.mem.length) 0) = lowB (rest.map (fun x : AFrame => x.mem)) ++ (f.mem ++ List.replicate (32 * words - f.mem.length) 0) ++ stale.drop (32 * words - f.mem.length) := by
    unfold layN
    rw [List.length_replicate, show (lowB (rest.map fun x : AFrame => x.mem)).length + f.mem.length = (lowB (rest.map fun x : AFrame => x.mem) ++ f.mem).length by simp, List.take_left', List.drop_length_add_append]
    · simp [List.append_assoc]
    · rfl
  rw [el] at r2
  have hlen : (lowB (rest.map (fun x : AFrame => x.mem)) ++ (f.mem ++ List.replicate (32 * words - f.mem.length) 0) ++ stale.drop (32 * words - f.mem.length)).length = (lowB (rest.map (fun x : AFrame => x.mem)) ++ f.mem ++ stale).length := by simp; omega
  refine ⟨rfl, own, _, stale.drop (32 * words - f.mem.length), h.memSet hst K (fun x hx => h.v.fresh x (Nat.le_trans m1.size hx)) b1 (fun j h1 h2 => updv_ne _ _ h2) _ ?_ ?_ (hf.ok.withMem _ (by simp) (by simp; omega) (by simp; have := hf.ok.m32; omega)) ?_, ⟨fun _ _ => rfl, m1.sub (fun x hx => by rcases hx with q | q; (rw [q, h.v.tag]; decide); (rw [q, q1]; decide))⟩⟩
  · rw [updv_same]; congr 2; simp; omega
  · rw [updv_ne _ _ (by omega)]
    rcases hmm.buf with ⟨z1, _⟩ | ⟨b0, cap0, cc0, z1, z2, z3, _, _, _⟩
    · rw [lowB] at z1; rw [z1] at hn; simp at hn
    · have k1 := ht.k1
      have k2 := z1.symm.trans k1
      injection k2 with k3 k4 k5
      have ho : o = some ⟨b, 0, none⟩ := by
        rcases ht.ho with ⟨z, _, _⟩ | z
        · rw [← k3] at z; cases z
        · exact z
      refine Or.inr ⟨b, cap, cc', ?_, ?_, by omega, by rw [Nat.mul_one]; exact b2, q1, fun i hi => ⟨by rw [Nat.mul_one]; exact r2 i hi, ?_⟩⟩
      · rw [k1, ho, hlen]
      · rw [hlen]; exact ht.hn
      · have hd : ∀ x ∈ lowB (rest.map (fun x : AFrame => x.mem)) ++ f.mem ++ stale, x < 256 := ht.lt
        have hx := List.getElem_mem hi
        generalize (lowB (rest.map (fun x : AFrame => x.mem)) ++ (f.mem ++ List.replicate (32 * words - f.mem.length) 0) ++ stale.drop (32 * words - f.mem.length))[i] = x at hx
        rcases List.mem_append.1 hx with hx | hx
        · rcases List.mem_append.1 hx with hx | hx
          · exact hd x (List.mem_append_left _ (List.mem_append_left _ hx))
          · rcases List.mem_append.1 hx with hx | hx
            · exact hd x (List.mem_append_left _ (List.mem_append_right _ hx))
            · rw [List.eq_of_mem_replicate hx]; decide
        · exact hd x (List.mem_append_right _ (List.mem_of_mem_drop hx))
  · rw [hlen]
    have := hmm.stl
    simpa [lowB] using this
set_option maxRecDepth 100000 in
set_option maxHeartbeats 6400000 in
theorem aGrow2N {own : Nat → Nat} {w : World} {g m lo hi words q e : Nat} {c : Nat → Value} {l : List Nat} (hB : Blk w g 27024 105 c) (hm : m < 7) (k10 : c 10 = .int .u8 (m + 1 : Nat)) (klo : c (2 + m) = .int .u32 lo) (khi : c (2 + (m + 1)) = .int .u32 hi) (hG : GRow 5 1 BC (Ow own 7) w (c 1) l) (hfr : ∀ b, w.heap.size ≤ b → own b = 0) (hgt : own g = 8) (hlen : l.length = hi + q) (hle : lo ≤ hi) (hle2 : hi + q ≤ 5020960) (hw : words ≤ 22415) (he : lo + 32 * words = hi + e) (hqe : q < e) (hse : hi + e ≤ 5020960) (hz : hi = 0) (hq0 : q = 0) (k1 : c 1 = .slice none 0 0) : Calls Hvah.prog 281 #[.pointer (some ⟨g, 1, none⟩), .int .u32 words] w fun r w' => r = .returned (.bool true) ∧ ∃ own' c', Blk w' g 27024 105 c' ∧ (∀ i, i ≠ 1 → i ≠ 2 + (m + 1) → c' i = c i) ∧ c' (2 + (m + 1)) = .int .u32 (hi + e : Nat) ∧ GRow 5 1 BC (Ow own' 7) w' (c' 1) (l.take hi ++ List.replicate e 0) ∧ (∀ b, b < w.heap.size → own' b = own b) ∧ (∀ b, w'.heap.size ≤ b → own' b = 0) ∧ Mod (fun b => b = g ∨ own b = 7) w w' := by
  have HT := aTop g m lo hi 0 0 0 none c w hB hm k10 klo khi k1 (Or.inl ⟨rfl, rfl, rfl⟩) hle (by omega) (by omega) (by omega)
  have KB := fun W (hW : Ext w W) => hB.ext hW
  obtain ⟨d, hd⟩ : ∃ d, Hid (hi - lo = d) := ⟨_, rfl⟩
  rw [hd.out] at HT
  have hde : d + e = 32 * words := by have := hd.out; omega
  have hd1 : d ≤ hi := by have := hd.out; omega
  subst hz hq0
  have i1 : ¬ (22415 : Int) < words := by omega
  have w1 : IntKind.u32.wrap (32 * (words : Int)) = 32 * words := by rw [IntKind.wrap_u32']; omega
  have w2 : IntKind.u32.wrap (d : Int) = d := by rw [IntKind.wrap_u32']; omega
  have i2 : ¬ 32 * (words : Int) ≤ d := by omega
  have i3 : (32 * (words : Int)) - d = e := by omega
  have w3 : IntKind.i64.wrap (e : Int) = e := by rw [IntKind.wrap_i64]; omega
  have i4 : ¬ (e : Int) ≤ 0 := by omega
  have e0 : ¬ e = 0 := by omega
  have w5 : IntKind.u32.wrap (e : Int) = e := by rw [IntKind.wrap_u32']; omega
  have w6 : IntKind.u32.wrap ((0 : Int) + e) = (0 : Int) + e := by rw [IntKind.wrap_u32']; omega
  have i7 : ((m : Int) + 1).toNat = m + 1 := by omega
  have i8 : (m : Int) + 1 < 8 := by omega
  have i9 : (0 : Int) ≤ (m : Int) + 1 := by omega
  go_enter Hvah.func281, Hvah.ntmps281
  go_upto_region 7 with (first | (go_at_call 372; refine HT.mono ?_; rintro e1 w2 ⟨pp, rfl, _, he⟩))
  refine w_ext ?_
  rintro W0 hW0
  refine wp_region_held_drew (S := fun w' => Ext W0 w') (by kernel_rfl) (Ext.refl _).drew (fun hHeld => ?_)
  have HH : Hid (Ext W0 _) := hHeld
  clear hHeld
  refine wpAnyH_take (i := 0) (v := ?_) rfl (by kernel_rfl) (by kernel_rfl) (by kernel_rfl) (fun _ _ _ h => h) (Or.inl ⟨by rfl, ?_⟩) HH.out ?_
  rotate_left
  · intro w hSw; go_simp; try with_reducible rfl
  change wpAnyH _ _ _ _ _ _ _ (Act.put _ (some 33) _) _
  simp only [Act.put, List.setIfInBounds_toArray, List.set_cons_zero, List.set_cons_succ]
  refine wpAnyH_take (i := 1) (v := ?_) rfl (by kernel_rfl) (by kernel_rfl) (by kernel_rfl) (fun _ _ _ h => h) (Or.inl ⟨by rfl, ?_⟩) HH.out ?_
  rotate_left
  · intro w hSw; go_simp; try with_reducible rfl
  change wpAnyH _ _ _ _ _ _ _ (Act.put _ (some 34) _) _
  simp only [Act.put, List.setIfInBounds_toArray, List.set_cons_zero, List.set_cons_succ]
  refine wpAnyH_take (i := 2) (v := ?_) rfl (by kernel_rfl) (by kernel_rfl) (by kernel_rfl) (fun _ _ _ h => h) (Or.inl ⟨by rfl, ?_⟩) HH.out ?_
  rotate_left
  · intro w hSw; go_simp; try with_reducible rfl
  change wpAnyH _ _ _ _ _ _ _ (Act.put _ (some 35) _) _
  simp only [Act.put, List.setIfInBounds_toArray, List.set_cons_zero, List.set_cons_succ]
  refine wpAnyH_take (i := 3) (v := ?_) rfl (by kernel_rfl) (by kernel_rfl) (by kernel_rfl) (fun _ _ _ h => h) (Or.inl ⟨by rfl, ?_⟩) HH.out ?_
  rotate_left
  · intro w hSw; go_simp; try with_reducible rfl
  change wpAnyH _ _ _ _ _ _ _ (Act.put _ (some 36) _) _
  simp only [Act.put, List.setIfInBounds_toArray, List.set_cons_zero, List.set_cons_succ]
  refine wpAnyH_take (i := 4) rfl (by kernel_rfl) (by kernel_rfl) (by kernel_rfl) (fun _ _ _ h => h) (yieldsIf_load1 (by rfl) _ _ rfl _ _ rfl one5 _ (fun w hSw => by rw [(KB _ (Ext.trans (by (repeat (first | with_reducible exact Ext.refl _ | with_reducible assumption | refine Ext.trans ?_ (by with_reducible assumption) | refine Ext.alloc ?_ _ _ | refine Ext.drew ?_ | refine Ext.drewN ?_ _))) hSw)).cell (by omega), k10])) HH.out ?_
  change wpAnyH _ _ _ _ _ _ _ (Act.put _ (some 37) _) _
  simp only [Act.put, List.setIfInBounds_toArray, List.set_cons_zero, List.set_cons_succ]
  refine wpAnyH_take (i := 5) (v := ?_) rfl (by kernel_rfl) (by kernel_rfl) (by kernel_rfl) (fun _ _ _ h => h) (Or.inl ⟨by rfl, ?_⟩) HH.out ?_
  rotate_left
  · intro w hSw; go_simp; try with_reducible rfl
  change wpAnyH _ _ _ _ _ _ _ (Act.put _ (some 38) _) _
  simp only [Act.put, List.setIfInBounds_toArray, List.set_cons_zero, List.set_cons_succ]
  refine wpAnyH_take (i := 6) (v := ?_) rfl (by kernel_rfl) (by kernel_rfl) (by kernel_rfl) (fun _ _ _ h => h) (Or.inl ⟨by rfl, ?_⟩) HH.out ?_
  rotate_left
  · intro w hSw; go_simp; try with_reducible rfl
  change wpAnyH _ _ _ _ _ _ _ (Act.put _ (some 39) _) _
  simp only [Act.put, List.setIfInBounds_toArray, List.set_cons_zero, List.set_cons_succ]
  refine wpAnyH_take (i := 7) (v := ?_) rfl (by kernel_rfl) (by kernel_rfl) (by kernel_rfl) (fun _ _ _ h => h) (Or.inl ⟨by rfl, ?_⟩) HH.out ?_
  rotate_left
  · intro w hSw; go_simp; try with_reducible rfl
  change wpAnyH _ _ _ _ _ _ _ (Act.put _ (some 40) _) _
  simp only [Act.put, List.setIfInBounds_toArray, List.set_cons_zero, List.set_cons_succ]
  refine wpAnyH_take (i := 8) rfl (by kernel_rfl) (by kernel_rfl) (by kernel_rfl) (fun _ _ _ h => h) (yieldsIf_load1 (by rfl) _ _ rfl _ _ rfl onel61 _ (fun w hSw => by rw [(KB _ (Ext.trans (by (repeat (first | with_reducible exact Ext.refl _ | with_reducible assumption | refine Ext.trans ?_ (by with_reducible assumption) | refine Ext.alloc ?_ _ _ | refine Ext.drew ?_ | refine Ext.drewN ?_ _))) hSw)).cell (by omega), khi])) HH.out ?_
  change wpAnyH _ _ _ _ _ _ _ (Act.put _ (some 41) _) _
  simp only [Act.put, List.setIfInBounds_toArray, List.set_cons_zero, List.set_cons_succ]
  refine wpAnyH_take (i := 9) (v := ?_) rfl (by kernel_rfl) (by kernel_rfl) (by kernel_rfl) (fun _ _ _ h => h) (Or.inl ⟨by rfl, ?_⟩) HH.out ?_
  rotate_left
  · intro w hSw; go_simp; try with_reducible rfl
  change wpAnyH _ _ _ _ _ _ _ (Act.put _ (some 8) _) _
  simp only [Act.put, List.setIfInBounds_toArray, List.set_cons_zero, List.set_cons_succ]
  refine wpAnyH_done (by kernel_rfl) ?_ _
  go_upto_region 12 with (first | ((with_reducible (refine Veil.out ?_; apply wl_load1 onel32)); (case hx => rfl); (case hB => exact KB _ (by (repeat (first | with_reducible exact Ext.refl _ | with_reducible assumption | refine Ext.trans ?_ (by with_reducible assumption) | refine Ext.alloc ?_ _ _ | refine Ext.drew ?_ | refine Ext.drewN ?_ _)))); (case ho => decide); rw [k1]) | ((with_reducible (refine Veil.out ?_; apply wl_clear0 Hvah.underlying23)); (case hd => rfl)))
  refine w_ext ?_
  rintro W5 hW5
  have eW : Ext w W5 := by (repeat (first | with_reducible exact Ext.refl _ | with_reducible assumption | refine Ext.trans ?_ (by with_reducible assumption) | refine Ext.alloc ?_ _ _ | refine Ext.drew ?_ | refine Ext.drewN ?_ _))
  have hB5 := hB.ext eW
  have hG5 := hG.ext (w' := W5) eW (fun _ _ _ z => z)
  rw [k1] at hG5
  have hM5 : Mod (fun x => own x = 7) w W5 := eW.mod _
  clear HH HT KB hG
  have hlt0 : l = l.take 0 ++ List.replicate 0 0 := by rw [List.replicate_zero, List.append_nil, List.take_of_length_le (by omega)]
  have hf5 : ∀ b, W5.heap.size ≤ b → own b = 0 := fun b hb => hfr b (Nat.le_trans hM5.size hb)
  have hg5 : ¬ own g = 7 := by rw [hgt]; decide
  go_upto_region 13 with (first | ((with_reducible (refine Veil.out ?_; apply wl_load1 onel32)); (case hx => rfl); (case hB => exact hB5); (case ho => decide); rw [k1]) | ((with_reducible (refine Veil.out ?_; apply wl_append0 (k := e) (l := l) (own := own))); (case hs => rfl); (case hx => rfl); (case hG => exact hG5); (case hfr => exact hf5); (case hl => (rw [hlen]; exact hle2)); (case h0 => omega); (case hk => omega); rintro v6 W6 own6 hG6 hk6 hf6 hM6 ho6) | ((with_reducible (refine Veil.out ?_; apply wl_storeC (v := v6) onel32)); (case hx => rfl); (case hy => rfl); (case h1 => exact ho6); (case hB => exact hB5.mod hM6 hg5); (case hi => decide); rintro W7 b7 m7))
  have gG6 : own6 g = 8 := (hk6 g hB5.lt).trans hgt
  refine w_ext ?_
  rintro W0 hW0
  refine wp_region_held_drew (S := fun w' => World.cell? w' ⟨g, 10, none⟩ = some (.int .u8 (m + 1 : Nat))) (by kernel_rfl) (by rw [(b7.ext (show Ext W7 _ from (Ext.trans (by assumption) (Ext.refl _).drew))).cell (by decide), updv_ne _ _ (by decide), k10]) (fun hHeld => ?_)
  have HH : Hid (World.cell? _ ⟨g, 10, none⟩ = some (.int .u8 (m + 1 : Nat))) := hHeld
  clear hHeld
  refine wpAnyH_take (i := 0) (v := ?_) rfl (by kernel_rfl) (by kernel_rfl) (by kernel_rfl) (fun _ _ _ h => h) (Or.inl ⟨by rfl, ?_⟩) HH.out ?_
  rotate_left
  · intro w hSw; go_simp; try with_reducible rfl
  change wpAnyH _ _ _ _ _ _ _ (Act.put _ (some 68) _) _
  simp only [Act.put, List.setIfInBounds_toArray, List.set_cons_zero, List.set_cons_succ]
  refine wpAnyH_take (i := 1) (v := ?_) rfl (by kernel_rfl) (by kernel_rfl) (by kernel_rfl) (fun _ _ _ h => h) (Or.inl ⟨by rfl, ?_⟩) HH.out ?_
  rotate_left
  · intro w hSw; go_simp; try with_reducible rfl
  change wpAnyH _ _ _ _ _ _ _ (Act.put _ (some 69) _) _
  simp only [Act.put, List.setIfInBounds_toArray, List.set_cons_zero, List.set_cons_succ]
  refine wpAnyH_take (i := 2) (v := ?_) rfl (by kernel_rfl) (by kernel_rfl) (by kernel_rfl) (fun _ _ _ h => h) (Or.inl ⟨by rfl, ?_⟩) HH.out ?_
  rotate_left
  · intro w hSw; go_simp; try with_reducible rfl
  change wpAnyH _ _ _ _ _ _ _ (Act.put _ (some 70) _) _
  simp only [Act.put, List.setIfInBounds_toArray, List.set_cons_zero, List.set_cons_succ]
  refine wpAnyH_take (i := 3) (v := ?_) rfl (by kernel_rfl) (by kernel_rfl) (by kernel_rfl) (fun _ _ _ h => h) (Or.inl ⟨by rfl, ?_⟩) HH.out ?_
  rotate_left
  · intro w hSw; go_simp; try with_reducible rfl
  change wpAnyH _ _ _ _ _ _ _ (Act.put _ (some 71) _) _
  simp only [Act.put, List.setIfInBounds_toArray, List.set_cons_zero, List.set_cons_succ]
  refine wpAnyH_take (i := 4) rfl (by kernel_rfl) (by kernel_rfl) (by kernel_rfl) (fun _ _ _ h => h) (yieldsIf_load1 (by rfl) _ _ rfl _ _ rfl one5 _ (fun w hSw => hSw)) HH.out ?_
  change wpAnyH _ _ _ _ _ _ _ (Act.put _ (some 72) _) _
  simp only [Act.put, List.setIfInBounds_toArray, List.set_cons_zero, List.set_cons_succ]
  refine wpAnyH_take (i := 5) (v := ?_) rfl (by kernel_rfl) (by kernel_rfl) (by kernel_rfl) (fun _ _ _ h => h) (Or.inl ⟨by rfl, ?_⟩) HH.out ?_
  rotate_left
  · intro w hSw; go_simp; try with_reducible rfl
  change wpAnyH _ _ _ _ _ _ _ (Act.put _ (some 73) _) _
  simp only [Act.put, List.setIfInBounds_toArray, List.set_cons_zero, List.set_cons_succ]
  refine wpAnyH_take (i := 6) (v := ?_) rfl (by kernel_rfl) (by kernel_rfl) (by kernel_rfl) (fun _ _ _ h => h) (Or.inl ⟨by rfl, ?_⟩) HH.out ?_
  rotate_left
  · intro w hSw; go_simp; try with_reducible rfl
  change wpAnyH _ _ _ _ _ _ _ (Act.put _ (some 74) _) _
  simp only [Act.put, List.setIfInBounds_toArray, List.set_cons_zero, List.set_cons_succ]
  refine wpAnyH_take (i := 7) (v := ?_) rfl (by kernel_rfl) (by kernel_rfl) (by kernel_rfl) (fun _ _ _ h => h) (Or.inl ⟨by rfl, ?_⟩) HH.out ?_
  rotate_left
  · intro w hSw; go_simp; try with_reducible rfl
  change wpAnyH _ _ _ _ _ _ _ (Act.put _ (some 75) _) _
  simp only [Act.put, List.setIfInBounds_toArray, List.set_cons_zero, List.set_cons_succ]
  refine wpAnyH_take (i := 8) (v := ?_) rfl (by kernel_rfl) (by kernel_rfl) (by kernel_rfl) (fun _ _ _ h => h) (Or.inl ⟨by rfl, ?_⟩) HH.out ?_
  rotate_left
  · intro w hSw; go_simp; try with_reducible rfl
  change wpAnyH _ _ _ _ _ _ _ (Act.put _ (some 76) _) _
  simp only [Act.put, List.setIfInBounds_toArray, List.set_cons_zero, List.set_cons_succ]
  refine wpAnyH_take (i := 9) (v := ?_) rfl (by kernel_rfl) (by kernel_rfl) (by kernel_rfl) (fun _ _ _ h => h) (Or.inl ⟨by rfl, ?_⟩) HH.out ?_
  rotate_left
  · intro w hSw; go_simp; try with_reducible rfl
  change wpAnyH _ _ _ _ _ _ _ (Act.put _ (some 77) _) _
  simp only [Act.put, List.setIfInBounds_toArray, List.set_cons_zero, List.set_cons_succ]
  refine wpAnyH_take (i := 10) (v := ?_) rfl (by kernel_rfl) (by kernel_rfl) (by kernel_rfl) (fun _ _ _ h => h) (Or.inl ⟨by rfl, ?_⟩) HH.out ?_
  rotate_left
  · intro w hSw; go_simp; try with_reducible rfl
  change wpAnyH _ _ _ _ _ _ _ (Act.put _ (some 78) _) _
  simp only [Act.put, List.setIfInBounds_toArray, List.set_cons_zero, List.set_cons_succ]
  refine wpAnyH_take (i := 11) (v := ?_) rfl (by kernel_rfl) (by kernel_rfl) (by kernel_rfl) (fun _ _ _ h => h) (Or.inl ⟨by rfl, ?_⟩) HH.out ?_
  rotate_left
  · intro w hSw; go_simp; try with_reducible rfl
  change wpAnyH _ _ _ _ _ _ _ (Act.put _ (some 79) _) _
  simp only [Act.put, List.setIfInBounds_toArray, List.set_cons_zero, List.set_cons_succ]
  refine wpAnyH_ready (rs := [12]) (by kernel_rfl) (by simp) ?_
  refine AllReadyH.cons rfl (fun K hK => ?_) AllReadyH.nil
  refine step_any rfl (op_store1 rfl onel61 rfl rfl (by rfl) (b7.ext (by (repeat (first | with_reducible exact Ext.refl _ | with_reducible assumption | refine Ext.trans ?_ (by with_reducible assumption) | refine Ext.alloc ?_ _ _ | refine Ext.drew ?_ | refine Ext.drewN ?_ _)))) (by omega) ?_)
  rintro W13 b13 m13
  refine hK.out _ _ ?_ (fun hHeld => ?_)
  · rw [b13.cell (by decide), updv_ne _ _ (by omega), updv_ne _ _ (by decide), k10]
  clear hK K HH hHeld
  have HH : Hid True := trivial
  have hHeld : True := trivial
  change wpAnyH _ _ _ _ _ _ _ (Act.put _ none _) _
  simp only [Act.put, List.setIfInBounds_toArray, List.set_cons_zero, List.set_cons_succ]
  refine wpAnyH_done (by kernel_rfl) ?_ _
  have hGf : GRow 5 1 BC (Ow own6 7) W13 v6 (l.take 0 ++ List.replicate e 0) := by
    have hz := hG6.mono (w' := W13) (R' := BC) (T' := Ow own6 7) (fun _ _ _ z => z) (fun _ _ z => z) (fun b n t cc z zt => ((z.mod m7 (fun y => by have y2 : b = g := y; rw [y2] at zt; unfold Ow at zt; rw [gG6] at zt; cases zt)).ext (show Ext W7 _ by (repeat (first | with_reducible exact Ext.refl _ | with_reducible assumption | refine Ext.trans ?_ (by with_reducible assumption) | refine Ext.alloc ?_ _ _ | refine Ext.drew ?_ | refine Ext.drewN ?_ _)))).mod m13 (fun y => by have y2 : b = g := y; rw [y2] at zt; unfold Ow at zt; rw [gG6] at zt; cases zt))
    rw [hlt0] at hz; simpa using hz
  have M13 : Mod (fun b => b = g ∨ own b = 7) w W13 := (((hM5.sub (fun x z => Or.inr z)).trans (hM6.sub (fun x z => Or.inr z))).trans (m7.sub (fun x z => Or.inl z))).trans (((Ext.mod (show Ext W7 _ by (repeat (first | with_reducible exact Ext.refl _ | with_reducible assumption | refine Ext.trans ?_ (by with_reducible assumption) | refine Ext.alloc ?_ _ _ | refine Ext.drew ?_ | refine Ext.drewN ?_ _))) _).trans m13).sub (fun x z => Or.inl z))
  clear hlt0
  go_wp2
  all_goals go_ret
  all_goals refine ⟨rfl, own6, _, b13, fun i h1 h2 => by rw [updv_ne _ _ h2, updv_ne _ _ h1], ?_, by rw [updv_ne _ _ (by omega), updv_same]; exact hGf, fun b hb => hk6 b (Nat.lt_of_lt_of_le hb hM5.size), fun b hb => hf6 b (Nat.le_trans (Nat.le_trans m7.size (Nat.le_trans (Ext.size (show Ext W7 _ by (repeat (first | with_reducible exact Ext.refl _ | with_reducible assumption | refine Ext.trans ?_ (by with_reducible assumption) | refine Ext.alloc ?_ _ _ | refine Ext.drew ?_ | refine Ext.drewN ?_ _)))) m13.size)) hb), M13⟩
  all_goals rw [updv_same]
  all_goals exact int_eq (by omega)
set_option maxRecDepth 100000 in
set_option maxHeartbeats 6400000 in
theorem aGrow2E {own : Nat → Nat} {w : World} {g m lo hi words q e : Nat} {c : Nat → Value} {l : List Nat} (hB : Blk w g 27024 105 c) (hm : m < 7) (k10 : c 10 = .int .u8 (m + 1 : Nat)) (klo : c (2 + m) = .int .u32 lo) (khi : c (2 + (m + 1)) = .int .u32 hi) (hG : GRow 5 1 BC (Ow own 7) w (c 1) l) (hfr : ∀ b, w.heap.size ≤ b → own b = 0) (hgt : own g = 8) (hlen : l.length = hi + q) (hle : lo ≤ hi) (hle2 : hi + q ≤ 5020960) (hw : words ≤ 22415) (he : lo + 32 * words = hi + e) (hqe : q < e) (hse : hi + e ≤ 5020960) (b cap : Nat) (hcl : hi + q ≤ cap) (hq0 : q = 0) (k1 : c 1 = .slice (some ⟨b, 0, none⟩) (hi + q) cap) : Calls Hvah.prog 281 #[.pointer (some ⟨g, 1, none⟩), .int .u32 words] w fun r w' => r = .returned (.bool true) ∧ ∃ own' c', Blk w' g 27024 105 c' ∧ (∀ i, i ≠ 1 → i ≠ 2 + (m + 1) → c' i = c i) ∧ c' (2 + (m + 1)) = .int .u32 (hi + e : Nat) ∧ GRow 5 1 BC (Ow own' 7) w' (c' 1) (l.take hi ++ List.replicate e 0) ∧ (∀ b, b < w.heap.size → own' b = own b) ∧ (∀ b, w'.heap.size ≤ b → own' b = 0) ∧ Mod (fun b => b = g ∨ own b = 7) w w' := by
  have HT := aTop g m lo hi (hi + q) cap b (some ⟨b, 0, none⟩) c w hB hm k10 klo khi k1 (Or.inr rfl) hle (by omega) hcl hle2
  have KB := fun W (hW : Ext w W) => hB.ext hW
  obtain ⟨d, hd⟩ : ∃ d, Hid (hi - lo = d) := ⟨_, rfl⟩
  rw [hd.out] at HT
  have hde : d + e = 32 * words := by have := hd.out; omega
  have hd1 : d ≤ hi := by have := hd.out; omega
  subst hq0
  have i1 : ¬ (22415 : Int) < words := by omega
  have w1 : IntKind.u32.wrap (32 * (words : Int)) = 32 * words := by rw [IntKind.wrap_u32']; omega
  have w2 : IntKind.u32.wrap (d : Int) = d := by rw [IntKind.wrap_u32']; omega
  have i2 : ¬ 32 * (words : Int) ≤ d := by omega
  have i3 : (32 * (words : Int)) - d = e := by omega
  have w3 : IntKind.i64.wrap (e : Int) = e := by rw [IntKind.wrap_i64]; omega
  have i4 : ¬ (e : Int) ≤ 0 := by omega
  have e0 : ¬ e = 0 := by omega
  have w5 : IntKind.u32.wrap (e : Int) = e := by rw [IntKind.wrap_u32']; omega
  have w6 : IntKind.u32.wrap ((hi : Int) + e) = (hi : Int) + e := by rw [IntKind.wrap_u32']; omega
  have i7 : ((m : Int) + 1).toNat = m + 1 := by omega
  have i8 : (m : Int) + 1 < 8 := by omega
  have i9 : (0 : Int) ≤ (m : Int) + 1 := by omega
  have i6 : (hi : Int) ≤ cap := by omega
  go_enter Hvah.func281, Hvah.ntmps281
  go_upto_region 7 with (first | (go_at_call 372; refine HT.mono ?_; rintro e1 w2 ⟨pp, rfl, _, he⟩))
  refine w_ext ?_
  rintro W0 hW0
  refine wp_region_held_drew (S := fun w' => Ext W0 w') (by kernel_rfl) (Ext.refl _).drew (fun hHeld => ?_)
  have HH : Hid (Ext W0 _) := hHeld
  clear hHeld
  refine wpAnyH_take (i := 0) (v := ?_) rfl (by kernel_rfl) (by kernel_rfl) (by kernel_rfl) (fun _ _ _ h => h) (Or.inl ⟨by rfl, ?_⟩) HH.out ?_
  rotate_left
  · intro w hSw; go_simp; try with_reducible rfl
  change wpAnyH _ _ _ _ _ _ _ (Act.put _ (some 33) _) _
  simp only [Act.put, List.setIfInBounds_toArray, List.set_cons_zero, List.set_cons_succ]
  refine wpAnyH_take (i := 1) (v := ?_) rfl (by kernel_rfl) (by kernel_rfl) (by kernel_rfl) (fun _ _ _ h => h) (Or.inl ⟨by rfl, ?_⟩) HH.out ?_
  rotate_left
  · intro w hSw; go_simp; try with_reducible rfl
  change wpAnyH _ _ _ _ _ _ _ (Act.put _ (some 34) _) _
  simp only [Act.put, List.setIfInBounds_toArray, List.set_cons_zero, List.set_cons_succ]
  refine wpAnyH_take (i := 2) (v := ?_) rfl (by kernel_rfl) (by kernel_rfl) (by kernel_rfl) (fun _ _ _ h => h) (Or.inl ⟨by rfl, ?_⟩) HH.out ?_
  rotate_left
  · intro w hSw; go_simp; try with_reducible rfl
  change wpAnyH _ _ _ _ _ _ _ (Act.put _ (some 35) _) _
  simp only [Act.put, List.setIfInBounds_toArray, List.set_cons_zero, List.set_cons_succ]
  refine wpAnyH_take (i := 3) (v := ?_) rfl (by kernel_rfl) (by kernel_rfl) (by kernel_rfl) (fun _ _ _ h => h) (Or.inl ⟨by rfl, ?_⟩) HH.out ?_
  rotate_left
  · intro w hSw; go_simp; try with_reducible rfl
  change wpAnyH _ _ _ _ _ _ _ (Act.put _ (some 36) _) _
  simp only [Act.put, List.setIfInBounds_toArray, List.set_cons_zero, List.set_cons_succ]
  refine wpAnyH_take (i := 4) rfl (by kernel_rfl) (by kernel_rfl) (by kernel_rfl) (fun _ _ _ h => h) (yieldsIf_load1 (by rfl) _ _ rfl _ _ rfl one5 _ (fun w hSw => by rw [(KB _ (Ext.trans (by (repeat (first | with_reducible exact Ext.refl _ | with_reducible assumption | refine Ext.trans ?_ (by with_reducible assumption) | refine Ext.alloc ?_ _ _ | refine Ext.drew ?_ | refine Ext.drewN ?_ _))) hSw)).cell (by omega), k10])) HH.out ?_
  change wpAnyH _ _ _ _ _ _ _ (Act.put _ (some 37) _) _
  simp only [Act.put, List.setIfInBounds_toArray, List.set_cons_zero, List.set_cons_succ]
  refine wpAnyH_take (i := 5) (v := ?_) rfl (by kernel_rfl) (by kernel_rfl) (by kernel_rfl) (fun _ _ _ h => h) (Or.inl ⟨by rfl, ?_⟩) HH.out ?_
  rotate_left
  · intro w hSw; go_simp; try with_reducible rfl
  change wpAnyH _ _ _ _ _ _ _ (Act.put _ (some 38) _) _
  simp only [Act.put, List.setIfInBounds_toArray, List.set_cons_zero, List.set_cons_succ]
  refine wpAnyH_take (i := 6) (v := ?_) rfl (by kernel_rfl) (by kernel_rfl) (by kernel_rfl) (fun _ _ _ h => h) (Or.inl ⟨by rfl, ?_⟩) HH.out ?_
  rotate_left
  · intro w hSw; go_simp; try with_reducible rfl
  change wpAnyH _ _ _ _ _ _ _ (Act.put _ (some 39) _) _
  simp only [Act.put, List.setIfInBounds_toArray, List.set_cons_zero, List.set_cons_succ]
  refine wpAnyH_take (i := 7) (v := ?_) rfl (by kernel_rfl) (by kernel_rfl) (by kernel_rfl) (fun _ _ _ h => h) (Or.inl ⟨by rfl, ?_⟩) HH.out ?_
  rotate_left
  · intro w hSw; go_simp; try with_reducible rfl
  change wpAnyH _ _ _ _ _ _ _ (Act.put _ (some 40) _) _
  simp only [Act.put, List.setIfInBounds_toArray, List.set_cons_zero, List.set_cons_succ]
  refine wpAnyH_take (i := 8) rfl (by kernel_rfl) (by kernel_rfl) (by kernel_rfl) (fun _ _ _ h => h) (yieldsIf_load1 (by rfl) _ _ rfl _ _ rfl onel61 _ (fun w hSw => by rw [(KB _ (Ext.trans (by (repeat (first | with_reducible exact Ext.refl _ | with_reducible assumption | refine Ext.trans ?_ (by with_reducible assumption) | refine Ext.alloc ?_ _ _ | refine Ext.drew ?_ | refine Ext.drewN ?_ _))) hSw)).cell (by omega), khi])) HH.out ?_
  change wpAnyH _ _ _ _ _ _ _ (Act.put _ (some 41) _) _
  simp only [Act.put, List.setIfInBounds_toArray, List.set_cons_zero, List.set_cons_succ]
  refine wpAnyH_take (i := 9) (v := ?_) rfl (by kernel_rfl) (by kernel_rfl) (by kernel_rfl) (fun _ _ _ h => h) (Or.inl ⟨by rfl, ?_⟩) HH.out ?_
  rotate_left
  · intro w hSw; go_simp; try with_reducible rfl
  change wpAnyH _ _ _ _ _ _ _ (Act.put _ (some 8) _) _
  simp only [Act.put, List.setIfInBounds_toArray, List.set_cons_zero, List.set_cons_succ]
  refine wpAnyH_done (by kernel_rfl) ?_ _
  go_upto_region 12 with (first | ((with_reducible (refine Veil.out ?_; apply wl_load1 onel32)); (case hx => rfl); (case hB => exact KB _ (by (repeat (first | with_reducible exact Ext.refl _ | with_reducible assumption | refine Ext.trans ?_ (by with_reducible assumption) | refine Ext.alloc ?_ _ _ | refine Ext.drew ?_ | refine Ext.drewN ?_ _)))); (case ho => decide); rw [k1]) | ((with_reducible (refine Veil.out ?_; apply wl_clear0 Hvah.underlying23)); (case hd => rfl)))
  refine w_ext ?_
  rintro W5 hW5
  have eW : Ext w W5 := by (repeat (first | with_reducible exact Ext.refl _ | with_reducible assumption | refine Ext.trans ?_ (by with_reducible assumption) | refine Ext.alloc ?_ _ _ | refine Ext.drew ?_ | refine Ext.drewN ?_ _))
  have hB5 := hB.ext eW
  have hG5 := hG.ext (w' := W5) eW (fun _ _ _ z => z)
  rw [k1] at hG5
  have hM5 : Mod (fun x => own x = 7) w W5 := eW.mod _
  clear HH HT KB hG
  have hlt0 : l = l.take hi ++ List.replicate 0 0 := by rw [List.replicate_zero, List.append_nil, List.take_of_length_le (by omega)]
  have hf5 : ∀ b, W5.heap.size ≤ b → own b = 0 := fun b hb => hfr b (Nat.le_trans hM5.size hb)
  have hg5 : ¬ own g = 7 := by rw [hgt]; decide
  go_upto_region 13 with (first | ((with_reducible (refine Veil.out ?_; apply wl_load1 onel32)); (case hx => rfl); (case hB => exact hB5); (case ho => decide); rw [k1]) | ((with_reducible (refine Veil.out ?_; apply wl_append0 (k := e) (l := l) (own := own))); (case hs => rfl); (case hx => rfl); (case hG => exact hG5); (case hfr => exact hf5); (case hl => (rw [hlen]; exact hle2)); (case h0 => omega); (case hk => omega); rintro v6 W6 own6 hG6 hk6 hf6 hM6 ho6) | ((with_reducible (refine Veil.out ?_; apply wl_storeC (v := v6) onel32)); (case hx => rfl); (case hy => rfl); (case h1 => exact ho6); (case hB => exact hB5.mod hM6 hg5); (case hi => decide); rintro W7 b7 m7))
  have gG6 : own6 g = 8 := (hk6 g hB5.lt).trans hgt
  refine w_ext ?_
  rintro W0 hW0
  refine wp_region_held_drew (S := fun w' => World.cell? w' ⟨g, 10, none⟩ = some (.int .u8 (m + 1 : Nat))) (by kernel_rfl) (by rw [(b7.ext (show Ext W7 _ from (Ext.trans (by assumption) (Ext.refl _).drew))).cell (by decide), updv_ne _ _ (by decide), k10]) (fun hHeld => ?_)
  have HH : Hid (World.cell? _ ⟨g, 10, none⟩ = some (.int .u8 (m + 1 : Nat))) := hHeld
  clear hHeld
  refine wpAnyH_take (i := 0) (v := ?_) rfl (by kernel_rfl) (by kernel_rfl) (by kernel_rfl) (fun _ _ _ h => h) (Or.inl ⟨by rfl, ?_⟩) HH.out ?_
  rotate_left
  · intro w hSw; go_simp; try with_reducible rfl
  change wpAnyH _ _ _ _ _ _ _ (Act.put _ (some 68) _) _
  simp only [Act.put, List.setIfInBounds_toArray, List.set_cons_zero, List.set_cons_succ]
  refine wpAnyH_take (i := 1) (v := ?_) rfl (by kernel_rfl) (by kernel_rfl) (by kernel_rfl) (fun _ _ _ h => h) (Or.inl ⟨by rfl, ?_⟩) HH.out ?_
  rotate_left
  · intro w hSw; go_simp; try with_reducible rfl
  change wpAnyH _ _ _ _ _ _ _ (Act.put _ (some 69) _) _
  simp only [Act.put, List.setIfInBounds_toArray, List.set_cons_zero, List.set_cons_succ]
  refine wpAnyH_take (i := 2) (v := ?_) rfl (by kernel_rfl) (by kernel_rfl) (by kernel_rfl) (fun _ _ _ h => h) (Or.inl ⟨by rfl, ?_⟩) HH.out ?_
  rotate_left
  · intro w hSw; go_simp; try with_reducible rfl
  change wpAnyH _ _ _ _ _ _ _ (Act.put _ (some 70) _) _
  simp only [Act.put, List.setIfInBounds_toArray, List.set_cons_zero, List.set_cons_succ]
  refine wpAnyH_take (i := 3) (v := ?_) rfl (by kernel_rfl) (by kernel_rfl) (by kernel_rfl) (fun _ _ _ h => h) (Or.inl ⟨by rfl, ?_⟩) HH.out ?_
  rotate_left
  · intro w hSw; go_simp; try with_reducible rfl
  change wpAnyH _ _ _ _ _ _ _ (Act.put _ (some 71) _) _
  simp only [Act.put, List.setIfInBounds_toArray, List.set_cons_zero, List.set_cons_succ]
  refine wpAnyH_take (i := 4) rfl (by kernel_rfl) (by kernel_rfl) (by kernel_rfl) (fun _ _ _ h => h) (yieldsIf_load1 (by rfl) _ _ rfl _ _ rfl one5 _ (fun w hSw => hSw)) HH.out ?_
  change wpAnyH _ _ _ _ _ _ _ (Act.put _ (some 72) _) _
  simp only [Act.put, List.setIfInBounds_toArray, List.set_cons_zero, List.set_cons_succ]
  refine wpAnyH_take (i := 5) (v := ?_) rfl (by kernel_rfl) (by kernel_rfl) (by kernel_rfl) (fun _ _ _ h => h) (Or.inl ⟨by rfl, ?_⟩) HH.out ?_
  rotate_left
  · intro w hSw; go_simp; try with_reducible rfl
  change wpAnyH _ _ _ _ _ _ _ (Act.put _ (some 73) _) _
  simp only [Act.put, List.setIfInBounds_toArray, List.set_cons_zero, List.set_cons_succ]
  refine wpAnyH_take (i := 6) (v := ?_) rfl (by kernel_rfl) (by kernel_rfl) (by kernel_rfl) (fun _ _ _ h => h) (Or.inl ⟨by rfl, ?_⟩) HH.out ?_
  rotate_left
  · intro w hSw; go_simp; try with_reducible rfl
  change wpAnyH _ _ _ _ _ _ _ (Act.put _ (some 74) _) _
  simp only [Act.put, List.setIfInBounds_toArray, List.set_cons_zero, List.set_cons_succ]
  refine wpAnyH_take (i := 7) (v := ?_) rfl (by kernel_rfl) (by kernel_rfl) (by kernel_rfl) (fun _ _ _ h => h) (Or.inl ⟨by rfl, ?_⟩) HH.out ?_
  rotate_left
  · intro w hSw; go_simp; try with_reducible rfl
  change wpAnyH _ _ _ _ _ _ _ (Act.put _ (some 75) _) _
  simp only [Act.put, List.setIfInBounds_toArray, List.set_cons_zero, List.set_cons_succ]
  refine wpAnyH_take (i := 8) (v := ?_) rfl (by kernel_rfl) (by kernel_rfl) (by kernel_rfl) (fun _ _ _ h => h) (Or.inl ⟨by rfl, ?_⟩) HH.out ?_
  rotate_left
  · intro w hSw; go_simp; try with_reducible rfl
  change wpAnyH _ _ _ _ _ _ _ (Act.put _ (some 76) _) _
  simp only [Act.put, List.setIfInBounds_toArray, List.set_cons_zero, List.set_cons_succ]
  refine wpAnyH_take (i := 9) (v := ?_) rfl (by kernel_rfl) (by kernel_rfl) (by kernel_rfl) (fun _ _ _ h => h) (Or.inl ⟨by rfl, ?_⟩) HH.out ?_
  rotate_left
  · intro w hSw; go_simp; try with_reducible rfl
  change wpAnyH _ _ _ _ _ _ _ (Act.put _ (some 77) _) _
  simp only [Act.put, List.setIfInBounds_toArray, List.set_cons_zero, List.set_cons_succ]
  refine wpAnyH_take (i := 10) (v := ?_) rfl (by kernel_rfl) (by kernel_rfl) (by kernel_rfl) (fun _ _ _ h => h) (Or.inl ⟨by rfl, ?_⟩) HH.out ?_
  rotate_left
  · intro w hSw; go_simp; try with_reducible rfl
  change wpAnyH _ _ _ _ _ _ _ (Act.put _ (some 78) _) _
  simp only [Act.put, List.setIfInBounds_toArray, List.set_cons_zero, List.set_cons_succ]
  refine wpAnyH_take (i := 11) (v := ?_) rfl (by kernel_rfl) (by kernel_rfl) (by kernel_rfl) (fun _ _ _ h => h) (Or.inl ⟨by rfl, ?_⟩) HH.out ?_
  rotate_left
  · intro w hSw; go_simp; try with_reducible rfl
  change wpAnyH _ _ _ _ _ _ _ (Act.put _ (some 79) _) _
  simp only [Act.put, List.setIfInBounds_toArray, List.set_cons_zero, List.set_cons_succ]
  refine wpAnyH_ready (rs := [12]) (by kernel_rfl) (by simp) ?_
  refine AllReadyH.cons rfl (fun K hK => ?_) AllReadyH.nil
  refine step_any rfl (op_store1 rfl onel61 rfl rfl (by rfl) (b7.ext (by (repeat (first | with_reducible exact Ext.refl _ | with_reducible assumption | refine Ext.trans ?_ (by with_reducible assumption) | refine Ext.alloc ?_ _ _ | refine Ext.drew ?_ | refine Ext.drewN ?_ _)))) (by omega) ?_)
  rintro W13 b13 m13
  refine hK.out _ _ ?_ (fun hHeld => ?_)
  · rw [b13.cell (by decide), updv_ne _ _ (by omega), updv_ne _ _ (by decide), k10]
  clear hK K HH hHeld
  have HH : Hid True := trivial
  have hHeld : True := trivial
  change wpAnyH _ _ _ _ _ _ _ (Act.put _ none _) _
  simp only [Act.put, List.setIfInBounds_toArray, List.set_cons_zero, List.set_cons_succ]
  refine wpAnyH_done (by kernel_rfl) ?_ _
  have hGf : GRow 5 1 BC (Ow own6 7) W13 v6 (l.take hi ++ List.replicate e 0) := by
    have hz := hG6.mono (w' := W13) (R' := BC) (T' := Ow own6 7) (fun _ _ _ z => z) (fun _ _ z => z) (fun b n t cc z zt => ((z.mod m7 (fun y => by have y2 : b = g := y; rw [y2] at zt; unfold Ow at zt; rw [gG6] at zt; cases zt)).ext (show Ext W7 _ by (repeat (first | with_reducible exact Ext.refl _ | with_reducible assumption | refine Ext.trans ?_ (by with_reducible assumption) | refine Ext.alloc ?_ _ _ | refine Ext.drew ?_ | refine Ext.drewN ?_ _)))).mod m13 (fun y => by have y2 : b = g := y; rw [y2] at zt; unfold Ow at zt; rw [gG6] at zt; cases zt))
    rw [hlt0] at hz; simpa using hz
  have M13 : Mod (fun b => b = g ∨ own b = 7) w W13 := (((hM5.sub (fun x z => Or.inr z)).trans (hM6.sub (fun x z => Or.inr z))).trans (m7.sub (fun x z => Or.inl z))).trans (((Ext.mod (show Ext W7 _ by (repeat (first | with_reducible exact Ext.refl _ | with_reducible assumption | refine Ext.trans ?_ (by with_reducible assumption) | refine Ext.alloc ?_ _ _ | refine Ext.drew ?_ | refine Ext.drewN ?_ _))) _).trans m13).sub (fun x z => Or.inl z))
  clear hlt0
  go_wp2
  all_goals go_ret
  all_goals refine ⟨rfl, own6, _, b13, fun i h1 h2 => by rw [updv_ne _ _ h2, updv_ne _ _ h1], ?_, by rw [updv_ne _ _ (by omega), updv_same]; exact hGf, fun b hb => hk6 b (Nat.lt_of_lt_of_le hb hM5.size), fun b hb => hf6 b (Nat.le_trans (Nat.le_trans m7.size (Nat.le_trans (Ext.size (show Ext W7 _ by (repeat (first | with_reducible exact Ext.refl _ | with_reducible assumption | refine Ext.trans ?_ (by with_reducible assumption) | refine Ext.alloc ?_ _ _ | refine Ext.drew ?_ | refine Ext.drewN ?_ _)))) m13.size)) hb), M13⟩
  all_goals rw [updv_same]
  all_goals exact int_eq (by omega)
set_option maxRecDepth 100000 in
set_option maxHeartbeats 6400000 in
theorem aGrow2B {own : Nat → Nat} {w : World} {g m lo hi words q e : Nat} {c : Nat → Value} {l : List Nat} (hB : Blk w g 27024 105 c) (hm : m < 7) (k10 : c 10 = .int .u8 (m + 1 : Nat)) (klo : c (2 + m) = .int .u32 lo) (khi : c (2 + (m + 1)) = .int .u32 hi) (hG : GRow 5 1 BC (Ow own 7) w (c 1) l) (hfr : ∀ b, w.heap.size ≤ b → own b = 0) (hgt : own g = 8) (hlen : l.length = hi + q) (hle : lo ≤ hi) (hle2 : hi + q ≤ 5020960) (hw : words ≤ 22415) (he : lo + 32 * words = hi + e) (hqe : q < e) (hse : hi + e ≤ 5020960) (b cap : Nat) (hcl : hi + q ≤ cap) (hq0 : 0 < q) {cc : Nat → Value} (hbk : Blk w b cap 5 cc) (hob : own b = 7) (hrow : ∀ i (h : i < l.length), BC cc i l[i]) (k1 : c 1 = .slice (some ⟨b, 0, none⟩) (hi + q) cap) : Calls Hvah.prog 281 #[.pointer (some ⟨g, 1, none⟩), .int .u32 words] w fun r w' => r = .returned (.bool true) ∧ ∃ own' c', Blk w' g 27024 105 c' ∧ (∀ i, i ≠ 1 → i ≠ 2 + (m + 1) → c' i = c i) ∧ c' (2 + (m + 1)) = .int .u32 (hi + e : Nat) ∧ GRow 5 1 BC (Ow own' 7) w' (c' 1) (l.take hi ++ List.replicate e 0) ∧ (∀ b, b < w.heap.size → own' b = own b) ∧ (∀ b, w'.heap.size ≤ b → own' b = 0) ∧ Mod (fun b => b = g ∨ own b = 7) w w' := by
  have HT := aTop g m lo hi (hi + q) cap b (some ⟨b, 0, none⟩) c w hB hm k10 klo khi k1 (Or.inr rfl) hle (by omega) hcl hle2
  have KB := fun W (hW : Ext w W) => hB.ext hW
  obtain ⟨d, hd⟩ : ∃ d, Hid (hi - lo = d) := ⟨_, rfl⟩
  rw [hd.out] at HT
  have hde : d + e = 32 * words := by have := hd.out; omega
  have hd1 : d ≤ hi := by have := hd.out; omega
  have i1 : ¬ (22415 : Int) < words := by omega
  have w1 : IntKind.u32.wrap (32 * (words : Int)) = 32 * words := by rw [IntKind.wrap_u32']; omega
  have w2 : IntKind.u32.wrap (d : Int) = d := by rw [IntKind.wrap_u32']; omega
  have i2 : ¬ 32 * (words : Int) ≤ d := by omega
  have i3 : (32 * (words : Int)) - d = e := by omega
  have w3 : IntKind.i64.wrap (e : Int) = e := by rw [IntKind.wrap_i64]; omega
  have i4 : ¬ (e : Int) ≤ (q : Int) := by omega
  have e0 : ¬ e = 0 := by omega
  have w5 : IntKind.u32.wrap (e : Int) = e := by rw [IntKind.wrap_u32']; omega
  have w6 : IntKind.u32.wrap ((hi : Int) + e) = (hi : Int) + e := by rw [IntKind.wrap_u32']; omega
  have i7 : ((m : Int) + 1).toNat = m + 1 := by omega
  have i8 : (m : Int) + 1 < 8 := by omega
  have i9 : (0 : Int) ≤ (m : Int) + 1 := by omega
  have i5 : (hi : Int) ≤ hi + q := by omega
  have i6 : (hi : Int) + q ≤ cap := by omega
  have w7 : IntKind.i64.wrap ((e : Int) - q) = (e : Int) - q := by rw [IntKind.wrap_i64]; omega
  have i10 : (hi : Int) + q - hi = q := by omega
  go_enter Hvah.func281, Hvah.ntmps281
  go_upto_region 7 with (first | (go_at_call 372; refine HT.mono ?_; rintro e1 w2 ⟨pp, rfl, _, he⟩))
  refine w_ext ?_
  rintro W0 hW0
  refine wp_region_held_drew (S := fun w' => Ext W0 w') (by kernel_rfl) (Ext.refl _).drew (fun hHeld => ?_)
  have HH : Hid (Ext W0 _) := hHeld
  clear hHeld
  refine wpAnyH_take (i := 0) (v := ?_) rfl (by kernel_rfl) (by kernel_rfl) (by kernel_rfl) (fun _ _ _ h => h) (Or.inl ⟨by rfl, ?_⟩) HH.out ?_
  rotate_left
  · intro w hSw; go_simp; try with_reducible rfl
  change wpAnyH _ _ _ _ _ _ _ (Act.put _ (some 33) _) _
  simp only [Act.put, List.setIfInBounds_toArray, List.set_cons_zero, List.set_cons_succ]
  refine wpAnyH_take (i := 1) (v := ?_) rfl (by kernel_rfl) (by kernel_rfl) (by kernel_rfl) (fun _ _ _ h => h) (Or.inl ⟨by rfl, ?_⟩) HH.out ?_
  rotate_left
  · intro w hSw; go_simp; try with_reducible rfl
  change wpAnyH _ _ _ _ _ _ _ (Act.put _ (some 34) _) _
  simp only [Act.put, List.setIfInBounds_toArray, List.set_cons_zero, List.set_cons_succ]
  refine wpAnyH_take (i := 2) (v := ?_) rfl (by kernel_rfl) (by kernel_rfl) (by kernel_rfl) (fun _ _ _ h => h) (Or.inl ⟨by rfl, ?_⟩) HH.out ?_
  rotate_left
  · intro w hSw; go_simp; try with_reducible rfl
  change wpAnyH _ _ _ _ _ _ _ (Act.put _ (some 35) _) _
  simp only [Act.put, List.setIfInBounds_toArray, List.set_cons_zero, List.set_cons_succ]
  refine wpAnyH_take (i := 3) (v := ?_) rfl (by kernel_rfl) (by kernel_rfl) (by kernel_rfl) (fun _ _ _ h => h) (Or.inl ⟨by rfl, ?_⟩) HH.out ?_
  rotate_left
  · intro w hSw; go_simp; try with_reducible rfl
  change wpAnyH _ _ _ _ _ _ _ (Act.put _ (some 36) _) _
  simp only [Act.put, List.setIfInBounds_toArray, List.set_cons_zero, List.set_cons_succ]
  refine wpAnyH_take (i := 4) rfl (by kernel_rfl) (by kernel_rfl) (by kernel_rfl) (fun _ _ _ h => h) (yieldsIf_load1 (by rfl) _ _ rfl _ _ rfl one5 _ (fun w hSw => by rw [(KB _ (Ext.trans (by (repeat (first | with_reducible exact Ext.refl _ | with_reducible assumption | refine Ext.trans ?_ (by with_reducible assumption) | refine Ext.alloc ?_ _ _ | refine Ext.drew ?_ | refine Ext.drewN ?_ _))) hSw)).cell (by omega), k10])) HH.out ?_
  change wpAnyH _ _ _ _ _ _ _ (Act.put _ (some 37) _) _
  simp only [Act.put, List.setIfInBounds_toArray, List.set_cons_zero, List.set_cons_succ]
  refine wpAnyH_take (i := 5) (v := ?_) rfl (by kernel_rfl) (by kernel_rfl) (by kernel_rfl) (fun _ _ _ h => h) (Or.inl ⟨by rfl, ?_⟩) HH.out ?_
  rotate_left
  · intro w hSw; go_simp; try with_reducible rfl
  change wpAnyH _ _ _ _ _ _ _ (Act.put _ (some 38) _) _
  simp only [Act.put, List.setIfInBounds_toArray, List.set_cons_zero, List.set_cons_succ]
  refine wpAnyH_take (i := 6) (v := ?_) rfl (by kernel_rfl) (by kernel_rfl) (by kernel_rfl) (fun _ _ _ h => h) (Or.inl ⟨by rfl, ?_⟩) HH.out ?_
  rotate_left
  · intro w hSw; go_simp; try with_reducible rfl
  change wpAnyH _ _ _ _ _ _ _ (Act.put _ (some 39) _) _
  simp only [Act.put, List.setIfInBounds_toArray, List.set_cons_zero, List.set_cons_succ]
  refine wpAnyH_take (i := 7) (v := ?_) rfl (by kernel_rfl) (by kernel_rfl) (by kernel_rfl) (fun _ _ _ h => h) (Or.inl ⟨by rfl, ?_⟩) HH.out ?_
  rotate_left
  · intro w hSw; go_simp; try with_reducible rfl
  change wpAnyH _ _ _ _ _ _ _ (Act.put _ (some 40) _) _
  simp only [Act.put, List.setIfInBounds_toArray, List.set_cons_zero, List.set_cons_succ]
  refine wpAnyH_take (i := 8) rfl (by kernel_rfl) (by kernel_rfl) (by kernel_rfl) (fun _ _ _ h => h) (yieldsIf_load1 (by rfl) _ _ rfl _ _ rfl onel61 _ (fun w hSw => by rw [(KB _ (Ext.trans (by (repeat (first | with_reducible exact Ext.refl _ | with_reducible assumption | refine Ext.trans ?_ (by with_reducible assumption) | refine Ext.alloc ?_ _ _ | refine Ext.drew ?_ | refine Ext.drewN ?_ _))) hSw)).cell (by omega), khi])) HH.out ?_
  change wpAnyH _ _ _ _ _ _ _ (Act.put _ (some 41) _) _
  simp only [Act.put, List.setIfInBounds_toArray, List.set_cons_zero, List.set_cons_succ]
  refine wpAnyH_take (i := 9) (v := ?_) rfl (by kernel_rfl) (by kernel_rfl) (by kernel_rfl) (fun _ _ _ h => h) (Or.inl ⟨by rfl, ?_⟩) HH.out ?_
  rotate_left
  · intro w hSw; go_simp; try with_reducible rfl
  change wpAnyH _ _ _ _ _ _ _ (Act.put _ (some 8) _) _
  simp only [Act.put, List.setIfInBounds_toArray, List.set_cons_zero, List.set_cons_succ]
  refine wpAnyH_done (by kernel_rfl) ?_ _
  have eW : Ext w W0.drew := by (repeat (first | with_reducible exact Ext.refl _ | with_reducible assumption | refine Ext.trans ?_ (by with_reducible assumption) | refine Ext.alloc ?_ _ _ | refine Ext.drew ?_ | refine Ext.drewN ?_ _))
  have hgb : ¬ g = b := fun z => by rw [z, hob] at hgt; cases hgt
  obtain ⟨k, hk0⟩ : ∃ k, Hid (e = q + k) := ⟨e - q, by unfold Hid; omega⟩
  have hk := hk0.out
  have i11 : (e : Int) - q = (k : Int) := by omega
  clear hk
  have HL : ∀ W, Ext w W → W.there b hi q ∧ Blk (W.setCells b hi (bcells (List.replicate q 0))) g 27024 105 c ∧ GRow 5 1 BC (Ow own 7) (W.setCells b hi (bcells (List.replicate q 0))) (.slice (some ⟨b, 0, none⟩) (hi + q) cap) (l.take hi ++ List.replicate q 0) ∧ Mod (fun x => own x = 7) w (W.setCells b hi (bcells (List.replicate q 0))) := fun W hW => by
    have hb2 := hbk.ext hW
    have hzl : (bcells (List.replicate q 0)).length = q := by rw [bcells_length, List.length_replicate]
    have hmd : Mod (· = b) W (W.setCells b hi (bcells (List.replicate q 0))) := setCells_mod (S := (· = b)) (Or.inl rfl) _ _ _ (Mod.refl _ _)
    have hcm : cap ≤ 9223372036854775807 := by
      rcases hG with ⟨_, z⟩ | ⟨b2, cap2, _, z, _, z3, _⟩
      · rw [k1] at z; cases z
      · rw [k1] at z; injection z with z4 z5 z6; omega
    have hll : (l.take hi ++ List.replicate q 0).length = hi + q := by simp; omega
    refine ⟨fun j hj => ⟨by rw [hb2.cell (by omega)]; rfl, hb2.fz _⟩, (hB.ext hW).mod hmd hgb, Or.inr ⟨b, cap, _, by rw [hll], by rw [hll]; exact hcl, hcm, by rw [Nat.mul_one]; exact setCells_blk (bcells (List.replicate q 0)) hi W cc hb2 (by rw [hzl]; omega), hob, fun i hi2 => ?_⟩, (hW.mod _).trans (hmd.sub (fun x hx => by have hx2 : x = b := hx; rw [hx2]; exact hob))⟩
    rw [hll] at hi2
    show (if hi ≤ i * 1 then _ else _) = _ ∧ _
    rw [Nat.mul_one]
    have htl : (l.take hi).length = hi := by rw [List.length_take]; omega
    by_cases h4 : i < hi
    · rw [if_neg (by omega), List.getElem_append_left (by rw [htl]; exact h4), List.getElem_take]
      exact hrow i (by omega)
    · rw [if_pos (by omega), List.getElem_append_right (by rw [htl]; omega)]
      have hj : i - hi < q := by omega
      simp [bcells, List.getD, hj]
  clear HH HT hbk hrow hG
  go_upto_region 12 with (first | ((with_reducible (refine Veil.out ?_; apply wl_load1 onel32)); (case hx => rfl); (case hB => exact KB _ (by (repeat (first | with_reducible exact Ext.refl _ | with_reducible assumption | refine Ext.trans ?_ (by with_reducible assumption) | refine Ext.alloc ?_ _ _ | refine Ext.drew ?_ | refine Ext.drewN ?_ _)))); (case ho => decide); rw [k1]) | ((with_reducible (refine Veil.out ?_; apply wl_clearC Hvah.underlying23)); (case hd => rfl); (case hn => exact hq0); (case hth => exact (HL _ (by (repeat (first | with_reducible exact Ext.refl _ | with_reducible assumption | refine Ext.trans ?_ (by with_reducible assumption) | refine Ext.alloc ?_ _ _ | refine Ext.drew ?_ | refine Ext.drewN ?_ _)))).1); refine w_gen (fun W => Blk W g 27024 105 c ∧ GRow 5 1 BC (Ow own 7) W (.slice (some ⟨b, 0, none⟩) (hi + q) cap) (l.take hi ++ List.replicate q 0) ∧ Mod (fun x => own x = 7) w W) (HL _ (by (repeat (first | with_reducible exact Ext.refl _ | with_reducible assumption | refine Ext.trans ?_ (by with_reducible assumption) | refine Ext.alloc ?_ _ _ | refine Ext.drew ?_ | refine Ext.drewN ?_ _)))).2 ?_; rintro W5 ⟨hB5, hG5, hM5⟩))
  clear HL KB
  have hf5 : ∀ b, W5.heap.size ≤ b → own b = 0 := fun b hb => hfr b (Nat.le_trans hM5.size hb)
  have hg5 : ¬ own g = 7 := by rw [hgt]; decide
  go_upto_region 13 with (first | ((with_reducible (refine Veil.out ?_; apply wl_load1 onel32)); (case hx => rfl); (case hB => exact hB5); (case ho => decide); rw [k1]) | ((with_reducible (refine Veil.out ?_; apply wl_append0 (k := k) (l := (l.take hi ++ List.replicate q 0)) (own := own))); (case hs => rfl); (case hx => rfl); (case hG => exact hG5); (case hfr => exact hf5); (case hl => (simp; omega)); (case h0 => omega); (case hk => omega); rintro v6 W6 own6 hG6 hk6 hf6 hM6 ho6) | ((with_reducible (refine Veil.out ?_; apply wl_storeC (v := v6) onel32)); (case hx => rfl); (case hy => rfl); (case h1 => exact ho6); (case hB => exact hB5.mod hM6 hg5); (case hi => decide); rintro W7 b7 m7))
  have gG6 : own6 g = 8 := (hk6 g hB5.lt).trans hgt
  refine w_ext ?_
  rintro W0 hW0
  refine wp_region_held_drew (S := fun w' => World.cell? w' ⟨g, 10, none⟩ = some (.int .u8 (m + 1 : Nat))) (by kernel_rfl) (by rw [(b7.ext (show Ext W7 _ from (Ext.trans (by assumption) (Ext.refl _).drew))).cell (by decide), updv_ne _ _ (by decide), k10]) (fun hHeld => ?_)
  have HH : Hid (World.cell? _ ⟨g, 10, none⟩ = some (.int .u8 (m + 1 : Nat))) := hHeld
  clear hHeld
  refine wpAnyH_take (i := 0) (v := ?_) rfl (by kernel_rfl) (by kernel_rfl) (by kernel_rfl) (fun _ _ _ h => h) (Or.inl ⟨by rfl, ?_⟩) HH.out ?_
  rotate_left
  · intro w hSw; go_simp; try with_reducible rfl
  change wpAnyH _ _ _ _ _ _ _ (Act.put _ (some 68) _) _
  simp only [Act.put, List.setIfInBounds_toArray, List.set_cons_zero, List.set_cons_succ]
  refine wpAnyH_take (i := 1) (v := ?_) rfl (by kernel_rfl) (by kernel_rfl) (by kernel_rfl) (fun _ _ _ h => h) (Or.inl ⟨by rfl, ?_⟩) HH.out ?_
  rotate_left
  · intro w hSw; go_simp; try with_reducible rfl
  change wpAnyH _ _ _ _ _ _ _ (Act.put _ (some 69) _) _
  simp only [Act.put, List.setIfInBounds_toArray, List.set_cons_zero, List.set_cons_succ]
  refine wpAnyH_take (i := 2) (v := ?_) rfl (by kernel_rfl) (by kernel_rfl) (by kernel_rfl) (fun _ _ _ h => h) (Or.inl ⟨by rfl, ?_⟩) HH.out ?_
  rotate_left
  · intro w hSw; go_simp; try with_reducible rfl
  change wpAnyH _ _ _ _ _ _ _ (Act.put _ (some 70) _) _
  simp only [Act.put, List.setIfInBounds_toArray, List.set_cons_zero, List.set_cons_succ]
  refine wpAnyH_take (i := 3) (v := ?_) rfl (by kernel_rfl) (by kernel_rfl) (by kernel_rfl) (fun _ _ _ h => h) (Or.inl ⟨by rfl, ?_⟩) HH.out ?_
  rotate_left
  · intro w hSw; go_simp; try with_reducible rfl
  change wpAnyH _ _ _ _ _ _ _ (Act.put _ (some 71) _) _
  simp only [Act.put, List.setIfInBounds_toArray, List.set_cons_zero, List.set_cons_succ]
  refine wpAnyH_take (i := 4) rfl (by kernel_rfl) (by kernel_rfl) (by kernel_rfl) (fun _ _ _ h => h) (yieldsIf_load1 (by rfl) _ _ rfl _ _ rfl one5 _ (fun w hSw => hSw)) HH.out ?_
  change wpAnyH _ _ _ _ _ _ _ (Act.put _ (some 72) _) _
  simp only [Act.put, List.setIfInBounds_toArray, List.set_cons_zero, List.set_cons_succ]
  refine wpAnyH_take (i := 5) (v := ?_) rfl (by kernel_rfl) (by kernel_rfl) (by kernel_rfl) (fun _ _ _ h => h) (Or.inl ⟨by rfl, ?_⟩) HH.out ?_
  rotate_left
  · intro w hSw; go_simp; try with_reducible rfl
  change wpAnyH _ _ _ _ _ _ _ (Act.put _ (some 73) _) _
  simp only [Act.put, List.setIfInBounds_toArray, List.set_cons_zero, List.set_cons_succ]
  refine wpAnyH_take (i := 6) (v := ?_) rfl (by kernel_rfl) (by kernel_rfl) (by kernel_rfl) (fun _ _ _ h => h) (Or.inl ⟨by rfl, ?_⟩) HH.out ?_
  rotate_left
  · intro w hSw; go_simp; try with_reducible rfl
  change wpAnyH _ _ _ _ _ _ _ (Act.put _ (some 74) _) _
  simp only [Act.put, List.setIfInBounds_toArray, List.set_cons_zero, List.set_cons_succ]
  refine wpAnyH_take (i := 7) (v := ?_) rfl (by kernel_rfl) (by kernel_rfl) (by kernel_rfl) (fun _ _ _ h => h) (Or.inl ⟨by rfl, ?_⟩) HH.out ?_
  rotate_left
  · intro w hSw; go_simp; try with_reducible rfl
  change wpAnyH _ _ _ _ _ _ _ (Act.put _ (some 75) _) _
  simp only [Act.put, List.setIfInBounds_toArray, List.set_cons_zero, List.set_cons_succ]
  refine wpAnyH_take (i := 8) (v := ?_) rfl (by kernel_rfl) (by kernel_rfl) (by kernel_rfl) (fun _ _ _ h => h) (Or.inl ⟨by rfl, ?_⟩) HH.out ?_
  rotate_left
  · intro w hSw; go_simp; try with_reducible rfl
  change wpAnyH _ _ _ _ _ _ _ (Act.put _ (some 76) _) _
  simp only [Act.put, List.setIfInBounds_toArray, List.set_cons_zero, List.set_cons_succ]
  refine wpAnyH_take (i := 9) (v := ?_) rfl (by kernel_rfl) (by kernel_rfl) (by kernel_rfl) (fun _ _ _ h => h) (Or.inl ⟨by rfl, ?_⟩) HH.out ?_
  rotate_left
  · intro w hSw; go_simp; try with_reducible rfl
  change wpAnyH _ _ _ _ _ _ _ (Act.put _ (some 77) _) _
  simp only [Act.put, List.setIfInBounds_toArray, List.set_cons_zero, List.set_cons_succ]
  refine wpAnyH_take (i := 10) (v := ?_) rfl (by kernel_rfl) (by kernel_rfl) (by kernel_rfl) (fun _ _ _ h => h) (Or.inl ⟨by rfl, ?_⟩) HH.out ?_
  rotate_left
  · intro w hSw; go_simp; try with_reducible rfl
  change wpAnyH _ _ _ _ _ _ _ (Act.put _ (some 78) _) _
  simp only [Act.put, List.setIfInBounds_toArray, List.set_cons_zero, List.set_cons_succ]
  refine wpAnyH_take (i := 11) (v := ?_) rfl (by kernel_rfl) (by kernel_rfl) (by kernel_rfl) (fun _ _ _ h => h) (Or.inl ⟨by rfl, ?_⟩) HH.out ?_
  rotate_left
  · intro w hSw; go_simp; try with_reducible rfl
  change wpAnyH _ _ _ _ _ _ _ (Act.put _ (some 79) _) _
  simp only [Act.put, List.setIfInBounds_toArray, List.set_cons_zero, List.set_cons_succ]
  refine wpAnyH_ready (rs := [12]) (by kernel_rfl) (by simp) ?_
  refine AllReadyH.cons rfl (fun K hK => ?_) AllReadyH.nil
  refine step_any rfl (op_store1 rfl onel61 rfl rfl (by rfl) (b7.ext (by (repeat (first | with_reducible exact Ext.refl _ | with_reducible assumption | refine Ext.trans ?_ (by with_reducible assumption) | refine Ext.alloc ?_ _ _ | refine Ext.drew ?_ | refine Ext.drewN ?_ _)))) (by omega) ?_)
  rintro W13 b13 m13
  refine hK.out _ _ ?_ (fun hHeld => ?_)
  · rw [b13.cell (by decide), updv_ne _ _ (by omega), updv_ne _ _ (by decide), k10]
  clear hK K HH hHeld
  have HH : Hid True := trivial
  have hHeld : True := trivial
  change wpAnyH _ _ _ _ _ _ _ (Act.put _ none _) _
  simp only [Act.put, List.setIfInBounds_toArray, List.set_cons_zero, List.set_cons_succ]
  refine wpAnyH_done (by kernel_rfl) ?_ _
  have hGf : GRow 5 1 BC (Ow own6 7) W13 v6 (l.take hi ++ List.replicate e 0) := by
    have hz := hG6.mono (w' := W13) (R' := BC) (T' := Ow own6 7) (fun _ _ _ z => z) (fun _ _ z => z) (fun b n t cc z zt => ((z.mod m7 (fun y => by have y2 : b = g := y; rw [y2] at zt; unfold Ow at zt; rw [gG6] at zt; cases zt)).ext (show Ext W7 _ by (repeat (first | with_reducible exact Ext.refl _ | with_reducible assumption | refine Ext.trans ?_ (by with_reducible assumption) | refine Ext.alloc ?_ _ _ | refine Ext.drew ?_ | refine Ext.drewN ?_ _)))).mod m13 (fun y => by have y2 : b = g := y; rw [y2] at zt; unfold Ow at zt; rw [gG6] at zt; cases zt))
    have hk := hk0.out
    rw [List.append_assoc, List.replicate_append_replicate, ← hk] at hz; exact hz
  have M13 : Mod (fun b => b = g ∨ own b = 7) w W13 := (((hM5.sub (fun x z => Or.inr z)).trans (hM6.sub (fun x z => Or.inr z))).trans (m7.sub (fun x z => Or.inl z))).trans (((Ext.mod (show Ext W7 _ by (repeat (first | with_reducible exact Ext.refl _ | with_reducible assumption | refine Ext.trans ?_ (by with_reducible assumption) | refine Ext.alloc ?_ _ _ | refine Ext.drew ?_ | refine Ext.drewN ?_ _))) _).trans m13).sub (fun x z => Or.inl z))
  skip
  go_wp2
  all_goals go_ret
  all_goals refine ⟨rfl, own6, _, b13, fun i h1 h2 => by rw [updv_ne _ _ h2, updv_ne _ _ h1], ?_, by rw [updv_ne _ _ (by omega), updv_same]; exact hGf, fun b hb => hk6 b (Nat.lt_of_lt_of_le hb hM5.size), fun b hb => hf6 b (Nat.le_trans (Nat.le_trans m7.size (Nat.le_trans (Ext.size (show Ext W7 _ by (repeat (first | with_reducible exact Ext.refl _ | with_reducible assumption | refine Ext.trans ?_ (by with_reducible assumption) | refine Ext.alloc ?_ _ _ | refine Ext.drew ?_ | refine Ext.drewN ?_ _)))) m13.size)) hb), M13⟩
  all_goals rw [updv_same]
  all_goals exact int_eq (by omega)
set_option maxRecDepth 100000 in
set_option maxHeartbeats 6400000 in
theorem mGrow (h : MRep own w g c V st (s :: sn) stale) (hst : st.frames = f :: rest) (words : Nat) (hw : words ≤ 22415) (hmore : f.mem.length < 32 * words) : Calls Hvah.prog 281 #[.pointer (some ⟨g, 1, none⟩), .int .u32 words] w fun e w' => e = .returned (.bool true) ∧ ∃ own' c' stale', MRep own' w' g c' V { st with frames := { f with mem := f.mem ++ List.replicate (32 * words - f.mem.length) 0 } :: rest } (s :: sn) stale' ∧ MStep own w own' w' := by
  rcases Nat.lt_or_ge stale.length (32 * words - f.mem.length) with hroom | hroom
  rotate_left
  · exact mGrow1 h hst words hw hmore hroom
  obtain ⟨hf, hl7⟩ := h.frame hst
  obtain ⟨cap', b', o, cc, ht⟩ := h.top2 hst
  have hmm := h.m.mem
  rw [hst, List.map_cons] at hmm
  have hms := hmm.size
  have hlb : (lowB (rest.map (fun x : AFrame => x.mem))).length ≤ 6 * 717280 := by
    have z1 := lowB_len (ms := rest.map (fun x : AFrame => x.mem)) (fun m hm => (hms m (List.mem_cons_of_mem _ hm)).1)
    rw [List.length_map] at z1
    exact Nat.le_trans z1 (Nat.mul_le_mul_right _ (by omega))
  have hml := hf.ok.mLen
  have hm32 := hf.ok.m32
  have hbuf := hmm.buf
  rw [lowB] at hbuf
  have hlen : (lowB (rest.map (fun x : AFrame => x.mem)) ++ f.mem ++ stale).length = (lowB (rest.map (fun x : AFrame => x.mem))).length + f.mem.length + stale.length := by simp; omega
  have hcap := ht.hcap
  rw [hlen] at hcap
  have fin : ∀ (e : Ending) (w1 : World), (e = .returned (.bool true) ∧ ∃ own' c', Blk w1 g 27024 105 c' ∧ (∀ i, i ≠ 1 → i ≠ 2 + (rest.length + 1) → c' i = c i) ∧ c' (2 + (rest.length + 1)) = .int .u32 ((lowB (rest.map (fun x : AFrame => x.mem))).length + f.mem.length + (32 * words - f.mem.length) : Nat) ∧ GRow 5 1 BC (Ow own' 7) w1 (c' 1) ((lowB (rest.map (fun x : AFrame => x.mem)) ++ f.mem ++ stale).take ((lowB (rest.map (fun x : AFrame => x.mem))).length + f.mem.length) ++ List.replicate (32 * words - f.mem.length) 0) ∧ (∀ b, b < w.heap.size → own' b = own b) ∧ (∀ b, w1.heap.size ≤ b → own' b = 0) ∧ Mod (fun b => b = g ∨ own b = 7) w w1) → (e = .returned (.bool true) ∧ ∃ own' c' stale', MRep own' w1 g c' V { st with frames := { f with mem := f.mem ++ List.replicate (32 * words - f.mem.length) 0 } :: rest } (s :: sn) stale' ∧ MStep own w own' w1) := by
    rintro e w1 ⟨rfl, own', c', b1, hc, hb, hG, hk, hfr, hm⟩
    have K : Keep own own' g 7 w w1 := ⟨hk, hm, h.v.tag, by decide⟩
    have et : (lowB (rest.map (fun x : AFrame => x.mem)) ++ f.mem ++ stale).take ((lowB (rest.map (fun x : AFrame => x.mem))).length + f.mem.length) = lowB (rest.map (fun x : AFrame => x.mem)) ++ f.mem := by
      rw [show (lowB (rest.map fun x : AFrame => x.mem)).length + f.mem.length = (lowB (rest.map fun x : AFrame => x.mem) ++ f.mem).length by simp, List.take_left']
      rfl
    rw [et] at hG
    refine ⟨rfl, own', c', [], h.memSet hst K hfr b1 hc _ ?_ ?_ (hf.ok.withMem _ (by simp) (by simp; omega) (by simp; omega)) (by simp; omega), ⟨hk, hm.sub (fun x hx => by rcases hx with z | z; (rw [z, h.v.tag]; decide); (rw [z]; decide))⟩⟩
    · rw [hb]; congr 2; simp; omega
    · rw [List.append_nil, ← List.append_assoc]; exact hG
  have e1 : (lowB (rest.map (fun x : AFrame => x.mem))).length + 32 * words = (lowB (rest.map (fun x : AFrame => x.mem))).length + f.mem.length + (32 * words - f.mem.length) := by omega
  rcases hbuf with hnil | ⟨b, cap, cc2, q1, q2, q3, q4, q5, q6⟩
  · have hz := congrArg List.length hnil.1
    rw [hlen] at hz
    have hz0 : ([] : List Nat).length = 0 := rfl
    rw [hz0] at hz
    exact (aGrow2N h.v.blk ht.hm ht.k10 ht.klo ht.khi hmm.buf h.v.fresh h.v.tag hlen ht.h1 hcap hw e1 hroom (by omega) (by omega) (by omega) hnil.2).mono fin
  · rw [hlen] at q1 q2
    rcases Nat.eq_zero_or_pos stale.length with hz | hz
    · exact (aGrow2E h.v.blk ht.hm ht.k10 ht.klo ht.khi hmm.buf h.v.fresh h.v.tag hlen ht.h1 hcap hw e1 hroom (by omega) b cap q2 hz q1).mono fin
    · exact (aGrow2B h.v.blk ht.hm ht.k10 ht.klo ht.khi hmm.buf h.v.fresh h.v.tag hlen ht.h1 hcap hw e1 hroom (by omega) b cap q2 hz (by rw [Nat.mul_one] at q4; exact q4) q5 (fun i hi => by have := q6 i hi; rwa [Nat.mul_one] at this) q1).mono fin
end
end Go.Proofs.YgvahwGreat
