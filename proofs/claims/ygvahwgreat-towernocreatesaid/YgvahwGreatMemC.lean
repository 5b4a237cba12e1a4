import Derived.Test.YgvahwGreatRowsD
import Derived.Test.YgvahwGreatMachG
namespace Go.Proofs.YgvahwGreat
open Go.RowKit

/-- bs laid over l from q on. -/
def layN (l : List Nat) (q : Nat) (bs : List Nat) : List Nat := l.take q ++ bs ++ l.drop (q + bs.length)
theorem layN_len {l : List Nat} {q : Nat} {bs : List Nat} (h : q + bs.length ≤ l.length) : (layN l q bs).length = l.length := by simp [layN]; omega
theorem layN_get {l : List Nat} {q : Nat} {bs : List Nat} (h : q + bs.length ≤ l.length) (i : Nat) : (layN l q bs)[i]? = if q ≤ i ∧ i < q + bs.length then bs[i - q]? else l[i]? := by
  unfold layN
  have e : (l.take q).length = q := by simp; omega
  by_cases h1 : i < q
  · rw [List.append_assoc, List.getElem?_append_left (by omega), if_neg (by omega), List.getElem?_take, if_pos h1]
  · by_cases h2 : i < q + bs.length
    · rw [List.getElem?_append_left (by simp; omega), List.getElem?_append_right (by omega), e, if_pos ⟨by omega, h2⟩]
    · rw [List.getElem?_append_right (by simp; omega), if_neg (by omega), List.getElem?_drop]
      congr 1
      simp
      omega
section
variable {own : Nat → Nat} {w w' : World} {g m lo hi n cap b off k q : Nat} {o : Option Addr} {c cc : Nat → Value} {l bs : List Nat}
theorem TopM.write (h : TopM own w c m lo hi n cap b o cc l) (hn0 : 0 < n) (hfit : q + bs.length ≤ n) (hbs : ∀ x ∈ bs, x < 256) (hB : Blk w' b cap 5 (fun i => if q ≤ i then (bcells bs).getD (i - q) (cc i) else cc i)) :
    TopM own w' c m lo hi n cap b o (fun i => if q ≤ i then (bcells bs).getD (i - q) (cc i) else cc i) (layN l q bs) := by
  have hf : q + bs.length ≤ l.length := by rw [h.len]; exact hfit
  obtain ⟨h1, _, h3⟩ := h.blk hn0
  refine ⟨h.hm, h.k10, h.klo, h.khi, h.k1, h.ho, h.h1, h.h2, h.hn, h.hcap, fun _ => ⟨h1, hB, fun i hi => ?_⟩, by rw [layN_len hf]; exact h.len, fun x hx => ?_⟩
  · have hg := layN_get hf i
    rw [List.getElem?_eq_getElem hi] at hg
    rw [layN_len hf] at hi
    by_cases hq : q ≤ i ∧ i < q + bs.length
    · rw [if_pos hq, List.getElem?_eq_getElem (by omega)] at hg
      injection hg with hg
      rw [hg, if_pos hq.1]
      simp [bcells, List.getD, show i - q < bs.length by omega]
    · rw [if_neg hq, List.getElem?_eq_getElem hi] at hg
      injection hg with hg
      rw [hg]
      by_cases h4 : q ≤ i
      · rw [if_pos h4]
        have : (bcells bs).getD (i - q) (cc i) = cc i := by simp [bcells, List.getD, List.getElem?_eq_none (show bs.length ≤ i - q by omega)]
        rw [this]; exact h3 i hi
      · rw [if_neg h4]; exact h3 i hi
  · unfold layN at hx
    rcases List.mem_append.1 hx with hx | hx
    · rcases List.mem_append.1 hx with hx | hx
      · exact h.lt x (List.mem_of_mem_take hx)
      · exact hbs x hx
    · exact h.lt x (List.mem_of_mem_drop hx)
theorem TopM.there (h : TopM own w c m lo hi n cap b o cc l) (hfit : q + k ≤ n) (hk : 0 < k) : w.there b q k := fun j hj => by
  obtain ⟨_, hb, _⟩ := h.blk (by omega)
  have := h.hn
  exact ⟨by rw [hb.cell (by omega)]; rfl, hb.fz _⟩
/-- A row of bytes over the memory. -/
theorem TopM.lay (h : TopM own w c m lo hi n cap b o cc l) (hn0 : 0 < n) (hfit : q + bs.length ≤ n) (hbs : ∀ x ∈ bs, x < 256) :
    ∃ cc', TopM own (w.setCells b q (bcells bs)) c m lo hi n cap b o cc' (layN l q bs) ∧ Mod (· = b) w (w.setCells b q (bcells bs)) := by
  obtain ⟨_, hb, _⟩ := h.blk hn0
  have := h.hn
  exact ⟨_, h.write hn0 hfit hbs (setCells_blk (bcells bs) q w cc hb (by rw [bcells_length]; omega)), setCells_mod (S := (· = b)) (Or.inl rfl) _ _ _ (Mod.refl _ _)⟩
theorem setCells_one (w : World) (b q : Nat) (v : Value) : w.setCells b q [v] = w.setCell ⟨b, q, none⟩ v := rfl
/-- Store8. -/
theorem tStore8 (h : TopM own w c m lo hi n cap b o cc l) (hB : Blk w g 27024 105 c) (x : Nat) (hx : x < 256) (hfit : off + 1 ≤ hi - lo) :
    Calls Hvah.prog 312 #[.pointer (some ⟨g, 1, none⟩), .int .u32 off, .int .u8 x] w fun e w' => e = .returned (.bool true) ∧ ∃ cc', TopM own w' c m lo hi n cap b o cc' (layN l (lo + off) [x]) ∧ Mod (· = b) w w' := by
  have h2 := h.h2
  have HP := tPart h hB (k := 1) (by decide) hfit
  have HL : ∀ W, Ext w W → W.cell? ⟨b, lo + off, none⟩ = some (cc (lo + off)) ∧ W.frozen? ⟨b, lo + off, none⟩ = false ∧ ∃ cc', TopM own (W.setCell ⟨b, lo + off, none⟩ (.int .u8 x)) c m lo hi n cap b o cc' (layN l (lo + off) [x]) ∧ Mod (· = b) w (W.setCell ⟨b, lo + off, none⟩ (.int .u8 x)) := fun W hW => by
    have hT := h.ext hW
    obtain ⟨cc', q1, q2⟩ := hT.lay (q := lo + off) (bs := [x]) (by omega) (by simp; omega) (by simpa using hx)
    obtain ⟨_, hb, _⟩ := hT.blk (by omega)
    have := h.hn
    exact ⟨hb.cell (by omega), hb.fz _, cc', q1, (hW.mod _).trans q2⟩
  generalize lo + off = q at *
  generalize cc q = cq at *
  go_enter Hvah.func312, Hvah.ntmps312
  go_wp2_with (go_at_call 367; refine HP.mono ?_; rintro e w1 ⟨rfl, he⟩; have hL := HL w1 he; have hL1 := hL.1; have hL2 := hL.2.1; have hL3 := hL.2.2; clear hL)
  go_ret
  exact ⟨rfl, hL3⟩
set_option maxRecDepth 100000 in
/-- Load32. -/
theorem tLoad32 (h : TopM own w c m lo hi n cap b o cc l) (hB : Blk w g 27024 105 c) (hfit : off + 32 ≤ hi - lo) :
    Calls Hvah.prog 310 #[.pointer (some ⟨g, 1, none⟩), .int .u32 off] w fun e w' => e = .returned (.tuple #[.agg (bcells ((l.drop (lo + off)).take 32)).toArray, .bool true]) ∧ Ext w w' := by
  have HP := fun W (hW : Ext w W) => tPart (h.ext hW) (hB.ext hW) (k := 32) (by decide) hfit
  have HBS := h.bs (k := 32) (by decide) hfit
  have hll : ((l.drop (lo + off)).take 32).length = 32 := by have := h.h2; have := h.len; simp; omega
  generalize (l.drop (lo + off)).take 32 = L at *
  have HR : ∀ W, Ext w W → RowIn W b (lo + off) (bcells L).toArray := fun W hW i v hv => by
    obtain ⟨b', off', e1, _, hbl, hc⟩ := HBS.spot (fun q => by rw [q] at hll; cases hll)
    injection e1 with e1
    injection e1 with e1 e2
    subst e1; subst e2
    simp [bcells] at hv
    obtain ⟨x, hx, rfl⟩ := hv
    obtain ⟨hi, rfl⟩ := List.getElem?_eq_some_iff.1 hx
    rw [hW.rc _ _ hbl]
    exact hc i hi
  generalize lo + off = q at *
  have hE : Ext w (w.alloc (.cells (zrow 32) 32)) := (Ext.refl w).alloc _ _
  have hZ := Ext.refl (w.alloc (.cells (zrow 32) 32))
  have hone : ∀ v ∈ (bcells L).toArray.toList, v.oneCell' = true := fun v hv => by
    simp [bcells] at hv
    obtain ⟨x, _, rfl⟩ := hv
    rfl
  have hsz : (bcells L).toArray.size = 32 := by simp [bcells, hll]
  have hAr := fun W => run_arrayAt W 32 5 32 32 32 (some ⟨b, q, none⟩) under27 (Nat.le_refl _)
  go_enter Hvah.func310, Hvah.ntmps310
  go_wp2_with (first | (go_at_call 367; refine (HP _ hE).mono ?_; rintro e w1 ⟨rfl, he⟩; replace hE := hE.trans he; replace hZ := hZ.trans he) | ((with_reducible (refine Veil.out ?_; apply wl_loadR rt27)); (case hx => rfl); (case hr => exact HR _ hE); (case hn => exact hsz)) | ((with_reducible (refine Veil.out ?_; apply wl_storeR rt27)); (case hx => rfl); (case hy => rfl); (case hn => exact hsz); (case hth => exact boxes_there _ (zrow 32) 32 _ _ rfl hZ); (case h1 => exact hone); refine w_gen (fun W => Ext w W ∧ RowIn W w.heap.size 0 (bcells L).toArray) ⟨ext_setRow hE (Nat.le_refl _), row_set (by rw [hsz]; exact boxes_there _ (zrow 32) 32 _ _ rfl hZ)⟩ ?_; rintro W5 ⟨hE5, hR5⟩))
  exact post_row2 rt27 _ hsz Hvah.results310 rfl rfl hR5 rfl ⟨rfl, hE5⟩
end
end Go.Proofs.YgvahwGreat
