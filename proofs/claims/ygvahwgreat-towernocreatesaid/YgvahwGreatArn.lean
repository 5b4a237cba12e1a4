import Derived.Test.YgvahwGreatRowsA
import Derived.Deep.AppendSrc
import Derived.Deep.DeepAppendWide
import Derived.Deep.RegionLaw
namespace Go.Proofs.YgvahwGreat
open Go.RowKit

/-- A growing row of n elements of sz cells. -/
def Arn (w : World) (e : TypeId) (sz : Nat) (v : Value) (n b : Nat) (c : Nat → Value) : Prop :=
  (n = 0 ∧ v = .slice none 0 0) ∨ ∃ cap, v = .slice (some ⟨b, 0, none⟩) n cap ∧ n ≤ cap ∧ cap ≤ 9223372036854775807 ∧ Blk w b (cap * sz) e c
theorem Blk.range {w : World} {g n : Nat} {t : TypeId} {c : Nat → Value} (h : Blk w g n t c) (m : Nat) (hm : m ≤ n) : ∀ j u, ((List.range m).map c)[j]? = some u → w.cell? ((⟨g, 0, none⟩ : Addr).add j) = some u := fun j u hu => by
  rw [List.getElem?_map, Option.map_eq_some_iff] at hu
  obtain ⟨k, hk, rfl⟩ := hu
  obtain ⟨h1, h2⟩ := List.getElem?_eq_some_iff.1 hk
  simp at h1 h2
  subst h2
  have := h.cell (i := j) (by omega)
  simp only [Addr.add]
  split
  · rename_i h0; subst h0; simpa using this
  · simpa using this
theorem setCells_blk {g n : Nat} {t : TypeId} : ∀ (vs : List Value) (o : Nat) (w : World) (c : Nat → Value), Blk w g n t c → o + vs.length ≤ n → Blk (w.setCells g o vs) g n t (fun i => if o ≤ i then vs.getD (i - o) (c i) else c i)
  | [], o, w, c, h, _ => by
    have : (fun i => if o ≤ i then ([] : List Value).getD (i - o) (c i) else c i) = c := by funext i; simp
    rw [this]; exact h
  | v :: vs, o, w, c, h, hn => by
    have h1 := setCells_blk vs (o + 1) (w.setCell ⟨g, o, none⟩ v) (updv c o v) (h.set o v) (by simp at hn; omega)
    rw [World.setCells]
    have e : (fun i => if o ≤ i then (v :: vs).getD (i - o) (c i) else c i) = (fun i => if o + 1 ≤ i then vs.getD (i - (o + 1)) (updv c o v i) else updv c o v i) := by
      funext i
      by_cases h2 : i = o
      · subst h2; simp [updv]; omega
      · by_cases h3 : o ≤ i
        · rw [if_pos h3, if_pos (by omega), show i - o = (i - (o + 1)) + 1 by omega]
          simp [updv, h2]
        · rw [if_neg h3, if_neg (by omega)]; simp [updv, h2]
    rw [e]; exact h1
theorem setCells_mod {S : Nat → Prop} {a : World} {g : Nat} (hg : S g ∨ a.heap.size ≤ g) : ∀ (vs : List Value) (o : Nat) (w : World), Mod S a w → Mod S a (w.setCells g o vs)
  | [], _, _, h => h
  | v :: vs, o, _, h => setCells_mod hg vs (o + 1) _ (h.setCell hg v)
theorem blk_new (w : World) (c : Array Value) (t : TypeId) (z : Value) : Blk (w.alloc (.cells c t)) w.heap.size c.size t (fun i => c.getD i z) :=
  ⟨c, heap_new _ _, rfl, fun i hi => by show c[i]? = some (c.getD i z); rw [Array.getD_eq_getD_getElem?]; simp [hi]⟩

section
variable {ops : Array Oper} {o : Oper} {a : Act} {w : World} {K : Act → World → Prop} {Q : Exit → Act → World → Prop} {E : Prop}
/-- What append leaves. -/
structure Grown (w : World) (e : TypeId) (sz : Nat) (v : Value) (n b : Nat) (c : Nat → Value) (news : List Value) (v' : Value) (W : World) (b' : Nat) (c' : Nat → Value) : Prop where
  arn : Arn W e sz v' (n + 1) b' c'
  old : ∀ j, j < n * sz → c' j = c j
  new : ∀ j u, news[j]? = some u → c' (n * sz + j) = u
  how : (b' = b ∧ (∃ cap, v = .slice (some ⟨b, 0, none⟩) n cap) ∧ Mod (· = b) w W) ∨ (b' = w.heap.size ∧ Ext w W)
  some : ∃ cap, v' = .slice (some ⟨b', 0, none⟩) (n + 1) cap
set_option maxRecDepth 100000 in
theorem run_append1 (t ty e : TypeId) (i : TypeInfo) (z : Value) (sz : Nat) (ht : Hvah.prog.underlying t = some (.slice e)) (hi : Hvah.prog.info? e = some i) (hz : i.zero = some z) (hsz : i.size = sz) (hzs : z.cells.size = sz)
    (hby : i.bytes ≤ 4096) (v : Value) (n b : Nat) (c : Nat → Value) (hA : Arn w e sz v n b c) (hn : n ≤ 1048576)
    (ad : Addr) (c1 : Nat) (news : List Value) (hl : news.length = sz) (hnews : ∀ j u, news[j]? = some u → w.cell? (ad.add j) = some u) (h1 : ∀ u ∈ news, u.oneCell' = true) :
    ∃ v' W b' c', (Builtin.append_ #[t, t] ty #[v, .slice (some ad) 1 c1]).run Hvah.prog w = .ok v' W ∧ Grown w e sz v n b c news v' W b' c' := by
  subst hsz
  have hS : Src Hvah.prog i.size t (.slice (some ad) 1 c1) 1 news w := Src.ofSlice w ht ad 1 c1 news (by omega) hnews h1
  have fits : ∀ sCap, sCap < n + 1 → Builtin.nextslicecap (n + 1) sCap * i.bytes ≤ 281474976710656 := fun sCap h =>
    growslice_fits_wide h (Nat.le_trans (Nat.mul_le_mul_left _ hby) (by omega))
  have grow : ∀ (base : Option Addr) (sCap : Nat) (olds : List Value), v = .slice base n sCap → olds = (List.range (n * i.size)).map c → (Builtin.firstCells i.size n (.slice base n sCap)).run Hvah.prog w.drew = .ok olds.toArray w.drew → sCap < n + 1 →
      ∃ v' W b' c', (Builtin.append_ #[t, t] ty #[v, .slice (some ad) 1 c1]).run Hvah.prog w = .ok v' W ∧ Grown w e i.size v n b c news v' W b' c' := fun base sCap olds hv ho hold hlt => by
    have hr := run_append_grow_src (P := Hvah.prog) w t t ty e i z ht hi hz base n sCap olds hold _ 1 news hS hlt (by omega) (fits sCap hlt)
    have hge := grownCap_ge w (n + 1) sCap e
    have hle := grownCap_le_maxLen w (n + 1) sCap e (by unfold maxLen; omega)
    obtain ⟨cap, hcap⟩ : ∃ cap, grownCap w (n + 1) sCap e = cap := ⟨_, rfl⟩
    rw [hcap] at hr hge hle
    obtain ⟨C, hC⟩ : ∃ C, C = (olds ++ news).toArray ++ Builtin.zeroCells z.cells (cap - (n + 1)) := ⟨_, rfl⟩
    rw [← hC] at hr
    have hol : olds.length = n * i.size := by rw [ho]; simp
    have hCs : C.size = cap * i.size := by
      rw [hC, Array.size_append, size_zeroCells, hzs, List.size_toArray, List.length_append, hol, hl, ← Nat.succ_mul, ← Nat.add_mul]
      congr 1; omega
    have hB := blk_new w.drew C e z
    rw [hCs] at hB
    refine ⟨_, _, w.heap.size, fun j => C.getD j z, by rw [hv]; exact hr, Or.inr ⟨cap, rfl, hge, by unfold maxLen at hle; omega, hB⟩, fun j hj => ?_, fun j u hu => ?_, Or.inr ⟨rfl, ((Ext.refl w).drew).alloc _ _⟩, ⟨cap, rfl⟩⟩
    · show C.getD j z = c j
      rw [hC, Array.getD_eq_getD_getElem?, Array.getElem?_append_left (by simp; omega), List.getElem?_toArray, List.getElem?_append_left (by omega), ho]
      simp [hj]
    · have hj : j < news.length := (List.getElem?_eq_some_iff.1 hu).1
      show C.getD (n * i.size + j) z = u
      rw [hC, Array.getD_eq_getD_getElem?, Array.getElem?_append_left (by simp; omega), List.getElem?_toArray, List.getElem?_append_right (by omega), hol, Nat.add_sub_cancel_left, hu]
      rfl
  rcases hA with ⟨rfl, rfl⟩ | ⟨cap, rfl, h2, h3, hB⟩
  · exact grow none 0 [] rfl (by simp) (by simpa using run_firstCells_none (P := Hvah.prog) w.drew i.size 0 0 0) (by omega)
  · by_cases hroom : n + 1 ≤ cap
    · have hfit : n * i.size + news.length ≤ cap * i.size := by rw [hl, ← Nat.succ_mul]; exact Nat.mul_le_mul_right _ hroom
      have hr := run_append_room_src (P := Hvah.prog) w t t ty e i ht hi b 0 n cap _ 1 news hS hroom (fun j hj => by rw [hB.cell (by omega)]; rfl) (fun j _ => hB.fz _)
      rw [Nat.zero_add] at hr
      have hB' := setCells_blk news (n * i.size) w c hB hfit
      refine ⟨_, _, b, _, hr, Or.inr ⟨cap, rfl, hroom, h3, hB'⟩, fun j hj => ?_, fun j u hu => ?_, Or.inl ⟨rfl, ⟨cap, rfl⟩, setCells_mod (S := (· = b)) (Or.inl rfl) _ _ _ (Mod.refl _ _)⟩, ⟨cap, rfl⟩⟩
      · show (if n * i.size ≤ j then _ else _) = _
        rw [if_neg (by omega)]
      · show (if n * i.size ≤ n * i.size + j then _ else _) = _
        rw [if_pos (by omega), Nat.add_sub_cancel_left, List.getD_eq_getElem?_getD, hu]; rfl
    · refine grow (some ⟨b, 0, none⟩) cap ((List.range (n * i.size)).map c) rfl rfl ?_ (by omega)
      refine run_firstCells_some w.drew i.size n ⟨b, 0, none⟩ n cap _ (by simp) ?_
      have := (Blk.drew hB).range (n * i.size) (Nat.mul_le_mul_right _ h2)
      exact this
/-- append of one element, as one step of a region that draws. -/
theorem step_append1 (hg : o.guard = none) (s x : Operand) (t : TypeId) (hop : o.op = Op.call { callee := Callee.builtin Builtin.append, args := #[s, x], argTypes := #[t, t] })
    (e : TypeId) (i : TypeInfo) (z : Value) (sz : Nat) (ht : Hvah.prog.underlying t = some (.slice e)) (hi : Hvah.prog.info? e = some i) (hz : i.zero = some z) (hsz : i.size = sz) (hzs : z.cells.size = sz)
    (hby : i.bytes ≤ 4096) (v : Value) (n b : Nat) (c : Nat → Value) (hA : Arn w e sz v n b c) (hn : n ≤ 1048576)
    (ad : Addr) (c1 : Nat) (news : List Value) (hl : news.length = sz) (hnews : ∀ j u, news[j]? = some u → w.cell? (ad.add j) = some u) (h1 : ∀ u ∈ news, u.oneCell' = true)
    (hs : a.eval s = v) (hx : a.eval x = .slice (some ad) 1 c1)
    (hK : ∀ v' W b' c', Grown w e sz v n b c news v' W b' c' → K (a.put o.dst v') W) :
    if Region.wanted o (yielded ops a.tmps) = true then Oper.wp Hvah.prog o a w K Q else E := by
  have hw : Region.wanted o (yielded ops a.tmps) = true := by simp [Region.wanted, hg]
  rw [if_pos hw]
  obtain ⟨v', W, b', c', hr, hG⟩ := run_append1 (w := w) t o.type e i z sz ht hi hz hsz hzs hby v n b c hA hn ad c1 news hl hnews h1
  unfold Oper.wp
  simp [execOp, hop, resolve, invoke, builtin, hs, hx, hr, Result.andThen]
  exact hK _ _ _ _ hG
end
end Go.Proofs.YgvahwGreat
