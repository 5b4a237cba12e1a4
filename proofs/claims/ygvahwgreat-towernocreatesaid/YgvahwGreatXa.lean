import Derived.Test.YgvahwGreatIa
import Derived.Test.YgvahwGreatIb
import Derived.Test.YgvahwGreatPk0
namespace Go.Proofs.YgvahwGreat
open Go.RowKit
set_option linter.unusedSimpArgs false
set_option linter.unusedVariables false
/-! What the road of TowerNoCreate has beyond Tower: laws. -/
/-- Bytes in a block of their own, new since n0 blocks. -/
def OwB (n0 : Nat) (w : World) (v : Value) (l : List Nat) : Prop :=
  (l = [] ∧ v = .slice none 0 0) ∨ ∃ B, v = .slice (some ⟨B, 0, none⟩) l.length l.length ∧ l.length ≤ 140737488355328 ∧ n0 ≤ B ∧ (∀ d ∈ l, d < 256) ∧ Blk w B l.length 5 (fun i => .int .u8 ((l.getD i 0 : Nat) : Int))
theorem OwB.ext {n0 : Nat} {w w' : World} {v : Value} {l : List Nat} (h : OwB n0 w v l) (e : Ext w w') : OwB n0 w' v l := by
  rcases h with h | ⟨B, h1, h2, h3, h4, h5⟩
  · exact Or.inl h
  · exact Or.inr ⟨B, h1, h2, h3, h4, h5.ext e⟩
theorem OwB.less {n0 n1 : Nat} {w : World} {v : Value} {l : List Nat} (h : OwB n1 w v l) (hn : n0 ≤ n1) : OwB n0 w v l := by
  rcases h with h | ⟨B, h1, h2, h3, h4, h5⟩
  · exact Or.inl h
  · exact Or.inr ⟨B, h1, h2, Nat.le_trans hn h3, h4, h5⟩
/-- One block has one type. -/
theorem blk_type {w : World} {b n m : Nat} {t t' : TypeId} {c c' : Nat → Value} (h : Blk w b n t c) (k : Blk w b m t' c') : t = t' := by
  obtain ⟨a, h1, _⟩ := h
  obtain ⟨a', k1, _⟩ := k
  rw [h1] at k1
  injection k1 with k1
  injection k1 with _ k1
theorem OwB.mod {n0 : Nat} {w w' : World} {v : Value} {l : List Nat} {b n : Nat} {t : TypeId} {c : Nat → Value} (h : OwB n0 w v l) (hb : Blk w b n t c) (ht : t ≠ 5) (m : Mod (· = b) w w') : OwB n0 w' v l := by
  rcases h with h | ⟨B, h1, h2, h3, h4, h5⟩
  · exact Or.inl h
  · exact Or.inr ⟨B, h1, h2, h3, h4, h5.mod m (fun q => by subst q; exact ht (blk_type hb h5))⟩
theorem OwB.one {n0 : Nat} {w : World} {v : Value} {l : List Nat} (h : OwB n0 w v l) : v.oneCell' = true := by
  rcases h with ⟨_, rfl⟩ | ⟨B, rfl, _⟩ <;> rfl
theorem OwB.few {n0 : Nat} {w : World} {v : Value} {l : List Nat} (h : OwB n0 w v l) : l.length ≤ 140737488355328 := by
  rcases h with ⟨rfl, _⟩ | ⟨B, _, h, _⟩
  · decide
  · exact h
theorem OwB.nlx {n0 : Nat} {w : World} {v : Value} {l : List Nat} (h : OwB n0 w v l) : NLx (fun _ => False) w v l := by
  rcases h with ⟨rfl, rfl⟩ | ⟨B, rfl, h2, h3, h4, h5⟩
  · exact ⟨none, 0, rfl, Nat.le_refl _, by decide, ⟨fun d hd => absurd hd (List.not_mem_nil), fun q => absurd rfl q⟩⟩
  · refine ⟨_, _, rfl, Nat.le_refl _, by omega, ⟨h4, fun _ => ⟨B, 0, rfl, fun q => q, h5.lt, fun i hi => ?_⟩⟩⟩
    rw [Nat.zero_add, h5.cell hi]
    simp [List.getD_eq_getElem?_getD, hi]
section
variable {ops : Array Oper} {rest : List Oper} {a : Act} {Q : Exit → Act → World → Prop} {w : World} {dst : Option Tmp} {ty : TypeId} {pos : String} {aft : Array Edge} {α : Type}
/-- x = append(x, y), where what an element stands for hangs on the world. -/
theorem wl_appX {R : World → (Nat → Value) → Nat → α → Prop} {s x : Operand} {t e : TypeId} {sz : Nat} {v : Value} {l : List α} {B c1 : Nat} {r : Array Value} {w0 : World} {y : α} (st : SlT t e sz) (hG : GRow e sz (R w) (fun b => w0.heap.size ≤ b) w v l) (e0 : Ext w0 w) (hn : l.length ≤ 1048576) (hs : a.eval s = v) (hx : a.eval x = .slice (some ⟨B, 0, none⟩) 1 c1) (hr : r.size = sz) (hone : Ones r) (hc : ∀ j u, r.toList[j]? = some u → w.cell? ((⟨B, 0, none⟩ : Addr).add j) = some u)
    (hy : ∀ c o, (∀ j u, r[j]? = some u → c (o + j) = u) → R w c o y) (hRm : ∀ W c c' o y, (∀ j, j < sz → c' (o + j) = c (o + j)) → R W c o y → R W c' o y)
    (hRe : ∀ W, Ext w W → ∀ c o y, R w c o y → R W c o y) (hRb : ∀ W b n c', Blk w b n e c' → Mod (· = b) w W → ∀ c o y, R w c o y → R W c o y)
    (h : ∀ v' W, GRow e sz (R W) (fun b => w0.heap.size ≤ b) W v' (l ++ [y]) → Ext w0 W → wpList Hvah.prog ops Q rest (a.put dst v') W) : Veil (wpList Hvah.prog ops Q (⟨dst, .call { callee := Callee.builtin Builtin.append, args := #[s, x], argTypes := #[t, t] }, ty, pos, aft, none⟩ :: rest) a w) := by
  obtain ⟨i, z, ht, hi, hz, hsz, hzs, hby⟩ := st.ex
  obtain ⟨b, c, hA, hT, hrows⟩ := hG.arn
  refine wl_append1 e i z sz ht hi hz hsz hzs hby v l.length b c hA hn ⟨B, 0, none⟩ c1 r.toList (by simpa using hr) hc hone hs hx ?_
  intro v' W b' c' hGr
  have hRW : ∀ c o y, R w c o y → R W c o y := by
    rcases hGr.how with ⟨rfl, ⟨cap, hv⟩, hm⟩ | ⟨_, he⟩
    · rcases hA with ⟨q, q2⟩ | ⟨cap', q1, _, _, hB⟩
      · rw [q2] at hv; cases hv
      · exact hRb W _ _ _ hB hm
    · exact hRe W he
  refine h v' W (GRow.push (x := y) (R := R w) (R' := R W) hGr hrows (fun c c' o y hcc k => hRm W c c' o y hcc (hRW c o y k)) (fun hnew => hRW _ _ _ (hy c' _ (fun j u hu => hnew j u (by simpa using hu)))) ?_) ?_
  · rcases hGr.how with ⟨rfl, ⟨cap, hv⟩, _⟩ | ⟨rfl, _⟩
    · exact hT cap hv
    · exact e0.size
  · rcases hGr.how with ⟨rfl, ⟨cap, hv⟩, hm⟩ | ⟨_, he⟩
    · exact e0.trans_mod hm (fun i hi => by rw [hi]; exact hT cap hv)
    · exact e0.trans he
/-- A slice of one cell. -/
theorem wl_build1v {y : Operand} {t : TypeId} (e : TypeId) (i : TypeInfo) (z v : Value) (ht : Hvah.prog.underlying t = some (.slice e)) (hi : Hvah.prog.info? e = some i) (hz : i.zero = some z) (hsz : i.size = 1) (hzs : z.cells.size = 1) (hy : a.eval y = v) (h1 : v.oneCell' = true)
    (h : ∀ B W, Ext w W → W.cell? ⟨B, 0, none⟩ = some v → w.heap.size ≤ B → wpList Hvah.prog ops Q rest (a.put dst (.slice (some ⟨B, 0, none⟩) 1 1)) W) : Veil (wpList Hvah.prog ops Q (⟨dst, .buildSlice t 1 #[(0, y)], ty, pos, aft, none⟩ :: rest) a w) := by
  refine Veil.mk ?_
  refine wl_any rfl ?_
  have hcs := one_cells h1
  have hf : Instr.fill (fun i => some (i * 1, 1)) ((Array.range 1).map (z.cells[· % z.cells.size]!)) [(0, v)] = some #[v] := by
    simp [Instr.fill, hcs]
    refine Array.ext (by simp) (fun i h1 h2 => ?_)
    have : i = 0 := by simpa using h2
    subst this
    simp
  have hrun : (Instr.buildSlice t 1 #[(0, v)]).run Hvah.prog w = .ok (.slice (some ⟨w.heap.size, 0, none⟩) 1 1) (w.alloc (.cells #[v] e)) := by
    unfold Instr.buildSlice
    simp [Sem.run_bind, run_underlying ht, sizeOf, typeInfo, hi, hsz, zeroValue, hz, newRow, newObj]
    simp at hf
    simp [hf]
    rfl
  unfold Oper.wp
  simp [execOp, hy, hrun, Result.andThen]
  exact h _ _ ((Ext.refl w).alloc _ _) (row_new w #[v] e 0 v rfl) (Nat.le_refl _)
/-- A slice of one struct. -/
theorem wl_build1X {y : Operand} {t e : TypeId} {sz : Nat} {r : Array Value} (st : SlT t e sz) (hy : a.eval y = .agg r) (hr : r.size = sz)
    (h : ∀ B W, Ext w W → (∀ j u, r.toList[j]? = some u → W.cell? ((⟨B, 0, none⟩ : Addr).add j) = some u) → w.heap.size ≤ B → wpList Hvah.prog ops Q rest (a.put dst (.slice (some ⟨B, 0, none⟩) 1 1)) W) : Veil (wpList Hvah.prog ops Q (⟨dst, .buildSlice t 1 #[(0, y)], ty, pos, aft, none⟩ :: rest) a w) := by
  obtain ⟨i, z, ht, hi, hz, hsz, hzs, hby⟩ := st.ex
  refine Veil.mk (wl_build1 e i z sz ht hi hz hsz hzs st.pos st.few r hr hy (h _ _ ((Ext.refl w).alloc _ _) (fun j u hu => ?_) (Nat.le_refl _)))
  rw [Addr.add_mid]
  exact row_new w r e j u (by simpa using hu)
end
theorem GRow.el {α : Type} {ty : TypeId} {sz : Nat} {R : (Nat → Value) → Nat → α → Prop} {T : Nat → Prop} {w : World} {v : Value} {l : List α} (h : GRow ty sz R T w v l) : EL sz R (fun _ => False) w v l := by
  rcases h with ⟨rfl, rfl⟩ | ⟨b, cap, c, h1, h2, h3, h4, h5, h6⟩
  · exact Or.inl ⟨rfl, none, rfl⟩
  · refine Or.inr ⟨b, 0, cap, c, h1, h2, h3, fun q => q, h4.lt, fun i hi => ?_, h6⟩
    rw [Nat.zero_add, h4.cell (Nat.lt_of_lt_of_le hi (Nat.mul_le_mul_right _ h2))]
theorem aat_lit {r : Array Value} {o a : Nat} (h : (r.toList.drop o).take 20 = (av a).toList) : AAt (cf r) o a := fun i v hv => by
  have h1 : (av a).toList[i]? = some v := by simpa using hv
  rw [← h] at h1
  have hi : i < 20 := by
    have := (List.getElem?_eq_some_iff.1 h1).1
    rw [List.length_take] at this; omega
  rw [List.getElem?_take_of_lt hi, List.getElem?_drop] at h1
  exact cf_get (by simpa using h1)
theorem bat_lit {r : Array Value} {o a : Nat} (h : (r.toList.drop o).take 32 = (bw a).toList) : BAt (cf r) o a := fun i v hv => by
  have h1 : (bw a).toList[i]? = some v := by simpa using hv
  rw [← h] at h1
  have hi : i < 32 := by
    have := (List.getElem?_eq_some_iff.1 h1).1
    rw [List.length_take] at this; omega
  rw [List.getElem?_take_of_lt hi, List.getElem?_drop] at h1
  exact cf_get (by simpa using h1)
/-! addrNo, sender -/
theorem av_byte {n : Nat} (hn : n < 256) : av n = #[.int .u8 0, .int .u8 0, .int .u8 0, .int .u8 0, .int .u8 0, .int .u8 0, .int .u8 0, .int .u8 0, .int .u8 0, .int .u8 0, .int .u8 0, .int .u8 0, .int .u8 0, .int .u8 0, .int .u8 0, .int .u8 0, .int .u8 0, .int .u8 0, .int .u8 0, .int .u8 (n : Int)] := by
  have hl : beL 20 n = List.replicate 19 0 ++ [n] := by
    refine bev_inj _ _ (digits_beL 20 _) (fun d hd => ?_) (by rw [len20 (by omega)]; rfl) ?_
    · rcases List.mem_append.1 hd with q | q
      · rw [List.eq_of_mem_replicate q]; decide
      · rw [List.mem_singleton.1 q]; exact hn
    · rw [bev_beL]; simp [bev, List.replicate, val]
  unfold av
  rw [hl]; rfl
theorem b31n (n : Nat) : ∀ w, (Instr.build 31 ([(19, .int .u8 (n : Nat))] : List (Nat × Value)).toArray).run Hvah.prog w = .ok (.agg #[.int .u8 0, .int .u8 0, .int .u8 0, .int .u8 0, .int .u8 0, .int .u8 0, .int .u8 0, .int .u8 0, .int .u8 0, .int .u8 0, .int .u8 0, .int .u8 0, .int .u8 0, .int .u8 0, .int .u8 0, .int .u8 0, .int .u8 0, .int .u8 0, .int .u8 0, .int .u8 (n : Nat)]) w := fun w => by kernel_rfl
set_option maxRecDepth 100000 in
set_option maxHeartbeats 6400000 in
theorem lAddrNo (n : Nat) (hn : n < 256) (w : World) : Calls Hvah.prog 16 #[.int .u8 (n : Nat)] w fun e w' => e = .returned (.agg (av n)) ∧ Ext w w' := by
  have hb := b31n n
  rw [← av_byte hn] at hb
  have h20 : n < 2 ^ 160 := by omega
  go_enter Hvah.func16, Hvah.ntmps16
  go_wp2_with (first | ((with_reducible (refine Veil.out ?_; apply wl_allocA)); rintro B W1 c e1 b1 a1 g1) | ((with_reducible (refine Veil.out ?_; apply wl_buildV hb)); (case he => first | rfl | simp [Act.eval])) | ((with_reducible (refine Veil.out ?_; apply wl_storeA)); (case hx => rfl); (case hy => rfl); (case hv => exact h20); (case hB => exact b1); (case hi => decide); rintro W2 c2 b2 a2 k2 m2))
  refine post_A Hvah.results16 rfl b2 a2 h20 (by decide) rfl ⟨rfl, Ext.trans_mod e1 m2 (fun q hq => by have hq2 : q = B := hq; rw [hq2]; exact g1)⟩
set_option maxRecDepth 100000 in
set_option maxHeartbeats 6400000 in
theorem lSender (w : World) : Calls Hvah.prog 18 #[] w fun e w' => e = .returned (.agg (av 240)) ∧ Ext w w' := by
  have H := fun W => lAddrNo 240 (by decide) W
  obtain ⟨x, hx⟩ : ∃ x, Hid (av 240 = av x ∧ x < 2 ^ 160) := ⟨240, rfl, by decide⟩
  rw [hx.out.1] at H ⊢
  have h20 := hx.out.2
  go_enter Hvah.func18, Hvah.ntmps18
  go_wp2_with (first | ((with_reducible (refine Veil.out ?_; apply wl_allocA)); rintro B W1 c e1 b1 a1 g1) | (go_at_call 16; refine (H _).mono ?_; rintro e w2 ⟨rfl, e2⟩) | ((with_reducible (refine Veil.out ?_; apply wl_storeA)); (case hx => rfl); (case hy => rfl); (case hv => exact h20); (case hB => exact b1.ext e2); (case hi => decide); rintro W3 c3 b3 a3 k3 m3))
  refine post_A Hvah.results18 rfl b3 a3 h20 (by decide) rfl ⟨rfl, Ext.trans_mod (e1.trans e2) m3 (fun q hq => by have hq2 : q = B := hq; rw [hq2]; exact g1)⟩
section
variable {w : World} {v : Value} {l : List Nat} {O : Nat → Prop}
set_option maxRecDepth 100000 in
set_option maxHeartbeats 6400000 in
/-- law.copyBytes -/
theorem lCopyBytes (h : NLx O w v l) (hle : l.length ≤ 140737488355328) : Calls Hvah.prog 17 #[v] w fun e w' => ∃ r, e = .returned r ∧ OwB w.heap.size w' r l ∧ Ext w w' := by
  obtain ⟨o, c, rfl, hc, hm, hb⟩ := h
  have hd := hb.lt
  cases o with
  | none =>
    have hl : l = [] := Classical.byContradiction fun q => by obtain ⟨_, _, q1, _⟩ := hb.spot q; cases q1
    subst hl
    have hnil := fun W => Lib.run_eql_slice_nil (P := Hvah.prog) W 23 5 none 0 c 0 0 Hvah.underlying23
    go_enter Hvah.func17, Hvah.ntmps17
    go_wp2
    go_ret
    exact ⟨_, rfl, Or.inl ⟨rfl, rfl⟩, Ext.refl _⟩
  | some ad =>
    have hnil := fun W => Lib.run_eql_slice_nil (P := Hvah.prog) W 23 5 (some ad) l.length c 0 0 Hvah.underlying23
    by_cases hne : l = []
    · subst hne
      clear hnil
      have hnil := fun W => Lib.run_eql_slice_nil (P := Hvah.prog) W 23 5 (some ad) 0 c 0 0 Hvah.underlying23
      show Calls Hvah.prog 17 #[.slice (some ad) 0 c] w _
      go_enter Hvah.func17, Hvah.ntmps17
      go_wp2_with (first
        | (at_make; refine wl_make_bytes Hvah.underlying23 0 rfl rfl (by decide) ?_)
        | ((with_reducible (refine Veil.out ?_; apply wl_copy0 Hvah.underlying23)); (case hd => rfl); (case hs => rfl); (case hl => rfl)))
      go_ret
      refine ⟨_, rfl, Or.inr ⟨w.heap.size, rfl, by decide, Nat.le_refl _, fun d hd => absurd hd (List.not_mem_nil), ?_⟩, (Ext.refl _).alloc _ _⟩
      exact (Blk.new w (zrow 0) 5).same (fun i hi => absurd hi (Nat.not_lt_zero _))
    · have hl : ((l.length : Int) == 0) = false := by
        have := List.length_pos_iff.2 hne
        simp; omega
      go_enter Hvah.func17, Hvah.ntmps17
      go_wp2_with (first
        | (at_make; refine wl_make_bytes Hvah.underlying23 l.length rfl rfl hle ?_)
        | ((with_reducible (refine Veil.out ?_; apply wl_copy_bytes Hvah.underlying23 (L := List.replicate l.length 0) (t := 5) (l := l))); (case hd => rfl); (case hs => rfl); (case hg => exact heap_new _ _); (case hl => simp); (case hsrc => exact (hb.ext ((Ext.refl _).alloc _ _)).src hne); (case hfit => simp)))
      go_ret
      refine ⟨_, rfl, Or.inr ⟨w.heap.size, rfl, hle, Nat.le_refl _, hd, ?_⟩, ((Ext.refl _).alloc _ _).setRow (Nat.le_refl _) _⟩
      refine ⟨(bcells l).toArray, by rw [setRow_heap _ _ _ _ _ _ (heap_new _ _)], by simp [bcells_length], fun i hi => ?_⟩
      simp [bcells, List.getD_eq_getElem?_getD, hi]
end
end Go.Proofs.YgvahwGreat
