import Derived.Test.YgvahwGreatVt0
import Derived.Test.YgvahwGreatVaultZ
import Derived.Test.YgvahwGreatRowsK
import Derived.Test.YgvahwGreatRowsN
import Derived.Test.YgvahwGreatKc
namespace Go.Proofs.YgvahwGreat
open Go.RowKit
set_option linter.unusedSimpArgs false
theorem oneE4 : OneT 4 := oneT_of (by kernel_rfl) (by kernel_rfl)
theorem oneE21 : OneT 21 := oneT_of (by kernel_rfl) (by kernel_rfl)
theorem oneE26 : OneT 24 := oneT_of (by kernel_rfl) (by kernel_rfl)
theorem oneE32 : OneT 23 := oneT_of (by kernel_rfl) (by kernel_rfl)
theorem oneE44 : OneT 49 := oneT_of (by kernel_rfl) (by kernel_rfl)
theorem oneE77 : OneT 90 := oneT_of (by kernel_rfl) (by kernel_rfl)
theorem oneE78 : OneT 91 := oneT_of (by kernel_rfl) (by kernel_rfl)
theorem oneE80 : OneT 93 := oneT_of (by kernel_rfl) (by kernel_rfl)
theorem oneE82 : OneT 95 := oneT_of (by kernel_rfl) (by kernel_rfl)
theorem oneE83 : OneT 96 := oneT_of (by kernel_rfl) (by kernel_rfl)
theorem under80e : Hvah.prog.underlying 93 = some (.slice 227) := by kernel_rfl
def z219e : Array Value := #[.int .u8 0, .int .i32 0, .int .u64 0, .int .u64 0, .int .u64 0, .int .u64 0, .int .u64 0, .slice none 0 0, .bool false]
theorem el219 : ElT 227 9 z219e := ⟨⟨Hvah.t227, .agg z219e, by kernel_rfl, by kernel_rfl, rfl, by kernel_rfl, by decide +kernel⟩, rfl, by decide⟩
section
variable {ops : Array Oper} {rest : List Oper} {a : Act} {Q : Exit → Act → World → Prop} {w : World} {dst : Option Tmp} {ty : TypeId} {pos : String} {aft : Array Edge}
/-- clear of a row of elements of any kind. -/
theorem wl_clearG {d : Operand} {dT e tt : TypeId} {b n1 c1 N sz : Nat} {z : Array Value} {c : Nat → Value} (hu : Hvah.prog.underlying dT = some (.slice e)) (el : ElT e sz z) (hz1 : Ones z) (hd : a.eval d = .slice (some ⟨b, 0, none⟩) n1 c1) (hB : Blk w b N tt c) (hN : n1 * sz ≤ N)
    (h : ∀ W, Mod (· = b) w W → wpList Hvah.prog ops Q rest (a.put dst (.tuple #[])) W) : Veil (wpList Hvah.prog ops Q (⟨dst, .call ⟨.builtin .clear, #[d], #[dT]⟩, ty, pos, aft, none⟩ :: rest) a w) := by
  refine Veil.mk ?_
  refine wl_any rfl ?_
  rcases Nat.eq_zero_or_pos n1 with q | q
  · subst q
    have hr : (Builtin.clear_ #[dT] ty #[.slice (some ⟨b, 0, none⟩) 0 c1]).run Hvah.prog w = .ok (.tuple #[]) w := by
      simp [Builtin.clear_, run_underlying hu]
    unfold Oper.wp
    simp [execOp, resolve, invoke, builtin, hd, hr, Result.andThen]
    exact h _ (Mod.refl _ _)
  · obtain ⟨i, zv, g1, g2, g3, g4, g5⟩ := el.ex
    have hsz := el.size
    have hp := el.pos
    obtain ⟨zl, hzl⟩ : ∃ zl, zl = (Builtin.zeroCells zv.cells n1).toList := ⟨_, rfl⟩
    have hlen : zl.length = n1 * sz := by rw [hzl, g3]; simp [Builtin.zeroCells, hsz]
    have hone : ∀ v ∈ zl, v.oneCell' = true := fun v hv => by
      rw [hzl, g3] at hv
      simp only [Builtin.zeroCells, Array.toList_map, Array.toList_range, List.mem_map, List.mem_range] at hv
      obtain ⟨j, hj, rfl⟩ := hv
      have hjz : j % z.size < z.size := Nat.mod_lt _ (by omega)
      have := hz1.get hjz
      simpa [cf, Array.getD_eq_getD_getElem?, hjz] using this
    have hth : w.there b 0 (n1 * sz) := hB.there (by omega)
    have hst := run_storeCells_cells (P := Hvah.prog) b 0 zl 0 w (fun j hj => by simpa using (hth j (by rw [hlen] at hj; exact hj)).1) (fun j hj => by simpa using (hth j (by rw [hlen] at hj; exact hj)).2) hone
    simp only [Nat.add_zero] at hst
    have hr : (Builtin.clear_ #[dT] ty #[.slice (some ⟨b, 0, none⟩) n1 c1]).run Hvah.prog w = .ok (.tuple #[]) (w.setCells b 0 zl) := by
      obtain ⟨m, rfl⟩ : ∃ m, n1 = m + 1 := ⟨n1 - 1, by omega⟩
      rw [hzl] at hst
      simp [Builtin.clear_, run_underlying hu, zeroValue, typeInfo, g1, g2, hst, hzl]
    unfold Oper.wp
    simp [execOp, resolve, invoke, builtin, hd, hr, Result.andThen]
    exact h _ (setCells_mod (S := (· = b)) (Or.inl rfl) zl 0 w (Mod.refl _ _))
theorem wl_clearG0 {d : Operand} {dT e : TypeId} {c1 : Nat} (hu : Hvah.prog.underlying dT = some (.slice e)) (hd : a.eval d = .slice none 0 c1)
    (h : wpList Hvah.prog ops Q rest (a.put dst (.tuple #[])) w) : Veil (wpList Hvah.prog ops Q (⟨dst, .call ⟨.builtin .clear, #[d], #[dT]⟩, ty, pos, aft, none⟩ :: rest) a w) := by
  refine Veil.mk ?_
  refine wl_any rfl ?_
  have hr : (Builtin.clear_ #[dT] ty #[.slice none 0 c1]).run Hvah.prog w = .ok (.tuple #[]) w := by
    simp [Builtin.clear_, run_underlying hu]
  unfold Oper.wp
  simp [execOp, resolve, invoke, builtin, hd, hr, Result.andThen]
  exact h
end
/-- A slot behind the transaction. -/
def ESlot.rest (la : List EAcct) (s : ESlot) : ESlot := ⟨s.acct, s.key, if (eA la s.acct).gone then 0 else s.val, if (eA la s.acct).gone then 0 else s.val, false⟩
/-- An account behind the transaction. -/
def EAcct.rest (x : EAcct) : EAcct := ⟨x.addr, if x.gone then 0 else x.nonce, x.bal, if x.gone then [] else x.code, false, false, false⟩
/-- The first n are changed. -/
def mapN {α : Type} (f : α → α) (n : Nat) (l : List α) : List α := l.mapIdx fun j x => if j < n then f x else x
theorem mapN_len {α : Type} (f : α → α) (n : Nat) (l : List α) : (mapN f n l).length = l.length := by unfold mapN; simp
theorem mapN_get {α : Type} (f : α → α) (n : Nat) (l : List α) (i : Nat) (h : i < (mapN f n l).length) (h' : i < l.length) : (mapN f n l)[i] = if i < n then f l[i] else l[i] := by
  have e : (mapN f n l)[i]? = some (if i < n then f l[i] else l[i]) := by
    unfold mapN
    rw [List.getElem?_mapIdx, List.getElem?_eq_getElem h']
    rfl
  exact (List.getElem?_eq_some_iff.1 e).2
theorem mapN_zero {α : Type} (f : α → α) (l : List α) : mapN f 0 l = l := by
  refine List.ext_getElem (mapN_len f 0 l) (fun i h1 h2 => ?_)
  rw [mapN_get f 0 l i h1 h2, if_neg (Nat.not_lt_zero _)]
theorem mapN_all {α : Type} (f : α → α) (l : List α) : mapN f l.length l = l.map f := by
  refine List.ext_getElem (by rw [mapN_len, List.length_map]) (fun i h1 h2 => ?_)
  have h3 : i < l.length := by rwa [mapN_len] at h1
  rw [mapN_get f _ l i h1 h3, if_pos h3, List.getElem_map]
theorem mapN_step {α : Type} (f : α → α) (l : List α) {i : Nat} (h : i < l.length) : mapN f (i + 1) l = (mapN f i l).set i (f l[i]) := by
  refine List.ext_getElem (by rw [List.length_set, mapN_len, mapN_len]) (fun j h1 h2 => ?_)
  have h3 : j < l.length := by rwa [mapN_len] at h1
  rw [mapN_get f _ l j h1 h3, List.getElem_set]
  by_cases e : i = j
  · subst e; rw [if_pos (Nat.lt_succ_self _), if_pos rfl]
  · rw [if_neg e, mapN_get f i l j (by rw [mapN_len]; exact h3) h3]
    by_cases q : j < i
    · rw [if_pos q, if_pos (by omega)]
    · rw [if_neg q, if_neg (by omega)]
theorem mapN_cur {α : Type} (f : α → α) (l : List α) {i : Nat} (h : i < l.length) (h' : i < (mapN f i l).length) : (mapN f i l)[i] = l[i] := by rw [mapN_get f i l i h' h, if_neg (Nat.lt_irrefl _)]
/-- What Export reads. -/
structure XR (own : Nat → Nat) (w : World) (g : Nat) (c : Nat → Value) (la : List EAcct) (ls : List ESlot) : Prop where
  blk : Blk w g 27024 105 c
  accts : GRow 176 29 (AcctC (Mu own) w) (Ow own 1) w (c 2435) la
  slots : GRow 185 14 SlotC (Ow own 2) w (c 2436) ls
  nA : la.length ≤ 2560
  nS : ls.length ≤ 2560
theorem VRep.xr {own : Nat → Nat} {w : World} {g : Nat} {c : Nat → Value} {V : EV} (h : VRep own w g c V) : XR own w g c V.accts V.slots := ⟨h.blk, h.accts, h.slots, h.nA, h.nS⟩
theorem wat_zero {c : Nat → Value} {o : Nat} : WAt (layv c o #[.int .u64 0, .int .u64 0, .int .u64 0, .int .u64 0]) o 0 := by
  refine ⟨?_, ?_, ?_, ?_⟩
  · have := layv_in c o #[.int .u64 0, .int .u64 0, .int .u64 0, .int .u64 0] (j := 0) (by decide); rw [Nat.add_zero] at this; rw [this]; rfl
  · rw [layv_in c o #[.int .u64 0, .int .u64 0, .int .u64 0, .int .u64 0] (j := 1) (by decide)]; rfl
  · rw [layv_in c o #[.int .u64 0, .int .u64 0, .int .u64 0, .int .u64 0] (j := 2) (by decide)]; rfl
  · rw [layv_in c o #[.int .u64 0, .int .u64 0, .int .u64 0, .int .u64 0] (j := 3) (by decide)]; rfl
theorem WAt.sameE {c c' : Nat → Value} {o x : Nat} (h : WAt c o x) (hc : ∀ j, j < 4 → c' (o + j) = c (o + j)) : WAt c' o x := by
  refine ⟨?_, ?_, ?_, ?_⟩
  · have := hc 0 (by decide); rw [Nat.add_zero] at this; rw [this]; exact h.c0
  · rw [hc 1 (by decide)]; exact h.c1
  · rw [hc 2 (by decide)]; exact h.c2
  · rw [hc 3 (by decide)]; exact h.c3
section
variable {own : Nat → Nat} {w : World} {g : Nat} {c : Nat → Value} {V : EV}
theorem z219one : Ones z219e := ones_of (fun i hi => by
  have hi2 : i < 9 := hi
  rcases (show i = 0 ∨ i = 1 ∨ i = 2 ∨ i = 3 ∨ i = 4 ∨ i = 5 ∨ i = 6 ∨ i = 7 ∨ i = 8 by omega) with rfl | rfl | rfl | rfl | rfl | rfl | rfl | rfl | rfl <;> rfl)
theorem XR.keep {la : List EAcct} {ls : List ESlot} {w' : World} {c' : Nat → Value} {S : Nat → Prop} (h : XR own w g c la ls) (m : Mod S w w') (h0 : ∀ b, own b = 0 → ¬ S b) (h1 : ∀ b, own b = 1 → ¬ S b) (h2 : ∀ b, own b = 2 → ¬ S b) (hb : Blk w' g 27024 105 c') (e1 : c' 2435 = c 2435) (e2 : c' 2436 = c 2436) : XR own w' g c' la ls := by
  refine ⟨hb, ?_, ?_, h.nA, h.nS⟩
  · rw [e1]
    exact h.accts.mono (fun _ _ _ k => ⟨k.addr, k.aLt, k.nonce, k.nLt, k.bal, k.bLt, k.code.keep m (fun b hb => h0 b (Classical.byContradiction (fun q => hb q))), k.warm, k.made, k.gone⟩) (fun _ _ q => q) (fun b _ _ _ k hb => k.mod m (h1 b hb))
  · rw [e2]
    exact h.slots.mono (fun _ _ _ k => k) (fun _ _ q => q) (fun b _ _ _ k hb => k.mod m (h2 b hb))
theorem meas_ltE {n j j2 : Nat} (h9 : j + 1 = j2) (h : j < n) : n - (intOf (.int .i64 (j2 : Nat))).toNat < n - (intOf (.int .i64 (j : Nat))).toNat := by
  simp only [intOf, Int.toNat_natCast]; omega
theorem WAt.moveE {c c' : Nat → Value} {p q x : Nat} (h : WAt c p x) (hc : ∀ j, j < 4 → c' (q + j) = c (p + j)) : WAt c' q x := by
  refine ⟨?_, ?_, ?_, ?_⟩
  · have := hc 0 (by decide); rw [Nat.add_zero, Nat.add_zero] at this; rw [this]; exact h.c0
  · rw [hc 1 (by decide)]; exact h.c1
  · rw [hc 2 (by decide)]; exact h.c2
  · rw [hc 3 (by decide)]; exact h.c3
theorem ones_wat {c : Nat → Value} {p x : Nat} (h : WAt c p x) : Ones (rowOf c p 4) := ones_of (fun q hq => by
  rw [rowOf_size] at hq
  rw [cf_rowOf _ _ _ hq]
  rcases (show q = 0 ∨ q = 1 ∨ q = 2 ∨ q = 3 by omega) with rfl | rfl | rfl | rfl
  · rw [Nat.add_zero, h.c0]; rfl
  · rw [h.c1]; rfl
  · rw [h.c2]; rfl
  · rw [h.c3]; rfl)
theorem ones_u4e : Ones #[.int .u64 0, .int .u64 0, .int .u64 0, .int .u64 0] := fun v hv => by
  simp only [List.mem_cons, List.not_mem_nil, or_false] at hv
  rcases hv with rfl | rfl | rfl | rfl <;> rfl
/-- A slot's cells behind the transaction. -/
def restD (d : Nat → Value) (o : Nat) : Nat → Value := layv (updv d (o + 13) (.bool false)) (o + 9) (rowOf (updv d (o + 13) (.bool false)) (o + 5) 4)
theorem restD_out {d : Nat → Value} {o j : Nat} (h : j < o + 9 ∨ o + 14 ≤ j) : restD d o j = d j := by
  unfold restD
  rw [layv_out _ _ _ (by rw [rowOf_size]; omega), updv_ne _ _ (by omega)]
theorem restD_slot {d0 d : Nat → Value} {o v : Nat} {x : ESlot} (h : SlotC d0 o x) (h0 : d o = d0 o) (hk : ∀ j, j < 4 → d (o + 1 + j) = d0 (o + 1 + j)) (hv : WAt d (o + 5) v) (hlt : v < P256) : SlotC (restD d o) o ⟨x.acct, x.key, v, v, false⟩ := by
  refine ⟨(restD_out (by omega)).trans (h0.trans h.acct), h.aLt, h.key.moveE (fun j hj => (restD_out (by omega)).trans (hk j hj)), h.kLt, hv.moveE (fun j hj => restD_out (by omega)), hlt, hv.moveE (fun j hj => ?_), hlt, ?_⟩
  · unfold restD
    rw [layv_in _ _ _ (by rw [rowOf_size]; exact hj), cf_rowOf _ _ _ hj, updv_ne _ _ (by omega)]
  · unfold restD
    rw [layv_out _ _ _ (by rw [rowOf_size]; omega), updv_same]
theorem AcctC.moveE {O S : Nat → Prop} {w' : World} {c c' : Nat → Value} {o : Nat} {x : EAcct} (h : AcctC O w c o x) (m : Mod S w w') (hs : ∀ b, ¬ O b → ¬ S b) (hc : ∀ j, j < 29 → c' (o + j) = c (o + j)) : AcctC O w' c' o x :=
  ⟨h.addr.same h.aLt (fun j hj => hc j (by omega)), h.aLt, (hc 20 (by decide)).trans h.nonce, h.nLt, h.bal.moveE (fun j hj => by rw [Nat.add_assoc, hc (21 + j) (by omega), ← Nat.add_assoc]), h.bLt, by rw [hc 25 (by decide)]; exact h.code.keep m hs, (hc 26 (by decide)).trans h.warm, (hc 27 (by decide)).trans h.made, (hc 28 (by decide)).trans h.gone⟩
theorem XR.slotSet {la : List EAcct} {ls ls' : List ESlot} {w' : World} {bS : Nat} (h : XR own w g c la ls) (m : Mod (· = bS) w w') (hb : own bS = 2) (hg : own g = 8) (hr : GRow 185 14 SlotC (Ow own 2) w' (c 2436) ls') (hl : ls'.length = ls.length) : XR own w' g c la ls' := by
  have n0 : ∀ b k, own b = k → k ≠ 2 → ¬ b = bS := fun b k hk hn q => by rw [q, hb] at hk; exact hn hk.symm
  refine ⟨h.blk.mod m (n0 g 8 hg (by decide)), h.accts.mono (fun _ _ _ k => k.moveE m (fun b hb2 => n0 b 0 (Classical.byContradiction (fun q => hb2 q)) (by decide)) (fun _ _ => rfl)) (fun _ _ q => q) (fun b _ _ _ k hb2 => k.mod m (n0 b 1 hb2 (by decide))), hr, h.nA, by rw [hl]; exact h.nS⟩
theorem XR.acctSet {la la' : List EAcct} {ls : List ESlot} {w' : World} {bA : Nat} (h : XR own w g c la ls) (m : Mod (· = bA) w w') (hb : own bA = 1) (hg : own g = 8) (hr : GRow 176 29 (AcctC (Mu own) w') (Ow own 1) w' (c 2435) la') (hl : la'.length = la.length) : XR own w' g c la' ls := by
  have n0 : ∀ b k, own b = k → k ≠ 1 → ¬ b = bA := fun b k hk hn q => by rw [q, hb] at hk; exact hn hk.symm
  exact ⟨h.blk.mod m (n0 g 8 hg (by decide)), hr, h.slots.mono (fun _ _ _ k => k) (fun _ _ q => q) (fun b _ _ _ k hb2 => k.mod m (n0 b 2 hb2 (by decide))), by rw [hl]; exact h.nA, h.nS⟩
/-- An account's flags behind the transaction. -/
def restA (d : Nat → Value) (o : Nat) : Nat → Value := updv (updv (updv d (o + 26) (.bool false)) (o + 27) (.bool false)) (o + 28) (.bool false)
theorem restA_out {d : Nat → Value} {o j : Nat} (h : j < o + 26 ∨ o + 29 ≤ j) : restA d o j = d j := by
  unfold restA
  rw [updv_ne _ _ (by omega), updv_ne _ _ (by omega), updv_ne _ _ (by omega)]
theorem restA_in {d : Nat → Value} {o : Nat} : restA d o (o + 26) = .bool false ∧ restA d o (o + 27) = .bool false ∧ restA d o (o + 28) = .bool false := by
  unfold restA
  refine ⟨?_, ?_, updv_same _ _ _⟩
  · rw [updv_ne _ _ (by omega), updv_ne _ _ (by omega), updv_same]
  · rw [updv_ne _ _ (by omega), updv_same]
theorem slot_rest {d d' : Nat → Value} {o v : Nat} {x : ESlot} (h : SlotC d o x) (hv : v < P256) (h0 : d' o = d o) (hk : ∀ j, j < 4 → d' (o + 1 + j) = d (o + 1 + j)) (h1 : WAt d' (o + 5) v) (h2 : WAt d' (o + 9) v) (hw : d' (o + 13) = .bool false) : SlotC d' o ⟨x.acct, x.key, v, v, false⟩ :=
  ⟨h0.trans h.acct, h.aLt, h.key.sameE hk, h.kLt, h1, hv, h2, hv, hw⟩
theorem acct_rest {O : Nat → Prop} {w' : World} {S : Nat → Prop} {d d' : Nat → Value} {o n : Nat} {cd : List Nat} {x : EAcct} (h : AcctC O w d o x) (_m : Mod S w w') (_hs : ∀ b, ¬ O b → ¬ S b) (h0 : ∀ j, j < 20 → d' (o + j) = d (o + j)) (hn : d' (o + 20) = .int .u64 (n : Nat)) (hn2 : n < 18446744073709551616) (hb : ∀ j, j < 4 → d' (o + 21 + j) = d (o + 21 + j)) (hc : NL O w' (d' (o + 25)) cd) (h6 : d' (o + 26) = .bool false) (h7 : d' (o + 27) = .bool false) (h8 : d' (o + 28) = .bool false) : AcctC O w' d' o ⟨x.addr, n, x.bal, cd, false, false, false⟩ :=
  ⟨h.addr.same h.aLt h0, h.aLt, hn, hn2, h.bal.sameE hb, h.bLt, hc, h6, h7, h8⟩
set_option maxRecDepth 100000 in
set_option maxHeartbeats 6400000 in
theorem vEndTx (h : VRep own w g c V) : Calls Hvah.prog 128 #[.pointer (some ⟨g, 2435, none⟩)] w fun e w' => e = .returned (.tuple #[]) ∧ ∃ c', XR own w' g c' (V.accts.map EAcct.rest) (V.slots.map (ESlot.rest V.accts)) ∧ (∀ i, i < 2435 ∨ 27019 ≤ i → c' i = c i) ∧ Mod (fun b => (own b ≠ 0 ∧ own b ≠ 9) ∧ own b ≠ 7) w w' := by
  have hg8 := h.tag
  have hX := h.xr
  have hbg := h.blk
  obtain ⟨jo, jcap, hjv, hjcap⟩ := h.jrn.slice
  obtain ⟨so, scap, hsv, hscap⟩ := h.slots.slice
  obtain ⟨ao, acap, hav, hacap⟩ := h.accts.slice
  obtain ⟨nJ, hnJ⟩ : ∃ z, Hid (V.journal.reverse.length = z) := ⟨_, rfl⟩
  rw [hnJ.out] at hjv hjcap
  have hg3 : ¬ own g = 3 := by rw [hg8]; decide
  go_enter Hvah.func128, Hvah.ntmps128
  go_upto_region 0 with (fail)
  try simp only [Act.put]
  go_cut [] (fun wx => Mod (fun b => own b = 3) w wx)
  case first =>
    rcases h.jrn with ⟨q1, q2⟩ | ⟨bJ, cJ, dJ, q1, q2, q3, q4, q5, q6⟩
    · rw [hjv] at q2
      injection q2 with q2a q2b q2c
      subst q2a
      subst q2b
      subst q2c
      have K29 := hbg.cell (i := 10629) (by decide)
      rw [hjv] at K29
      go_wp2_with (first | ((with_reducible (refine Veil.out ?_; apply wl_loadC oneE80)); (case hw => rfl); (case hx => rfl); (case hc => exact K29)) | ((with_reducible (refine Veil.out ?_; apply wl_clearG0 under80e)); (case hd => rfl)))
      go_meet
      case rel => exact Mod.refl _ _
    · rw [hjv, hnJ.out] at q1
      injection q1 with q1a q1b q1c
      subst q1a
      subst q1c
      clear q1b
      rw [hnJ.out] at q2
      have K29 := hbg.cell (i := 10629) (by decide)
      rw [hjv] at K29
      go_wp2_with (first | ((with_reducible (refine Veil.out ?_; apply wl_loadC oneE80)); (case hw => rfl); (case hx => rfl); (case hc => exact K29)) | ((with_reducible (refine Veil.out ?_; apply wl_clearG under80e el219)); (case hz1 => exact z219one); (case hd => rfl); (case hB => exact q4); (case hN => exact Nat.mul_le_mul_right 9 q2); rintro W1 m1))
      go_meet
      case rel => exact m1.sub (fun b hb => by have hb2 : b = bJ := hb; rw [hb2]; exact q5)
  case rest =>
  obtain ⟨W1, e9⟩ : ∃ X, X = wc := ⟨_, rfl⟩
  subst e9
  have hMa : Mod (fun b => own b = 3) w W1 := hcut
  clear hcut
  have bg1 := hbg.mod hMa hg3
  go_upto_region 1 with (fail)
  try simp only [Act.put]
  go_cut [] (fun wx => ∃ c', Blk wx g 27024 105 c' ∧ (∀ i, i ≠ 10629 → c' i = c i) ∧ Mod (fun b => own b = 3 ∨ b = g) w wx)
  case first =>
    rcases h.jrn with ⟨q1, q2⟩ | ⟨bJ, cJ, dJ, q1, q2, q3, q4, q5, q6⟩
    · rw [hjv] at q2
      injection q2 with q2a q2b q2c
      subst q2a
      subst q2b
      subst q2c
      have K29 := bg1.cell (i := 10629) (by decide)
      rw [hjv] at K29
      go_wp2_with (first | ((with_reducible (refine Veil.out ?_; apply wl_loadC oneE80)); (case hw => rfl); (case hx => rfl); (case hc => exact K29)) | ((with_reducible (refine Veil.out ?_; apply wl_storeC oneE80)); (case hx => rfl); (case hy => rfl); (case h1 => rfl); (case hB => exact bg1); (case hi => decide); rintro W2 b2 m2))
      go_meet
      case rel => exact ⟨_, b2, fun i hi => updv_ne _ _ hi, (hMa.sub (fun _ q => Or.inl q)).trans (m2.sub (fun _ q => Or.inr q))⟩
    · rw [hjv, hnJ.out] at q1
      injection q1 with q1a q1b q1c
      subst q1a
      subst q1c
      clear q1b
      rw [hnJ.out] at q2
      have K29 := bg1.cell (i := 10629) (by decide)
      rw [hjv] at K29
      go_wp2_with (first | ((with_reducible (refine Veil.out ?_; apply wl_loadC oneE80)); (case hw => rfl); (case hx => rfl); (case hc => exact K29)) | ((with_reducible (refine Veil.out ?_; apply wl_storeC oneE80)); (case hx => rfl); (case hy => rfl); (case h1 => rfl); (case hB => exact bg1); (case hi => decide); rintro W2 b2 m2))
      go_meet
      case rel => exact ⟨_, b2, fun i hi => updv_ne _ _ hi, (hMa.sub (fun _ q => Or.inl q)).trans (m2.sub (fun _ q => Or.inr q))⟩
  case rest =>
  obtain ⟨W2, e9⟩ : ∃ X, X = wc := ⟨_, rfl⟩
  subst e9
  obtain ⟨c1, bg2, hc1, m1⟩ := hcut
  clear hMa bg1
  go_upto_region 7 with (first | ((with_reducible (refine Veil.out ?_; apply wl_storeC oneE21)); (case hx => rfl); (case hy => rfl); (case h1 => rfl); (case hB => with_reducible assumption); (case hi => decide); rintro W3 b3 m3) | ((with_reducible (refine Veil.out ?_; apply wl_storeC oneE26)); (case hx => rfl); (case hy => rfl); (case h1 => rfl); (case hB => with_reducible assumption); (case hi => decide); rintro W4 b4 m4) | ((with_reducible (refine Veil.out ?_; apply wl_storeC oneE44)); (case hx => rfl); (case hy => rfl); (case h1 => rfl); (case hB => with_reducible assumption); (case hi => decide); rintro W5 b5 m5) | ((with_reducible (refine Veil.out ?_; apply wl_storeC oneE82)); (case hx => rfl); (case hy => rfl); (case h1 => rfl); (case hB => with_reducible assumption); (case hi => decide); rintro W6 b6 m6) | ((with_reducible (refine Veil.out ?_; apply wl_storeC oneE83)); (case hx => rfl); (case hy => rfl); (case h1 => rfl); (case hB => with_reducible assumption); (case hi => decide); rintro W7 b7 m7))
  obtain ⟨c7, bg7, k7⟩ : ∃ c7, Blk W7 g 27024 105 c7 ∧ ∀ i, i < 10629 ∨ 27019 ≤ i → c7 i = c i := ⟨_, b7, fun i hi => by rw [updv_ne _ _ (by omega), updv_ne _ _ (by omega), updv_ne _ _ (by omega), updv_ne _ _ (by omega), updv_ne _ _ (by omega), hc1 i (by omega)]⟩
  have m7' : Mod (fun b => own b = 3 ∨ b = g) w W7 := ((((m1.trans (m3.sub (fun _ q => Or.inr q))).trans (m4.sub (fun _ q => Or.inr q))).trans (m5.sub (fun _ q => Or.inr q))).trans (m6.sub (fun _ q => Or.inr q))).trans (m7.sub (fun _ q => Or.inr q))
  have hng : ∀ k, k ≠ 3 → k ≠ 8 → ∀ b, own b = k → ¬ (own b = 3 ∨ b = g) := fun k h1 h2 b hb q => by
    rcases q with q | q
    · exact h1 (hb.symm.trans q)
    · rw [q, hg8] at hb; exact h2 hb.symm
  have e35 : c7 2435 = c 2435 := k7 2435 (Or.inl (by decide))
  have e36 : c7 2436 = c 2436 := k7 2436 (Or.inl (by decide))
  have hX7 : XR own W7 g c7 V.accts V.slots := hX.keep m7' (hng 0 (by decide) (by decide)) (hng 1 (by decide) (by decide)) (hng 2 (by decide) (by decide)) bg7 e35 e36
  replace k7 := (show Hid _ from k7)
  rw [hsv] at e36
  rw [hav] at e35
  obtain ⟨nS, hnS⟩ : ∃ z, Hid (V.slots.length = z) := ⟨_, rfl⟩
  obtain ⟨nA, hnA⟩ : ∃ z, Hid (V.accts.length = z) := ⟨_, rfl⟩
  have hnS6 := hX7.nS
  have hnA6 := hX7.nA
  rw [hnS.out] at e36 hnS6
  rw [hnA.out] at e35 hnA6
  have hsA := h.wf.sA
  have hg2 : ¬ own g = 2 := by rw [hg8]; decide
  have hg1 : ¬ own g = 1 := by rw [hg8]; decide
  have K36 := bg7.cell (i := 2436) (by decide)
  rw [e36] at K36
  clear b3 b4 b5 b6 b7 m3 m4 m5 m6 m7 hX h hbg hc1 bg2 m1 hjv hjcap hsv hscap hav hacap hnJ
  go_upto_block 0 with ((with_reducible (refine Veil.out ?_; apply wl_loadC oneE78)); (case hw => rfl); (case hx => rfl); (case hc => exact K36))
  try simp only [Act.put]
  go_cut [] (fun wx => XR own wx g c7 V.accts (V.slots.map (ESlot.rest V.accts)) ∧ Mod (fun b => own b = 2) W7 wx)
  case first =>
    go_upto_region 8 with (fail)
    try simp only [Act.put]
    go_loopw [38] (fun iv wr => ∃ (i : Nat), iv = .int .i64 (i : Nat) ∧ i ≤ nS ∧ XR own wr g c7 V.accts (mapN (ESlot.rest V.accts) i V.slots) ∧ Mod (fun b => own b = 2) W7 wr) (fun iv _ => nS - (intOf iv).toNat)
    case atStart => exact ⟨0, rfl, Nat.zero_le _, by rw [mapN_zero]; exact hX7, Mod.refl _ _⟩
    case round =>
      obtain ⟨i, rfl, hi, hXr, hMr⟩ := hrel
      rcases Nat.lt_or_ge i nS with hlt | hge
      · have z1 : (i : Int) < nS := by omega
        have hlt' : i < V.slots.length := by rw [hnS.out]; exact hlt
        rcases hXr.slots with ⟨q, _⟩ | ⟨bS, cS, dS, q1, q2, q3, q4, q5, q6⟩
        · have := mapN_len (ESlot.rest V.accts) i V.slots
          rw [q] at this
          simp at this
          omega
        rw [e36, mapN_len, hnS.out] at q1
        injection q1 with q1a q1b q1c
        subst q1a
        subst q1c
        clear q1b
        rw [mapN_len, hnS.out] at q2
        have hs := q6 i (by rw [mapN_len]; exact hlt')
        rw [mapN_cur _ _ hlt'] at hs
        have hxa := hsA V.slots[i] (List.getElem_mem _)
        obtain ⟨x, hx⟩ : ∃ x, Hid (V.slots[i] = x) := ⟨V.slots[i], rfl⟩
        rw [hx.out] at hs hxa
        rcases hXr.accts with ⟨p, _⟩ | ⟨bA, cA, dA, p1, p2, p3, p4, p5, p6⟩
        · rw [p] at hxa
          simp at hxa
        rw [e35, hnA.out] at p1
        injection p1 with p1a p1b p1c
        subst p1a
        subst p1c
        clear p1b
        have hgn := (p6 x.acct hxa).gone
        obtain ⟨gn, hgn2⟩ : ∃ z, Hid (V.accts[x.acct].gone = z) := ⟨V.accts[x.acct].gone, rfl⟩
        rw [hgn2.out] at hgn
        rw [hnA.out] at p2
        have hxn : x.acct < nA := by rw [← hnA.out]; exact hxa
        have z2 : (x.acct : Int) < nA := by omega
        have z3 : (0 : Int) ≤ x.acct := by omega
        have jw : IntKind.i64.wrap (x.acct : Int) = (x.acct : Int) := by rw [IntKind.wrap_i64]; omega
        obtain ⟨i1, hi1⟩ : ∃ z : Nat, Hid ((i + 1 : Nat) = z) := ⟨_, rfl⟩
        have j1 : IntKind.i64.wrap ((i : Int) + 1) = (i1 : Int) := by rw [IntKind.wrap_i64, ← hi1.out]; omega
        have hce : i * 14 + 14 ≤ scap * 14 := by omega
        have KS0 : ∀ W, Ext wr W → W.cell? ⟨bS, i * 14, none⟩ = some (.int .i32 (x.acct : Nat)) := fun W hW => by rw [(q4.ext hW).cell (by omega), hs.acct]
        have KA : ∀ W, Ext wr W → W.cell? ⟨g, 2435, none⟩ = some (.slice (some ⟨bA, 0, none⟩) nA acap) := fun W hW => by rw [(hXr.blk.ext hW).cell (by decide), e35]
        have KG : ∀ W, Ext wr W → W.cell? ⟨bA, x.acct * 29 + 28, none⟩ = some (.bool gn) := fun W hW => by rw [(p4.ext hW).cell (by omega), hgn]
        have K36r := hXr.blk.cell (i := 2436) (by decide)
        rw [e36] at K36r
        have hsr : ESlot.rest V.accts x = ⟨x.acct, x.key, if gn then 0 else x.val, if gn then 0 else x.val, false⟩ := by unfold ESlot.rest; rw [eA_get hxa, hgn2.out]
        replace hsr := (show Hid _ from hsr)
        clear p6 p4 hgn p2 p3 p5
        go_upto_region 11 with ((with_reducible (refine Veil.out ?_; apply wl_loadC oneE78)); (case hw => rfl); (case hx => rfl); (case hc => exact K36r))
        have hV0 : WAt (updv dS (i * 14 + 13) (.bool false)) (i * 14 + 5) x.val := hs.val.moveE (fun j hj => updv_ne _ _ (by omega))
        have hV1 : WAt (updv (layv dS (i * 14 + 5) #[.int .u64 0, .int .u64 0, .int .u64 0, .int .u64 0]) (i * 14 + 13) (.bool false)) (i * 14 + 5) 0 := wat_zero.moveE (fun j hj => updv_ne _ _ (by omega))
        cases gn
        · refine w_ext ?_
          rintro W0 hW0
          refine wp_region_held_drew (S := fun w' => Ext W0 w') (by kernel_rfl) (Ext.refl _).drew (fun hHeld => ?_)
          have HH : Hid (Ext W0 _) := hHeld
          clear hHeld
          refine wpAnyH_take (i := 0) (v := ?_) rfl (by kernel_rfl) (by kernel_rfl) (by kernel_rfl) (fun _ _ _ h => h) (Or.inl ⟨by rfl, ?_⟩) HH.out ?_
          rotate_left
          · intro w hSw; go_simp; try with_reducible rfl
          change wpAnyH _ _ _ _ _ _ _ (Act.put _ (some 47) _) _
          simp only [Act.put, List.setIfInBounds_toArray, List.set_cons_zero, List.set_cons_succ]
          refine wpAnyH_take (i := 1) (v := ?_) rfl (by kernel_rfl) (by kernel_rfl) (by kernel_rfl) (fun _ _ _ h => h) (Or.inl ⟨by rfl, ?_⟩) HH.out ?_
          rotate_left
          · intro w hSw; go_simp; try with_reducible rfl
          change wpAnyH _ _ _ _ _ _ _ (Act.put _ (some 48) _) _
          simp only [Act.put, List.setIfInBounds_toArray, List.set_cons_zero, List.set_cons_succ]
          refine wpAnyH_take (i := 2) (v := ?_) rfl (by kernel_rfl) (by kernel_rfl) (by kernel_rfl) (fun _ _ _ h => h) (Or.inl ⟨by rfl, ?_⟩) HH.out ?_
          rotate_left
          · intro w hSw; go_simp; try with_reducible rfl
          change wpAnyH _ _ _ _ _ _ _ (Act.put _ (some 49) _) _
          simp only [Act.put, List.setIfInBounds_toArray, List.set_cons_zero, List.set_cons_succ]
          refine wpAnyH_take (i := 3) rfl (by kernel_rfl) (by kernel_rfl) (by kernel_rfl) (fun _ _ _ h => h) (yieldsIf_load1 (by rfl) _ _ rfl _ _ rfl oneE21 _ (fun w hSw => KS0 _ (hW0.trans hSw))) HH.out ?_
          change wpAnyH _ _ _ _ _ _ _ (Act.put _ (some 50) _) _
          simp only [Act.put, List.setIfInBounds_toArray, List.set_cons_zero, List.set_cons_succ]
          refine wpAnyH_take (i := 4) (v := .bool true) rfl (by kernel_rfl) (by kernel_rfl) (by kernel_rfl) (fun _ _ _ h => h) (Or.inl ⟨by rfl, ?_⟩) HH.out ?_
          · intro w hSw; go_simp; first | rfl | omega | done
          change wpAnyH _ _ _ _ _ _ _ (Act.put _ (some 51) _) _
          simp only [Act.put, List.setIfInBounds_toArray, List.set_cons_zero, List.set_cons_succ]
          refine wpAnyH_take (i := 5) (v := ?_) rfl (by kernel_rfl) (by kernel_rfl) (by kernel_rfl) (fun _ _ _ h => h) (Or.inl ⟨by rfl, ?_⟩) HH.out ?_
          rotate_left
          · intro w hSw; go_simp; try with_reducible rfl
          change wpAnyH _ _ _ _ _ _ _ (Act.put _ (some 52) _) _
          simp only [Act.put, List.setIfInBounds_toArray, List.set_cons_zero, List.set_cons_succ]
          refine wpAnyH_take (i := 6) (v := ?_) rfl (by kernel_rfl) (by kernel_rfl) (by kernel_rfl) (fun _ _ _ h => h) (Or.inl ⟨by rfl, ?_⟩) HH.out ?_
          rotate_left
          · intro w hSw; go_simp; try with_reducible rfl
          change wpAnyH _ _ _ _ _ _ _ (Act.put _ (some 53) _) _
          simp only [Act.put, List.setIfInBounds_toArray, List.set_cons_zero, List.set_cons_succ]
          refine wpAnyH_take (i := 7) (v := ?_) rfl (by kernel_rfl) (by kernel_rfl) (by kernel_rfl) (fun _ _ _ h => h) (Or.inl ⟨by rfl, ?_⟩) HH.out ?_
          rotate_left
          · intro w hSw; go_simp; try with_reducible rfl
          change wpAnyH _ _ _ _ _ _ _ (Act.put _ (some 54) _) _
          simp only [Act.put, List.setIfInBounds_toArray, List.set_cons_zero, List.set_cons_succ]
          refine wpAnyH_take (i := 8) (v := ?_) rfl (by kernel_rfl) (by kernel_rfl) (by kernel_rfl) (fun _ _ _ h => h) (Or.inl ⟨by rfl, ?_⟩) HH.out ?_
          rotate_left
          · intro w hSw; go_simp; try with_reducible rfl
          change wpAnyH _ _ _ _ _ _ _ (Act.put _ (some 55) _) _
          simp only [Act.put, List.setIfInBounds_toArray, List.set_cons_zero, List.set_cons_succ]
          refine wpAnyH_take (i := 9) rfl (by kernel_rfl) (by kernel_rfl) (by kernel_rfl) (fun _ _ _ h => h) (yieldsIf_load1 (by rfl) _ _ rfl _ _ rfl oneE21 _ (fun w hSw => KS0 _ (hW0.trans hSw))) HH.out ?_
          change wpAnyH _ _ _ _ _ _ _ (Act.put _ (some 56) _) _
          simp only [Act.put, List.setIfInBounds_toArray, List.set_cons_zero, List.set_cons_succ]
          refine wpAnyH_take (i := 10) (v := ?_) rfl (by kernel_rfl) (by kernel_rfl) (by kernel_rfl) (fun _ _ _ h => h) (Or.inl ⟨by rfl, ?_⟩) HH.out ?_
          rotate_left
          · intro w hSw; go_simp; try with_reducible rfl
          change wpAnyH _ _ _ _ _ _ _ (Act.put _ (some 57) _) _
          simp only [Act.put, List.setIfInBounds_toArray, List.set_cons_zero, List.set_cons_succ]
          refine wpAnyH_take (i := 11) (v := ?_) rfl (by kernel_rfl) (by kernel_rfl) (by kernel_rfl) (fun _ _ _ h => h) (Or.inl ⟨by rfl, ?_⟩) HH.out ?_
          rotate_left
          · intro w hSw; go_simp; try with_reducible rfl
          change wpAnyH _ _ _ _ _ _ _ (Act.put _ (some 58) _) _
          simp only [Act.put, List.setIfInBounds_toArray, List.set_cons_zero, List.set_cons_succ]
          refine wpAnyH_take (i := 12) (v := ?_) rfl (by kernel_rfl) (by kernel_rfl) (by kernel_rfl) (fun _ _ _ h => h) (Or.inl ⟨by rfl, ?_⟩) HH.out ?_
          rotate_left
          · intro w hSw; go_simp; try with_reducible rfl
          change wpAnyH _ _ _ _ _ _ _ (Act.put _ (some 59) _) _
          simp only [Act.put, List.setIfInBounds_toArray, List.set_cons_zero, List.set_cons_succ]
          refine wpAnyH_take (i := 13) (v := ?_) rfl (by kernel_rfl) (by kernel_rfl) (by kernel_rfl) (fun _ _ _ h => h) (Or.inl ⟨by rfl, ?_⟩) HH.out ?_
          rotate_left
          · intro w hSw; go_simp; try with_reducible rfl
          change wpAnyH _ _ _ _ _ _ _ (Act.put _ (some 60) _) _
          simp only [Act.put, List.setIfInBounds_toArray, List.set_cons_zero, List.set_cons_succ]
          refine wpAnyH_take (i := 14) rfl (by kernel_rfl) (by kernel_rfl) (by kernel_rfl) (fun _ _ _ h => h) (yieldsIf_load1 (by rfl) _ _ rfl _ _ rfl oneE77 _ (fun w hSw => KA _ (hW0.trans hSw))) HH.out ?_
          change wpAnyH _ _ _ _ _ _ _ (Act.put _ (some 61) _) _
          simp only [Act.put, List.setIfInBounds_toArray, List.set_cons_zero, List.set_cons_succ]
          refine wpAnyH_take (i := 15) (v := ?_) rfl (by kernel_rfl) (by kernel_rfl) (by kernel_rfl) (fun _ _ _ h => h) (Or.inl ⟨by rfl, ?_⟩) HH.out ?_
          rotate_left
          · intro w hSw; go_simp; try with_reducible rfl
          change wpAnyH _ _ _ _ _ _ _ (Act.put _ (some 62) _) _
          simp only [Act.put, List.setIfInBounds_toArray, List.set_cons_zero, List.set_cons_succ]
          refine wpAnyH_take (i := 16) (v := .bool true) rfl (by kernel_rfl) (by kernel_rfl) (by kernel_rfl) (fun _ _ _ h => h) (Or.inl ⟨by rfl, ?_⟩) HH.out ?_
          · intro w hSw; go_simp; first | rfl | omega | done
          change wpAnyH _ _ _ _ _ _ _ (Act.put _ (some 63) _) _
          simp only [Act.put, List.setIfInBounds_toArray, List.set_cons_zero, List.set_cons_succ]
          refine wpAnyH_take (i := 17) (v := ?_) rfl (by kernel_rfl) (by kernel_rfl) (by kernel_rfl) (fun _ _ _ h => h) (Or.inl ⟨by rfl, ?_⟩) HH.out ?_
          rotate_left
          · intro w hSw; go_simp; try with_reducible rfl
          change wpAnyH _ _ _ _ _ _ _ (Act.put _ (some 64) _) _
          simp only [Act.put, List.setIfInBounds_toArray, List.set_cons_zero, List.set_cons_succ]
          refine wpAnyH_take (i := 18) (v := ?_) rfl (by kernel_rfl) (by kernel_rfl) (by kernel_rfl) (fun _ _ _ h => h) (Or.inl ⟨by rfl, ?_⟩) HH.out ?_
          rotate_left
          · intro w hSw; go_simp; try with_reducible rfl
          change wpAnyH _ _ _ _ _ _ _ (Act.put _ (some 65) _) _
          simp only [Act.put, List.setIfInBounds_toArray, List.set_cons_zero, List.set_cons_succ]
          refine wpAnyH_take (i := 19) (v := ?_) rfl (by kernel_rfl) (by kernel_rfl) (by kernel_rfl) (fun _ _ _ h => h) (Or.inl ⟨by rfl, ?_⟩) HH.out ?_
          rotate_left
          · intro w hSw; go_simp; try with_reducible rfl
          change wpAnyH _ _ _ _ _ _ _ (Act.put _ (some 66) _) _
          simp only [Act.put, List.setIfInBounds_toArray, List.set_cons_zero, List.set_cons_succ]
          refine wpAnyH_take (i := 20) (v := ?_) rfl (by kernel_rfl) (by kernel_rfl) (by kernel_rfl) (fun _ _ _ h => h) (Or.inl ⟨by rfl, ?_⟩) HH.out ?_
          rotate_left
          · intro w hSw; go_simp; try with_reducible rfl
          change wpAnyH _ _ _ _ _ _ _ (Act.put _ (some 67) _) _
          simp only [Act.put, List.setIfInBounds_toArray, List.set_cons_zero, List.set_cons_succ]
          refine wpAnyH_take (i := 21) (v := ?_) rfl (by kernel_rfl) (by kernel_rfl) (by kernel_rfl) (fun _ _ _ h => h) (Or.inl ⟨by rfl, ?_⟩) HH.out ?_
          rotate_left
          · intro w hSw; go_simp; try with_reducible rfl
          change wpAnyH _ _ _ _ _ _ _ (Act.put _ (some 68) _) _
          simp only [Act.put, List.setIfInBounds_toArray, List.set_cons_zero, List.set_cons_succ]
          refine wpAnyH_take (i := 22) rfl (by kernel_rfl) (by kernel_rfl) (by kernel_rfl) (fun _ _ _ h => h) (yieldsIf_load1 (by rfl) _ _ rfl _ _ rfl oneE77 _ (fun w hSw => KA _ (hW0.trans hSw))) HH.out ?_
          change wpAnyH _ _ _ _ _ _ _ (Act.put _ (some 69) _) _
          simp only [Act.put, List.setIfInBounds_toArray, List.set_cons_zero, List.set_cons_succ]
          refine wpAnyH_take (i := 23) (v := ?_) rfl (by kernel_rfl) (by kernel_rfl) (by kernel_rfl) (fun _ _ _ h => h) (Or.inl ⟨by rfl, ?_⟩) HH.out ?_
          rotate_left
          · intro w hSw; go_simp; try with_reducible rfl
          change wpAnyH _ _ _ _ _ _ _ (Act.put _ (some 70) _) _
          simp only [Act.put, List.setIfInBounds_toArray, List.set_cons_zero, List.set_cons_succ]
          refine wpAnyH_take (i := 24) (v := ?_) rfl (by kernel_rfl) (by kernel_rfl) (by kernel_rfl) (fun _ _ _ h => h) (Or.inl ⟨by rfl, ?_⟩) HH.out ?_
          rotate_left
          · intro w hSw; go_simp; try with_reducible rfl
          change wpAnyH _ _ _ _ _ _ _ (Act.put _ (some 71) _) _
          simp only [Act.put, List.setIfInBounds_toArray, List.set_cons_zero, List.set_cons_succ]
          refine wpAnyH_take (i := 25) (v := ?_) rfl (by kernel_rfl) (by kernel_rfl) (by kernel_rfl) (fun _ _ _ h => h) (Or.inl ⟨by rfl, ?_⟩) HH.out ?_
          rotate_left
          · intro w hSw; go_simp; try with_reducible rfl
          change wpAnyH _ _ _ _ _ _ _ (Act.put _ (some 72) _) _
          simp only [Act.put, List.setIfInBounds_toArray, List.set_cons_zero, List.set_cons_succ]
          refine wpAnyH_take (i := 26) rfl (by kernel_rfl) (by kernel_rfl) (by kernel_rfl) (fun _ _ _ h => h) (yieldsIf_load1 (by rfl) _ _ rfl _ _ rfl oneE21 _ (fun w hSw => KS0 _ (hW0.trans hSw))) HH.out ?_
          change wpAnyH _ _ _ _ _ _ _ (Act.put _ (some 73) _) _
          simp only [Act.put, List.setIfInBounds_toArray, List.set_cons_zero, List.set_cons_succ]
          refine wpAnyH_take (i := 27) (v := ?_) rfl (by kernel_rfl) (by kernel_rfl) (by kernel_rfl) (fun _ _ _ h => h) (Or.inl ⟨by rfl, ?_⟩) HH.out ?_
          rotate_left
          · intro w hSw; go_simp; try with_reducible rfl
          change wpAnyH _ _ _ _ _ _ _ (Act.put _ (some 74) _) _
          simp only [Act.put, List.setIfInBounds_toArray, List.set_cons_zero, List.set_cons_succ]
          refine wpAnyH_take (i := 28) (v := ?_) rfl (by kernel_rfl) (by kernel_rfl) (by kernel_rfl) (fun _ _ _ h => h) (Or.inl ⟨by rfl, ?_⟩) HH.out ?_
          rotate_left
          · intro w hSw; go_simp; try with_reducible rfl
          change wpAnyH _ _ _ _ _ _ _ (Act.put _ (some 75) _) _
          simp only [Act.put, List.setIfInBounds_toArray, List.set_cons_zero, List.set_cons_succ]
          refine wpAnyH_take (i := 29) rfl (by kernel_rfl) (by kernel_rfl) (by kernel_rfl) (fun _ _ _ h => h) (yieldsIf_load1 (by rfl) _ _ rfl _ _ rfl oneE4 _ (fun w hSw => KG _ (hW0.trans hSw))) HH.out ?_
          change wpAnyH _ _ _ _ _ _ _ (Act.put _ (some 76) _) _
          simp only [Act.put, List.setIfInBounds_toArray, List.set_cons_zero, List.set_cons_succ]
          refine wpAnyH_take (i := 30) (v := ?_) rfl (by kernel_rfl) (by kernel_rfl) (by kernel_rfl) (fun _ _ _ h => h) (Or.inl ⟨by rfl, ?_⟩) HH.out ?_
          rotate_left
          · intro w hSw; go_simp; try with_reducible rfl
          change wpAnyH _ _ _ _ _ _ _ (Act.put _ (some 77) _) _
          simp only [Act.put, List.setIfInBounds_toArray, List.set_cons_zero, List.set_cons_succ]
          refine wpAnyH_done (by kernel_rfl) ?_ _
          have hW0d : Ext wr W0.drew := hW0.drew
          go_upto_region 14 with ((with_reducible (refine Veil.out ?_; apply wl_storeC oneE4)); (case hx => rfl); (case hy => rfl); (case h1 => rfl); (case hB => exact q4.ext hW0d); (case hi => omega); rintro W4 b4 m4)
          go_wp2_with (first | ((with_reducible (refine Veil.out ?_; apply wl_loadRow rt66)); (case hx => rfl); (case hB => exact b4); (case hi => omega)) | ((with_reducible (refine Veil.out ?_; apply wl_storeRow rt66)); (case hx => rfl); (case hy => rfl); (case hr => exact rowOf_size _ _ _); (case h1 => exact ones_wat hV0); (case hB => exact b4); (case hi => omega); rintro W5 b5 m5))
          go_roundw
          case rel =>
            have h9 := hi1.out
            have mm : Mod (· = bS) wr W5 := (hW0d.mod _).trans (m4.trans m5)
            have b5' : Blk W5 bS (scap * 14) 185 (restD dS (i * 14)) := b5
            have hnew : SlotC (restD dS (i * 14)) (i * 14) (ESlot.rest V.accts V.slots[i]) := by
              rw [hx.out, hsr.out, if_neg (by decide)]
              exact restD_slot hs rfl (fun _ _ => rfl) hs.val hs.vLt
            refine ⟨i1, rfl, by omega, ?_, hMr.trans (mm.sub (fun b hb => by have hb2 : b = bS := hb; rw [hb2]; exact q5))⟩
            rw [← h9, mapN_step _ _ hlt']
            refine hXr.slotSet mm q5 hg8 ?_ (by rw [List.length_set])
            have hv := e36
            rw [show nS = (mapN (ESlot.rest V.accts) i V.slots).length by rw [mapN_len, hnS.out]] at hv
            exact GRow.change hv (by rw [mapN_len, hnS.out]; exact q2) q3 b5' q5 q6 i _ (fun j hj => by exact restD_out (by omega)) (fun _ _ _ _ hc k => slot_move hc k) hnew
          case measure => exact meas_ltE hi1.out hlt
        · refine w_ext ?_
          rintro W0 hW0
          refine wp_region_held_drew (S := fun w' => Ext W0 w') (by kernel_rfl) (Ext.refl _).drew (fun hHeld => ?_)
          have HH : Hid (Ext W0 _) := hHeld
          clear hHeld
          refine wpAnyH_take (i := 0) (v := ?_) rfl (by kernel_rfl) (by kernel_rfl) (by kernel_rfl) (fun _ _ _ h => h) (Or.inl ⟨by rfl, ?_⟩) HH.out ?_
          rotate_left
          · intro w hSw; go_simp; try with_reducible rfl
          change wpAnyH _ _ _ _ _ _ _ (Act.put _ (some 47) _) _
          simp only [Act.put, List.setIfInBounds_toArray, List.set_cons_zero, List.set_cons_succ]
          refine wpAnyH_take (i := 1) (v := ?_) rfl (by kernel_rfl) (by kernel_rfl) (by kernel_rfl) (fun _ _ _ h => h) (Or.inl ⟨by rfl, ?_⟩) HH.out ?_
          rotate_left
          · intro w hSw; go_simp; try with_reducible rfl
          change wpAnyH _ _ _ _ _ _ _ (Act.put _ (some 48) _) _
          simp only [Act.put, List.setIfInBounds_toArray, List.set_cons_zero, List.set_cons_succ]
          refine wpAnyH_take (i := 2) (v := ?_) rfl (by kernel_rfl) (by kernel_rfl) (by kernel_rfl) (fun _ _ _ h => h) (Or.inl ⟨by rfl, ?_⟩) HH.out ?_
          rotate_left
          · intro w hSw; go_simp; try with_reducible rfl
          change wpAnyH _ _ _ _ _ _ _ (Act.put _ (some 49) _) _
          simp only [Act.put, List.setIfInBounds_toArray, List.set_cons_zero, List.set_cons_succ]
          refine wpAnyH_take (i := 3) rfl (by kernel_rfl) (by kernel_rfl) (by kernel_rfl) (fun _ _ _ h => h) (yieldsIf_load1 (by rfl) _ _ rfl _ _ rfl oneE21 _ (fun w hSw => KS0 _ (hW0.trans hSw))) HH.out ?_
          change wpAnyH _ _ _ _ _ _ _ (Act.put _ (some 50) _) _
          simp only [Act.put, List.setIfInBounds_toArray, List.set_cons_zero, List.set_cons_succ]
          refine wpAnyH_take (i := 4) (v := .bool true) rfl (by kernel_rfl) (by kernel_rfl) (by kernel_rfl) (fun _ _ _ h => h) (Or.inl ⟨by rfl, ?_⟩) HH.out ?_
          · intro w hSw; go_simp; first | rfl | omega | done
          change wpAnyH _ _ _ _ _ _ _ (Act.put _ (some 51) _) _
          simp only [Act.put, List.setIfInBounds_toArray, List.set_cons_zero, List.set_cons_succ]
          refine wpAnyH_take (i := 5) (v := ?_) rfl (by kernel_rfl) (by kernel_rfl) (by kernel_rfl) (fun _ _ _ h => h) (Or.inl ⟨by rfl, ?_⟩) HH.out ?_
          rotate_left
          · intro w hSw; go_simp; try with_reducible rfl
          change wpAnyH _ _ _ _ _ _ _ (Act.put _ (some 52) _) _
          simp only [Act.put, List.setIfInBounds_toArray, List.set_cons_zero, List.set_cons_succ]
          refine wpAnyH_take (i := 6) (v := ?_) rfl (by kernel_rfl) (by kernel_rfl) (by kernel_rfl) (fun _ _ _ h => h) (Or.inl ⟨by rfl, ?_⟩) HH.out ?_
          rotate_left
          · intro w hSw; go_simp; try with_reducible rfl
          change wpAnyH _ _ _ _ _ _ _ (Act.put _ (some 53) _) _
          simp only [Act.put, List.setIfInBounds_toArray, List.set_cons_zero, List.set_cons_succ]
          refine wpAnyH_take (i := 7) (v := ?_) rfl (by kernel_rfl) (by kernel_rfl) (by kernel_rfl) (fun _ _ _ h => h) (Or.inl ⟨by rfl, ?_⟩) HH.out ?_
          rotate_left
          · intro w hSw; go_simp; try with_reducible rfl
          change wpAnyH _ _ _ _ _ _ _ (Act.put _ (some 54) _) _
          simp only [Act.put, List.setIfInBounds_toArray, List.set_cons_zero, List.set_cons_succ]
          refine wpAnyH_take (i := 8) (v := ?_) rfl (by kernel_rfl) (by kernel_rfl) (by kernel_rfl) (fun _ _ _ h => h) (Or.inl ⟨by rfl, ?_⟩) HH.out ?_
          rotate_left
          · intro w hSw; go_simp; try with_reducible rfl
          change wpAnyH _ _ _ _ _ _ _ (Act.put _ (some 55) _) _
          simp only [Act.put, List.setIfInBounds_toArray, List.set_cons_zero, List.set_cons_succ]
          refine wpAnyH_take (i := 9) rfl (by kernel_rfl) (by kernel_rfl) (by kernel_rfl) (fun _ _ _ h => h) (yieldsIf_load1 (by rfl) _ _ rfl _ _ rfl oneE21 _ (fun w hSw => KS0 _ (hW0.trans hSw))) HH.out ?_
          change wpAnyH _ _ _ _ _ _ _ (Act.put _ (some 56) _) _
          simp only [Act.put, List.setIfInBounds_toArray, List.set_cons_zero, List.set_cons_succ]
          refine wpAnyH_take (i := 10) (v := ?_) rfl (by kernel_rfl) (by kernel_rfl) (by kernel_rfl) (fun _ _ _ h => h) (Or.inl ⟨by rfl, ?_⟩) HH.out ?_
          rotate_left
          · intro w hSw; go_simp; try with_reducible rfl
          change wpAnyH _ _ _ _ _ _ _ (Act.put _ (some 57) _) _
          simp only [Act.put, List.setIfInBounds_toArray, List.set_cons_zero, List.set_cons_succ]
          refine wpAnyH_take (i := 11) (v := ?_) rfl (by kernel_rfl) (by kernel_rfl) (by kernel_rfl) (fun _ _ _ h => h) (Or.inl ⟨by rfl, ?_⟩) HH.out ?_
          rotate_left
          · intro w hSw; go_simp; try with_reducible rfl
          change wpAnyH _ _ _ _ _ _ _ (Act.put _ (some 58) _) _
          simp only [Act.put, List.setIfInBounds_toArray, List.set_cons_zero, List.set_cons_succ]
          refine wpAnyH_take (i := 12) (v := ?_) rfl (by kernel_rfl) (by kernel_rfl) (by kernel_rfl) (fun _ _ _ h => h) (Or.inl ⟨by rfl, ?_⟩) HH.out ?_
          rotate_left
          · intro w hSw; go_simp; try with_reducible rfl
          change wpAnyH _ _ _ _ _ _ _ (Act.put _ (some 59) _) _
          simp only [Act.put, List.setIfInBounds_toArray, List.set_cons_zero, List.set_cons_succ]
          refine wpAnyH_take (i := 13) (v := ?_) rfl (by kernel_rfl) (by kernel_rfl) (by kernel_rfl) (fun _ _ _ h => h) (Or.inl ⟨by rfl, ?_⟩) HH.out ?_
          rotate_left
          · intro w hSw; go_simp; try with_reducible rfl
          change wpAnyH _ _ _ _ _ _ _ (Act.put _ (some 60) _) _
          simp only [Act.put, List.setIfInBounds_toArray, List.set_cons_zero, List.set_cons_succ]
          refine wpAnyH_take (i := 14) rfl (by kernel_rfl) (by kernel_rfl) (by kernel_rfl) (fun _ _ _ h => h) (yieldsIf_load1 (by rfl) _ _ rfl _ _ rfl oneE77 _ (fun w hSw => KA _ (hW0.trans hSw))) HH.out ?_
          change wpAnyH _ _ _ _ _ _ _ (Act.put _ (some 61) _) _
          simp only [Act.put, List.setIfInBounds_toArray, List.set_cons_zero, List.set_cons_succ]
          refine wpAnyH_take (i := 15) (v := ?_) rfl (by kernel_rfl) (by kernel_rfl) (by kernel_rfl) (fun _ _ _ h => h) (Or.inl ⟨by rfl, ?_⟩) HH.out ?_
          rotate_left
          · intro w hSw; go_simp; try with_reducible rfl
          change wpAnyH _ _ _ _ _ _ _ (Act.put _ (some 62) _) _
          simp only [Act.put, List.setIfInBounds_toArray, List.set_cons_zero, List.set_cons_succ]
          refine wpAnyH_take (i := 16) (v := .bool true) rfl (by kernel_rfl) (by kernel_rfl) (by kernel_rfl) (fun _ _ _ h => h) (Or.inl ⟨by rfl, ?_⟩) HH.out ?_
          · intro w hSw; go_simp; first | rfl | omega | done
          change wpAnyH _ _ _ _ _ _ _ (Act.put _ (some 63) _) _
          simp only [Act.put, List.setIfInBounds_toArray, List.set_cons_zero, List.set_cons_succ]
          refine wpAnyH_take (i := 17) (v := ?_) rfl (by kernel_rfl) (by kernel_rfl) (by kernel_rfl) (fun _ _ _ h => h) (Or.inl ⟨by rfl, ?_⟩) HH.out ?_
          rotate_left
          · intro w hSw; go_simp; try with_reducible rfl
          change wpAnyH _ _ _ _ _ _ _ (Act.put _ (some 64) _) _
          simp only [Act.put, List.setIfInBounds_toArray, List.set_cons_zero, List.set_cons_succ]
          refine wpAnyH_take (i := 18) (v := ?_) rfl (by kernel_rfl) (by kernel_rfl) (by kernel_rfl) (fun _ _ _ h => h) (Or.inl ⟨by rfl, ?_⟩) HH.out ?_
          rotate_left
          · intro w hSw; go_simp; try with_reducible rfl
          change wpAnyH _ _ _ _ _ _ _ (Act.put _ (some 65) _) _
          simp only [Act.put, List.setIfInBounds_toArray, List.set_cons_zero, List.set_cons_succ]
          refine wpAnyH_take (i := 19) (v := ?_) rfl (by kernel_rfl) (by kernel_rfl) (by kernel_rfl) (fun _ _ _ h => h) (Or.inl ⟨by rfl, ?_⟩) HH.out ?_
          rotate_left
          · intro w hSw; go_simp; try with_reducible rfl
          change wpAnyH _ _ _ _ _ _ _ (Act.put _ (some 66) _) _
          simp only [Act.put, List.setIfInBounds_toArray, List.set_cons_zero, List.set_cons_succ]
          refine wpAnyH_take (i := 20) (v := ?_) rfl (by kernel_rfl) (by kernel_rfl) (by kernel_rfl) (fun _ _ _ h => h) (Or.inl ⟨by rfl, ?_⟩) HH.out ?_
          rotate_left
          · intro w hSw; go_simp; try with_reducible rfl
          change wpAnyH _ _ _ _ _ _ _ (Act.put _ (some 67) _) _
          simp only [Act.put, List.setIfInBounds_toArray, List.set_cons_zero, List.set_cons_succ]
          refine wpAnyH_take (i := 21) (v := ?_) rfl (by kernel_rfl) (by kernel_rfl) (by kernel_rfl) (fun _ _ _ h => h) (Or.inl ⟨by rfl, ?_⟩) HH.out ?_
          rotate_left
          · intro w hSw; go_simp; try with_reducible rfl
          change wpAnyH _ _ _ _ _ _ _ (Act.put _ (some 68) _) _
          simp only [Act.put, List.setIfInBounds_toArray, List.set_cons_zero, List.set_cons_succ]
          refine wpAnyH_take (i := 22) rfl (by kernel_rfl) (by kernel_rfl) (by kernel_rfl) (fun _ _ _ h => h) (yieldsIf_load1 (by rfl) _ _ rfl _ _ rfl oneE77 _ (fun w hSw => KA _ (hW0.trans hSw))) HH.out ?_
          change wpAnyH _ _ _ _ _ _ _ (Act.put _ (some 69) _) _
          simp only [Act.put, List.setIfInBounds_toArray, List.set_cons_zero, List.set_cons_succ]
          refine wpAnyH_take (i := 23) (v := ?_) rfl (by kernel_rfl) (by kernel_rfl) (by kernel_rfl) (fun _ _ _ h => h) (Or.inl ⟨by rfl, ?_⟩) HH.out ?_
          rotate_left
          · intro w hSw; go_simp; try with_reducible rfl
          change wpAnyH _ _ _ _ _ _ _ (Act.put _ (some 70) _) _
          simp only [Act.put, List.setIfInBounds_toArray, List.set_cons_zero, List.set_cons_succ]
          refine wpAnyH_take (i := 24) (v := ?_) rfl (by kernel_rfl) (by kernel_rfl) (by kernel_rfl) (fun _ _ _ h => h) (Or.inl ⟨by rfl, ?_⟩) HH.out ?_
          rotate_left
          · intro w hSw; go_simp; try with_reducible rfl
          change wpAnyH _ _ _ _ _ _ _ (Act.put _ (some 71) _) _
          simp only [Act.put, List.setIfInBounds_toArray, List.set_cons_zero, List.set_cons_succ]
          refine wpAnyH_take (i := 25) (v := ?_) rfl (by kernel_rfl) (by kernel_rfl) (by kernel_rfl) (fun _ _ _ h => h) (Or.inl ⟨by rfl, ?_⟩) HH.out ?_
          rotate_left
          · intro w hSw; go_simp; try with_reducible rfl
          change wpAnyH _ _ _ _ _ _ _ (Act.put _ (some 72) _) _
          simp only [Act.put, List.setIfInBounds_toArray, List.set_cons_zero, List.set_cons_succ]
          refine wpAnyH_take (i := 26) rfl (by kernel_rfl) (by kernel_rfl) (by kernel_rfl) (fun _ _ _ h => h) (yieldsIf_load1 (by rfl) _ _ rfl _ _ rfl oneE21 _ (fun w hSw => KS0 _ (hW0.trans hSw))) HH.out ?_
          change wpAnyH _ _ _ _ _ _ _ (Act.put _ (some 73) _) _
          simp only [Act.put, List.setIfInBounds_toArray, List.set_cons_zero, List.set_cons_succ]
          refine wpAnyH_take (i := 27) (v := ?_) rfl (by kernel_rfl) (by kernel_rfl) (by kernel_rfl) (fun _ _ _ h => h) (Or.inl ⟨by rfl, ?_⟩) HH.out ?_
          rotate_left
          · intro w hSw; go_simp; try with_reducible rfl
          change wpAnyH _ _ _ _ _ _ _ (Act.put _ (some 74) _) _
          simp only [Act.put, List.setIfInBounds_toArray, List.set_cons_zero, List.set_cons_succ]
          refine wpAnyH_take (i := 28) (v := ?_) rfl (by kernel_rfl) (by kernel_rfl) (by kernel_rfl) (fun _ _ _ h => h) (Or.inl ⟨by rfl, ?_⟩) HH.out ?_
          rotate_left
          · intro w hSw; go_simp; try with_reducible rfl
          change wpAnyH _ _ _ _ _ _ _ (Act.put _ (some 75) _) _
          simp only [Act.put, List.setIfInBounds_toArray, List.set_cons_zero, List.set_cons_succ]
          refine wpAnyH_take (i := 29) rfl (by kernel_rfl) (by kernel_rfl) (by kernel_rfl) (fun _ _ _ h => h) (yieldsIf_load1 (by rfl) _ _ rfl _ _ rfl oneE4 _ (fun w hSw => KG _ (hW0.trans hSw))) HH.out ?_
          change wpAnyH _ _ _ _ _ _ _ (Act.put _ (some 76) _) _
          simp only [Act.put, List.setIfInBounds_toArray, List.set_cons_zero, List.set_cons_succ]
          refine wpAnyH_take (i := 30) (v := ?_) rfl (by kernel_rfl) (by kernel_rfl) (by kernel_rfl) (fun _ _ _ h => h) (Or.inl ⟨by rfl, ?_⟩) HH.out ?_
          rotate_left
          · intro w hSw; go_simp; try with_reducible rfl
          change wpAnyH _ _ _ _ _ _ _ (Act.put _ (some 77) _) _
          simp only [Act.put, List.setIfInBounds_toArray, List.set_cons_zero, List.set_cons_succ]
          refine wpAnyH_done (by kernel_rfl) ?_ _
          have hW0d : Ext wr W0.drew := hW0.drew
          go_upto_region 13 with ((with_reducible (refine Veil.out ?_; apply wl_storeRow rt66)); (case hx => rfl); (case hy => rfl); (case hr => rfl); (case h1 => exact ones_u4e); (case hB => exact q4.ext hW0d); (case hi => omega); rintro W3 b3 m3)
          go_upto_region 14 with ((with_reducible (refine Veil.out ?_; apply wl_storeC oneE4)); (case hx => rfl); (case hy => rfl); (case h1 => rfl); (case hB => exact b3); (case hi => omega); rintro W4 b4 m4)
          go_wp2_with (first | ((with_reducible (refine Veil.out ?_; apply wl_loadRow rt66)); (case hx => rfl); (case hB => exact b4); (case hi => omega)) | ((with_reducible (refine Veil.out ?_; apply wl_storeRow rt66)); (case hx => rfl); (case hy => rfl); (case hr => exact rowOf_size _ _ _); (case h1 => exact ones_wat hV1); (case hB => exact b4); (case hi => omega); rintro W5 b5 m5))
          go_roundw
          case rel =>
            have h9 := hi1.out
            have mm : Mod (· = bS) wr W5 := (hW0d.mod _).trans (m3.trans (m4.trans m5))
            have b5' : Blk W5 bS (scap * 14) 185 (restD (layv dS (i * 14 + 5) #[.int .u64 0, .int .u64 0, .int .u64 0, .int .u64 0]) (i * 14)) := b5
            have hnew : SlotC (restD (layv dS (i * 14 + 5) #[.int .u64 0, .int .u64 0, .int .u64 0, .int .u64 0]) (i * 14)) (i * 14) (ESlot.rest V.accts V.slots[i]) := by
              rw [hx.out, hsr.out, if_pos rfl]
              exact restD_slot hs (layv_out _ _ _ (Or.inl (by omega))) (fun j hj => layv_out _ _ _ (Or.inl (by omega))) wat_zero (by decide)
            refine ⟨i1, rfl, by omega, ?_, hMr.trans (mm.sub (fun b hb => by have hb2 : b = bS := hb; rw [hb2]; exact q5))⟩
            rw [← h9, mapN_step _ _ hlt']
            refine hXr.slotSet mm q5 hg8 ?_ (by rw [List.length_set])
            have hv := e36
            rw [show nS = (mapN (ESlot.rest V.accts) i V.slots).length by rw [mapN_len, hnS.out]] at hv
            exact GRow.change hv (by rw [mapN_len, hnS.out]; exact q2) q3 b5' q5 q6 i _ (fun j hj => by rw [restD_out (by omega), layv_out _ _ _ (by show j < i * 14 + 5 ∨ i * 14 + 5 + 4 ≤ j; omega)]) (fun _ _ _ _ hc k => slot_move hc k) hnew
          case measure => exact meas_ltE hi1.out hlt
      · have z1 : ¬ (i : Int) < nS := by omega
        obtain rfl : i = nS := by omega
        rw [← hnS.out, mapN_all] at hXr
        go_wp2
        go_meet
        case rel => exact ⟨hXr, hMr⟩
  case rest =>
  obtain ⟨W8, e9⟩ : ∃ X, X = wc := ⟨_, rfl⟩
  subst e9
  obtain ⟨hX8, m8⟩ := hcut
  have m8' : Mod (fun b => (own b ≠ 0 ∧ own b ≠ 9) ∧ own b ≠ 7) w W8 := (m7'.sub (fun b hb => by
    rcases hb with q | q
    · rw [q]; decide
    · rw [q, hg8]; decide)).trans (m8.sub (fun b hb => by have hb2 : own b = 2 := hb; rw [hb2]; decide))
  obtain ⟨LS, hLS⟩ : ∃ z, Hid (V.slots.map (ESlot.rest V.accts) = z) := ⟨_, rfl⟩
  rw [hLS.out] at hX8
  have K35 := hX8.blk.cell (i := 2435) (by decide)
  rw [e35] at K35
  clear hX7 m7' m8 K36 hsA bg7
  go_upto_region 17 with ((with_reducible (refine Veil.out ?_; apply wl_loadC oneE77)); (case hw => rfl); (case hx => rfl); (case hc => exact K35))
  try simp only [Act.put]
  go_loopw [98] (fun iv wr => ∃ (i : Nat), iv = .int .i64 (i : Nat) ∧ i ≤ nA ∧ XR own wr g c7 (mapN EAcct.rest i V.accts) LS ∧ Mod (fun b => own b = 1) W8 wr) (fun iv _ => nA - (intOf iv).toNat)
  case atStart => exact ⟨0, rfl, Nat.zero_le _, by rw [mapN_zero]; exact hX8, Mod.refl _ _⟩
  case round =>
    obtain ⟨i, rfl, hi, hXr, hMr⟩ := hrel
    rcases Nat.lt_or_ge i nA with hlt | hge
    · have z1 : (i : Int) < nA := by omega
      have hlt' : i < V.accts.length := by rw [hnA.out]; exact hlt
      rcases hXr.accts with ⟨q, _⟩ | ⟨bA, cA, dA, q1, q2, q3, q4, q5, q6⟩
      · have := mapN_len EAcct.rest i V.accts
        rw [q] at this
        simp at this
        omega
      rw [e35, mapN_len, hnA.out] at q1
      injection q1 with q1a q1b q1c
      subst q1a
      subst q1c
      clear q1b
      rw [mapN_len, hnA.out] at q2
      have hs := q6 i (by rw [mapN_len]; exact hlt')
      rw [mapN_cur _ _ hlt'] at hs
      obtain ⟨x, hx⟩ : ∃ x, Hid (V.accts[i] = x) := ⟨V.accts[i], rfl⟩
      rw [hx.out] at hs
      obtain ⟨gn, hgn2⟩ : ∃ z, Hid (x.gone = z) := ⟨_, rfl⟩
      have hgn := hs.gone
      rw [hgn2.out] at hgn
      obtain ⟨i1, hi1⟩ : ∃ z : Nat, Hid ((i + 1 : Nat) = z) := ⟨_, rfl⟩
      have j1 : IntKind.i64.wrap ((i : Int) + 1) = (i1 : Int) := by rw [IntKind.wrap_i64, ← hi1.out]; omega
      have hce : i * 29 + 29 ≤ acap * 29 := by omega
      have KG : wr.cell? ⟨bA, i * 29 + 28, none⟩ = some (.bool gn) := by rw [q4.cell (by omega), hgn]
      have K35r := hXr.blk.cell (i := 2435) (by decide)
      rw [e35] at K35r
      have hsr : EAcct.rest x = ⟨x.addr, if gn then 0 else x.nonce, x.bal, if gn then [] else x.code, false, false, false⟩ := by unfold EAcct.rest; rw [hgn2.out]
      replace hsr := (show Hid _ from hsr)
      clear hgn
      cases gn
      · go_upto_region 23 with (first | ((with_reducible (refine Veil.out ?_; apply wl_loadC oneE77)); (case hw => rfl); (case hx => rfl); (case hc => exact K35r)) | ((with_reducible (refine Veil.out ?_; apply wl_loadC oneE4)); (case hw => rfl); (case hx => rfl); (case hc => exact KG)))
        go_wp2_with (first | ((with_reducible (refine Veil.out ?_; apply wl_storeC oneE4)); (case hx => rfl); (case hy => rfl); (case h1 => rfl); (case hB => exact q4); (case hi => omega); rintro W3 b3 m3) | ((with_reducible (refine Veil.out ?_; apply wl_storeC oneE4)); (case hx => rfl); (case hy => rfl); (case h1 => rfl); (case hB => exact b3); (case hi => omega); rintro W4 b4 m4) | ((with_reducible (refine Veil.out ?_; apply wl_storeC oneE4)); (case hx => rfl); (case hy => rfl); (case h1 => rfl); (case hB => exact b4); (case hi => omega); rintro W5 b5 m5))
        go_roundw
        case rel =>
          have h9 := hi1.out
          have mm : Mod (· = bA) wr W5 := m3.trans (m4.trans m5)
          have b5' : Blk W5 bA (acap * 29) 176 (restA dA (i * 29)) := b5
          have hmu : ∀ b, ¬ Mu own b → ¬ b = bA := fun b hb q => hb (by rw [q]; show own bA ≠ 0; rw [show own bA = 1 from q5]; decide)
          obtain ⟨r6, r7, r8⟩ := restA_in (d := dA) (o := i * 29)
          have hnew : AcctC (Mu own) W5 (restA dA (i * 29)) (i * 29) (EAcct.rest V.accts[i]) := by
            rw [hx.out, hsr.out, if_neg (by decide), if_neg (by decide)]
            exact acct_rest hs mm hmu (fun j hj => restA_out (by omega)) ((restA_out (by omega)).trans hs.nonce) hs.nLt (fun j hj => restA_out (by omega)) (by rw [restA_out (by omega)]; exact hs.code.keep mm hmu) r6 r7 r8
          refine ⟨i1, rfl, by omega, ?_, hMr.trans (mm.sub (fun b hb => by have hb2 : b = bA := hb; rw [hb2]; exact q5))⟩
          rw [← h9, mapN_step _ _ hlt']
          refine hXr.acctSet mm q5 hg8 ?_ (by rw [List.length_set])
          have hv := e35
          rw [show nA = (mapN EAcct.rest i V.accts).length by rw [mapN_len, hnA.out]] at hv
          exact GRow.change hv (by rw [mapN_len, hnA.out]; exact q2) q3 b5' q5 q6 i _ (fun j hj => by exact restA_out (by omega)) (fun _ _ _ _ hc k => k.moveE mm hmu hc) hnew
        case measure => exact meas_ltE hi1.out hlt
      · go_upto_region 23 with (first | ((with_reducible (refine Veil.out ?_; apply wl_loadC oneE77)); (case hw => rfl); (case hx => rfl); (case hc => exact K35r)) | ((with_reducible (refine Veil.out ?_; apply wl_loadC oneE4)); (case hw => rfl); (case hx => rfl); (case hc => exact KG)) | ((with_reducible (refine Veil.out ?_; apply wl_storeC oneE26)); (case hx => rfl); (case hy => rfl); (case h1 => rfl); (case hB => exact q4); (case hi => omega); rintro W21 b21 m21) | ((with_reducible (refine Veil.out ?_; apply wl_storeC oneE32)); (case hx => rfl); (case hy => rfl); (case h1 => rfl); (case hB => exact b21); (case hi => omega); rintro W22 b22 m22))
        go_wp2_with (first | ((with_reducible (refine Veil.out ?_; apply wl_storeC oneE4)); (case hx => rfl); (case hy => rfl); (case h1 => rfl); (case hB => exact b22); (case hi => omega); rintro W3 b3 m3) | ((with_reducible (refine Veil.out ?_; apply wl_storeC oneE4)); (case hx => rfl); (case hy => rfl); (case h1 => rfl); (case hB => exact b3); (case hi => omega); rintro W4 b4 m4) | ((with_reducible (refine Veil.out ?_; apply wl_storeC oneE4)); (case hx => rfl); (case hy => rfl); (case h1 => rfl); (case hB => exact b4); (case hi => omega); rintro W5 b5 m5))
        go_roundw
        case rel =>
          have h9 := hi1.out
          have mm : Mod (· = bA) wr W5 := m21.trans (m22.trans (m3.trans (m4.trans m5)))
          have b5' : Blk W5 bA (acap * 29) 176 (restA (updv (updv dA (i * 29 + 20) (.int .u64 0)) (i * 29 + 25) (.slice none 0 0)) (i * 29)) := b5
          have hmu : ∀ b, ¬ Mu own b → ¬ b = bA := fun b hb q => hb (by rw [q]; show own bA ≠ 0; rw [show own bA = 1 from q5]; decide)
          obtain ⟨r6, r7, r8⟩ := restA_in (d := (updv (updv dA (i * 29 + 20) (.int .u64 0)) (i * 29 + 25) (.slice none 0 0))) (o := i * 29)
          have hnew : AcctC (Mu own) W5 (restA (updv (updv dA (i * 29 + 20) (.int .u64 0)) (i * 29 + 25) (.slice none 0 0)) (i * 29)) (i * 29) (EAcct.rest V.accts[i]) := by
            rw [hx.out, hsr.out, if_pos rfl, if_pos rfl]
            exact acct_rest hs mm hmu (fun j hj => by rw [restA_out (by omega), updv_ne _ _ (by omega), updv_ne _ _ (by omega)]) (by rw [restA_out (by omega), updv_ne _ _ (by omega), updv_same]; rfl) (by decide) (fun j hj => by rw [restA_out (by omega), updv_ne _ _ (by omega), updv_ne _ _ (by omega)]) (by rw [restA_out (by omega), updv_same]; exact NL.nil) r6 r7 r8
          refine ⟨i1, rfl, by omega, ?_, hMr.trans (mm.sub (fun b hb => by have hb2 : b = bA := hb; rw [hb2]; exact q5))⟩
          rw [← h9, mapN_step _ _ hlt']
          refine hXr.acctSet mm q5 hg8 ?_ (by rw [List.length_set])
          have hv := e35
          rw [show nA = (mapN EAcct.rest i V.accts).length by rw [mapN_len, hnA.out]] at hv
          exact GRow.change hv (by rw [mapN_len, hnA.out]; exact q2) q3 b5' q5 q6 i _ (fun j hj => by rw [restA_out (by omega), updv_ne _ _ (by omega), updv_ne _ _ (by omega)]) (fun _ _ _ _ hc k => k.moveE mm hmu hc) hnew
        case measure => exact meas_ltE hi1.out hlt
    · have z1 : ¬ (i : Int) < nA := by omega
      obtain rfl : i = nA := by omega
      rw [← hnA.out, mapN_all, ← hLS.out] at hXr
      go_wp2
      go_end0
      exact ⟨rfl, c7, hXr, fun i hi => k7.out i (by omega), m8'.trans (hMr.sub (fun b hb => by have hb2 : own b = 1 := hb; rw [hb2]; decide))⟩
end
end Go.Proofs.YgvahwGreat
