import Derived.Test.YgvahwGreatVaultQ
import Derived.Test.YgvahwGreatIg
import Derived.Test.YgvahwGreatIb
import Derived.Test.YgvahwGreatKc
import Derived.Test.YgvahwGreatU256F
namespace Go.Proofs.YgvahwGreat
open Go.RowKit
set_option linter.unusedSimpArgs false
theorem oneF4 : OneT 4 := oneT_of (by kernel_rfl) (by kernel_rfl)
theorem oneF21 : OneT 21 := oneT_of (by kernel_rfl) (by kernel_rfl)
theorem oneF26 : OneT 24 := oneT_of (by kernel_rfl) (by kernel_rfl)
theorem oneF32 : OneT 23 := oneT_of (by kernel_rfl) (by kernel_rfl)
theorem oneF77 : OneT 90 := oneT_of (by kernel_rfl) (by kernel_rfl)
theorem oneF78 : OneT 91 := oneT_of (by kernel_rfl) (by kernel_rfl)
theorem oneF112 : OneT 56 := oneT_of (by kernel_rfl) (by kernel_rfl)
theorem rtF118 : RowT 127 64 := rowT_of (by kernel_rfl) (by kernel_rfl)
theorem rtF28 : RowT 33 32 := rowT_of (by kernel_rfl) (by kernel_rfl)
def z118f : Array Value := #[.int .u8 0, .int .u8 0, .int .u8 0, .int .u8 0, .int .u8 0, .int .u8 0, .int .u8 0, .int .u8 0, .int .u8 0, .int .u8 0, .int .u8 0, .int .u8 0, .int .u8 0, .int .u8 0, .int .u8 0, .int .u8 0, .int .u8 0, .int .u8 0, .int .u8 0, .int .u8 0, .int .u8 0, .int .u8 0, .int .u8 0, .int .u8 0, .int .u8 0, .int .u8 0, .int .u8 0, .int .u8 0, .int .u8 0, .int .u8 0, .int .u8 0, .int .u8 0, .int .u8 0, .int .u8 0, .int .u8 0, .int .u8 0, .int .u8 0, .int .u8 0, .int .u8 0, .int .u8 0, .int .u8 0, .int .u8 0, .int .u8 0, .int .u8 0, .int .u8 0, .int .u8 0, .int .u8 0, .int .u8 0, .int .u8 0, .int .u8 0, .int .u8 0, .int .u8 0, .int .u8 0, .int .u8 0, .int .u8 0, .int .u8 0, .int .u8 0, .int .u8 0, .int .u8 0, .int .u8 0, .int .u8 0, .int .u8 0, .int .u8 0, .int .u8 0]
theorem z118fE : zeroOf Hvah.prog 127 = some z118f := by kernel_rfl
theorem z118fs : z118f.size = 64 := by kernel_rfl
theorem uFromF {x : Nat} (hx : x < P256) (w : World) : Calls Hvah.prog 92 #[.agg (bw x)] w fun e w' => e = .returned (wv x) ∧ Ext w w' := by
  have := uFromBytes (beL 32 x) w (len32 hx) (digits_beL 32 x)
  rw [bev_beL] at this
  exact this
theorem bat_oneF {c : Nat → Value} {o a : Nat} (h : BAt c o a) (ha : a < P256) (q : Nat) (hq : q < 32) : (c (o + q)).oneCell' = true := by
  have hs := bwS ha
  have hq2 : q < (bw a).size := by rw [hs]; exact hq
  rw [h q (bw a)[q] (Array.getElem?_eq_getElem hq2)]
  exact bwO a _ (by simp)
section
variable {ops : Array Oper} {a : Act} {w : World} {Q : Exit → Act → World → Prop} {rest : List Oper} {dst : Option Tmp} {ty : TypeId} {pos : String} {aft : Array Edge}
theorem wl_loadBF {x : Operand} {tt : TypeId} {b i n v : Nat} {c : Nat → Value} (hx : a.eval x = .pointer (some ⟨b, i, none⟩)) (hB : Blk w b n tt c) (hA : BAt c i v) (hv : v < P256) (hi : i + 32 ≤ n) (h : wpList Hvah.prog ops Q rest (a.put dst (.agg (bw v))) w) : Veil (wpList Hvah.prog ops Q (⟨dst, .load 33 x, ty, pos, aft, none⟩ :: rest) a w) :=
  wl_loadRow rtF28 hx hB hi (by rw [rowOf_bw hA hv]; exact h)
end
theorem yieldsE_Wf {S : World → Prop} {ops : Array Oper} {o : Oper} {a : Act} {x : Operand} {tt : TypeId} {b i n y : Nat} (hw : Region.wanted o (yielded ops a.tmps) = true) (hop : o.op = .load 79 x) (hx : a.eval x = .pointer (some ⟨b, i, none⟩)) (hB : ∀ w, S w → ∃ c, Blk w b n tt c ∧ WAt c i y) (hi : i + 4 ≤ n) : YieldsIf Hvah.prog ops S o (wv y) a := by
  obtain ⟨d, h1, h2⟩ := rt66.desc
  exact yieldsIf_load_mid hw 79 x hop b i hx (wvA y).toList d (fun w h j v hv => by
    obtain ⟨c, hc, hW⟩ := hB w h
    exact hW.rowIn hc hi j v (by simpa using hv)) h1 h2 (by rw [rt66.size]; rfl)
/-- A copy of an input's bytes. -/
theorem vCopiedX (O O' : Nat → Prop) (v : Value) (l : List Nat) (w : World) (hO : Small O w) (h : NLx O' w v l) (hle : l.length ≤ 140737488355328) :
    Calls Hvah.prog 86 #[v] w fun e w' => ∃ r, e = .returned r ∧ NL O w' r l ∧ Ext w w' := by
  obtain ⟨o, c, rfl, hc, hm, hb⟩ := h
  have hd := hb.lt
  by_cases hne : l = []
  · subst hne
    go_enter Hvah.func86, Hvah.ntmps86
    go_wp2
    go_ret
    exact ⟨_, rfl, NL.nil, Ext.refl _⟩
  · have hl : ((l.length : Int) == 0) = false := by
      have := List.length_pos_iff.2 hne
      simp; omega
    go_enter Hvah.func86, Hvah.ntmps86
    go_wp2_with (first
      | (at_make; refine wl_make_bytes Hvah.underlying23 l.length rfl rfl hle ?_)
      | ((with_reducible (refine Veil.out ?_; apply wl_copy_bytes Hvah.underlying23 (L := List.replicate l.length 0) (t := 5) (l := l))); (case hd => rfl); (case hs => rfl); (case hg => exact heap_new _ _); (case hl => simp); (case hsrc => exact (hb.ext ((Ext.refl _).alloc _ _)).src hne); (case hfit => simp)))
    go_ret
    refine ⟨_, rfl, ?_, ((Ext.refl _).alloc _ _).setRow (Nat.le_refl _) _⟩
    refine NL.row (t := 5) ?_ hd (fun hx => Nat.lt_irrefl _ (hO _ hx)) rfl hle
    rw [setRow_heap _ _ _ _ _ _ (heap_new _ _)]
/-- An empty vault. -/
def EV.zero : EV := ⟨[], [], [], [], [], 0, []⟩
def EV.fillS (i : Nat) (V : EV) (s : Nat × Nat) : EV := (V.needS i s.1).modS (V.atS i s.1) fun y => { y with val := s.2, orig := s.2 }
def EV.fillA1 (V : EV) (x : IAcct) : EV := ((V.need x.addr).modA (V.at_ x.addr) fun y => { y with nonce := x.nonce, bal := x.bal }).modA (V.at_ x.addr) fun y => { y with code := x.code }
def EV.fillA (V : EV) (x : IAcct) : EV := x.slots.foldl (EV.fillS (V.at_ x.addr)) (V.fillA1 x)
/-- The vault of an input world. -/
def fillV (l : List IAcct) : EV := l.foldl EV.fillA EV.zero
theorem fillS_len (i : Nat) (V : EV) (s : Nat × Nat) : (EV.fillS i V s).accts = V.accts ∧ (EV.fillS i V s).slots.length ≤ V.slots.length + 1 := by
  unfold EV.fillS EV.modS EV.needS
  split
  · exact ⟨rfl, by simp⟩
  · exact ⟨rfl, by simp⟩
theorem needS_accts (V : EV) (i k : Nat) : (V.needS i k).accts = V.accts := by unfold EV.needS; split <;> rfl
theorem needS_slen (V : EV) (i k : Nat) : V.atS i k < (V.needS i k).slots.length ∧ (V.needS i k).slots.length ≤ V.slots.length + 1 := by
  unfold EV.needS EV.atS
  cases h : ixG ESlot.kc (i, k) V.slots with
  | none => simp
  | some j => have := ix_lt_of h; simp; exact this
theorem fillA1_len (V : EV) (x : IAcct) : (V.fillA1 x).accts.length = (V.need x.addr).accts.length ∧ (V.fillA1 x).slots = V.slots := by
  unfold EV.fillA1 EV.modA EV.need
  split <;> simp
theorem WAt.moveF {c c' : Nat → Value} {p q x : Nat} (h : WAt c p x) (hc : ∀ j, j < 4 → c' (q + j) = c (p + j)) : WAt c' q x := by
  refine ⟨?_, ?_, ?_, ?_⟩
  · have := hc 0 (by decide); rw [Nat.add_zero, Nat.add_zero] at this; rw [this]; exact h.c0
  · rw [hc 1 (by decide)]; exact h.c1
  · rw [hc 2 (by decide)]; exact h.c2
  · rw [hc 3 (by decide)]; exact h.c3
theorem NLx.elsewhere {O : Nat → Prop} {w w' : World} {v : Value} {l : List Nat} (h : NLx O w v l) (e : Ext w w') : NLx O w' v l := h.ext e
/-- What of the chain's block is zero. -/
structure ZeroC (c : Nat → Value) : Prop where
  a : c 2435 = .slice none 0 0
  s : c 2436 = .slice none 0 0
  j : c 10629 = .slice none 0 0
  nm : c 27014 = .int .i32 0
  ref : c 27015 = .int .u64 0
  logs : c 27016 = .slice none 0 0
  temps : c 27017 = .slice none 0 0
  ttab : c 27018 = .slice none 0 0
theorem meas_ltF {n j j2 : Nat} (h9 : j + 1 = j2) (h : j < n) : n - (intOf (.int .i64 (j2 : Nat))).toNat < n - (intOf (.int .i64 (j : Nat))).toNat := by
  simp only [intOf, Int.toNat_natCast]; omega
theorem tok_empty (hm : Nat → Nat) : TOK 4096 0 hm (fun _ => -1) := ⟨fun _ _ => Or.inl rfl, fun _ _ _ _ h => absurd h (by decide), fun i hi => absurd hi (Nat.not_lt_zero _)⟩
theorem zero_rep {w : World} {g : Nat} {c c0 : Nat → Value} (hB : Blk w g 27024 105 c) (hz : ZeroC c0) (h1 : ∀ p, p < 4096 → c (2437 + p) = .int .i32 (-1) ∧ c (6533 + p) = .int .i32 (-1)) (h2 : ∀ i, i < 2437 ∨ 10629 ≤ i → c i = c0 i) : VRep (fun b => if b = g then 8 else 0) w g c EV.zero where
  blk := hB
  tag := if_pos rfl
  fresh := fun b hb => if_neg (fun q => by have := hB.lt; omega)
  wf := ⟨List.Pairwise.nil, List.Pairwise.nil, List.Pairwise.nil, fun s hs => absurd hs List.not_mem_nil, fun s hs => absurd hs List.not_mem_nil⟩
  jok := ⟨fun e he => absurd he List.not_mem_nil, fun p hp => absurd hp List.not_mem_nil, List.Pairwise.nil⟩
  nA := Nat.zero_le _
  nS := Nat.zero_le _
  nT := Nat.zero_le _
  nJ := Nat.zero_le _
  nL := Nat.zero_le _
  nM := Nat.zero_le _
  accts := Or.inl ⟨rfl, (h2 2435 (Or.inl (by decide))).trans hz.a⟩
  slots := Or.inl ⟨rfl, (h2 2436 (Or.inl (by decide))).trans hz.s⟩
  temps := Or.inl ⟨rfl, (h2 27017 (Or.inr (by decide))).trans hz.temps⟩
  jrn := Or.inl ⟨rfl, (h2 10629 (Or.inr (by decide))).trans hz.j⟩
  logs := Or.inl ⟨rfl, (h2 27016 (Or.inr (by decide))).trans hz.logs⟩
  tA := ⟨fun _ => -1, fun p hp => (h1 p hp).1, tok_empty _⟩
  tS := ⟨fun _ => -1, fun p hp => (h1 p hp).2, tok_empty _⟩
  tT := Or.inl ⟨rfl, (h2 27018 (Or.inr (by decide))).trans hz.ttab⟩
  marks := fun id h => absurd h (Nat.not_lt_zero _)
  nm := (h2 27014 (Or.inr (by decide))).trans hz.nm
  ref := (h2 27015 (Or.inr (by decide))).trans hz.ref
  rLt := by decide
section
variable {O : Nat → Prop} {w0 w : World} {g : Nat} {c0 : Nat → Value} {v : Value} {l : List IAcct}
set_option maxRecDepth 100000 in
set_option maxHeartbeats 6400000 in
theorem vFillBad (h : EL 55 (IAcC O w) O w v l) (hl : worldOKI l = false) : Calls Hvah.prog 38 #[.pointer (some ⟨g, 2435, none⟩), v] w fun e w' => e = .returned (.bool false) ∧ Ext w w' := by
  have HW := fun W (hW : Ext w W) => oWorldOK (h.mono hW (fun _ _ _ k => k.ext hW))
  rw [hl] at HW
  go_enter Hvah.func38, Hvah.ntmps38
  go_wp2_with (go_at_call 40; refine (HW _ (by (repeat (first | with_reducible exact Ext.refl _ | with_reducible assumption | refine Ext.trans ?_ (by with_reducible assumption) | refine Ext.alloc ?_ _ _ | refine Ext.drew ?_ | refine Ext.drewN ?_ _)))).mono ?_; rintro e w1 ⟨rfl, he⟩)
  go_ret
  exact ⟨rfl, he⟩
set_option maxRecDepth 100000 in
set_option maxHeartbeats 6400000 in
theorem vFill (hin : EL 55 (IAcC O w0) O w0 v l) (hl : worldOKI l = true) (hw0 : Ext w0 w) (hg : w0.heap.size ≤ g) (hB : Blk w g 27024 105 c0) (hz : ZeroC c0) : Calls Hvah.prog 38 #[.pointer (some ⟨g, 2435, none⟩), v] w fun e w' => ∃ own c', e = .returned (.bool true) ∧ VRep own w' g c' (fillV l) ∧ (∀ i, i < 2435 ∨ 27019 ≤ i → c' i = c0 i) ∧ (∀ b, b < w.heap.size → own b = if b = g then 8 else 0) ∧ Mod (· = g) w w' := by
  have HW := fun W (hW : Ext w W) => oWorldOK (hin.mono (hw0.trans hW) (fun _ _ _ k => k.ext (hw0.trans hW)))
  rw [hl] at HW
  obtain ⟨hl8, _, hlok, _⟩ := (worldOKI_iff l).1 hl
  obtain ⟨vo, vc, hv, hv1, hv2⟩ := hin.slice
  obtain ⟨n, hn⟩ : ∃ n, Hid (l.length = n) := ⟨_, rfl⟩
  rw [hn.out] at hv hv1 hl8
  subst hv
  go_enter Hvah.func38, Hvah.ntmps38
  go_upto_block 0 with (go_at_call 40; refine (HW _ (by (repeat (first | with_reducible exact Ext.refl _ | with_reducible assumption | refine Ext.trans ?_ (by with_reducible assumption) | refine Ext.alloc ?_ _ _ | refine Ext.drew ?_ | refine Ext.drewN ?_ _)))).mono ?_; rintro e w1 ⟨rfl, he⟩)
  try simp only [Act.put]
  have hB1 := hB.ext he
  go_cut [] (fun wx => ∃ c1, Blk wx g 27024 105 c1 ∧ (∀ p, p < 4096 → c1 (2437 + p) = .int .i32 (-1) ∧ c1 (6533 + p) = .int .i32 (-1)) ∧ (∀ i, i < 2437 ∨ 10629 ≤ i → c1 i = c0 i) ∧ Mod (· = g) w wx)
  case first =>
    go_upto_region 4 with (fail)
    try simp only [Act.put]
    go_loopw [16] (fun iv wr => ∃ (i : Nat) (c1 : Nat → Value), iv = .int .i64 (i : Nat) ∧ i ≤ 4096 ∧ Blk wr g 27024 105 c1 ∧ Hid (∀ p, p < i → c1 (2437 + p) = .int .i32 (-1) ∧ c1 (6533 + p) = .int .i32 (-1)) ∧ Hid (∀ i, i < 2437 ∨ 10629 ≤ i → c1 i = c0 i) ∧ Mod (· = g) w wr) (fun iv _ => 4096 - (intOf iv).toNat)
    case atStart => exact ⟨0, c0, rfl, Nat.zero_le _, hB1, (fun p hp => absurd hp (Nat.not_lt_zero _) : ∀ p, p < 0 → _), (fun _ _ => rfl : ∀ i, _ → _), he.mod _⟩
    case round =>
      obtain ⟨i, c1, rfl, hi, b1, hp, ho, hm⟩ := hrel
      rcases Nat.lt_or_ge i 4096 with hlt | hge
      · have z1 : (i : Int) < 4096 := by omega
        obtain ⟨i1, hi1⟩ : ∃ z : Nat, Hid ((i + 1 : Nat) = z) := ⟨_, rfl⟩
        have j1 : IntKind.i64.wrap ((i : Int) + 1) = (i1 : Int) := by rw [IntKind.wrap_i64, ← hi1.out]; omega
        go_upto_region 7 with ((with_reducible (refine Veil.out ?_; apply wl_storeC oneF21)); (case hx => rfl); (case hy => rfl); (case h1 => rfl); (case hB => exact b1); (case hi => omega); rintro W2 b2 m2)
        go_wp2_with ((with_reducible (refine Veil.out ?_; apply wl_storeC oneF21)); (case hx => rfl); (case hy => rfl); (case h1 => rfl); (case hB => exact b2); (case hi => omega); rintro W3 b3 m3)
        go_roundw
        case rel =>
          have h9 := hi1.out
          refine ⟨i1, _, rfl, by omega, b3, ?_, ?_, hm.trans (m2.trans m3)⟩
          · show ∀ p, p < i1 → _
            intro p hp2
            by_cases e : p = i
            · subst e
              exact ⟨by rw [updv_ne _ _ (by omega), updv_same]; rfl, by rw [updv_same]; rfl⟩
            · rw [updv_ne _ _ (by omega), updv_ne _ _ (by omega), updv_ne _ _ (by omega), updv_ne _ _ (by omega)]
              exact hp.out p (by omega)
          · show ∀ j, j < 2437 ∨ 10629 ≤ j → _
            intro j hj
            rw [updv_ne _ _ (by omega), updv_ne _ _ (by omega)]
            exact ho.out j hj
        case measure => exact meas_ltF hi1.out hlt
      · have z1 : ¬ (i : Int) < 4096 := by omega
        obtain rfl : i = 4096 := by omega
        go_wp2
        go_meet
        case rel => exact ⟨c1, b1, hp.out, ho.out, hm⟩
  case rest =>
  obtain ⟨W1, e9⟩ : ∃ X, X = wc := ⟨_, rfl⟩
  subst e9
  obtain ⟨c1, b1, hp1, ho1, hm1⟩ := hcut
  have hR0 := zero_rep b1 hz hp1 ho1
  obtain ⟨own0, hown0⟩ : ∃ z, Hid ((fun b => if b = g then 8 else 0 : Nat → Nat) = z) := ⟨_, rfl⟩
  rw [hown0.out] at hR0
  have hog : ∀ b, own0 b ≠ 0 → b = g := fun b hb => by
    rw [← hown0.out] at hb
    exact Classical.byContradiction (fun q => hb (if_neg q))
  have hEm : ∀ W, Mod (fun b => (own0 b ≠ 0 ∧ own0 b ≠ 9) ∧ own0 b ≠ 7) W1 W → Ext w0 W := fun W hW => Ext.trans_mod hw0 (hm1.trans (hW.sub (fun b hb => hog b hb.1.1))) (fun q hq => by have hq2 : q = g := hq; rw [hq2]; exact hg)
  clear hB hB1 b1 hp1 he HW
  go_upto_region 10 with (fail)
  try simp only [Act.put]
  go_loopw [32] (fun iv wr => ∃ (i : Nat) (own : Nat → Nat) (c : Nat → Value) (V : EV), iv = .int .i64 (i : Nat) ∧ i ≤ n ∧ VRep own wr g c V ∧ Hid (V = (l.take i).foldl EV.fillA EV.zero) ∧ V.accts.length ≤ i ∧ V.slots.length ≤ 16 * i ∧ VStep own0 W1 c1 own wr c) (fun iv _ => n - (intOf iv).toNat)
  case atStart => exact ⟨0, own0, c1, EV.zero, rfl, Nat.zero_le _, hR0, (rfl : _ = _), Nat.le_refl _, Nat.le_refl _, VStep.ext (Ext.refl _)⟩
  case round =>
    obtain ⟨i, own, c, V, rfl, hi, hR, hV, hnA, hnS, hS⟩ := hrel
    rcases Nat.lt_or_ge i n with hlt | hge
    · have z1 : (i : Int) < n := by omega
      have hil : i < l.length := by rw [hn.out]; exact hlt
      rcases hin with ⟨rfl, _⟩ | ⟨b, off, cap, cs, hv, hcap, hc2', hOb, hb, hcell, hrow⟩
      · simp at hil
      injection hv with hv1' hv2' hv3'
      clear hv2'
      subst hv1'
      subst hv3'
      have hri := hrow i hil
      have hxok := hlok i hil
      obtain ⟨x, hx⟩ : ∃ x, Hid (l[i] = x) := ⟨l[i], rfl⟩
      have htk : (l.take (i + 1)).foldl EV.fillA EV.zero = EV.fillA ((l.take i).foldl EV.fillA EV.zero) l[i] := by rw [List.take_succ_eq_append_getElem hil, List.foldl_append]; rfl
      rw [hx.out] at hri hxok htk
      rw [← hV.out] at htk
      replace htk := (show Hid _ from htk)
      have hxs : x.code.length ≤ 256 ∧ x.slots.length ≤ 16 := by
        unfold IAcct.ok at hxok
        rw [Bool.and_eq_true, Bool.and_eq_true, decide_eq_true_iff] at hxok
        exact hxok.1.2
      obtain ⟨hxs1, hxs2⟩ := hxs
      obtain ⟨i1, hi1⟩ : ∃ z : Nat, Hid ((i + 1 : Nat) = z) := ⟨_, rfl⟩
      have j1 : IntKind.i64.wrap ((i : Int) + 1) = (i1 : Int) := by rw [IntKind.wrap_i64, ← hi1.out]; omega
      have hbm : ∀ W, Ext w0 W → ∀ j, j < 55 → W.cell? ⟨b, off + i * 55 + j, none⟩ = some (cs (i * 55 + j)) := fun W hW j hj => by
        rw [Nat.add_assoc]
        exact (hW.cell (p := ⟨b, off + (i * 55 + j), none⟩) hb).trans (hcell _ (by omega))
      have hEr : Ext w0 wr := hEm _ hS.mod
      have ha := hri.aLt
      have hbl := hri.bLt
      have hRa : RowIn wr b (off + i * 55) (av x.addr) := fun j u hu => by
        have hj := (Array.getElem?_eq_some_iff.1 hu).1
        rw [av_size ha] at hj
        rw [hbm _ hEr j (by omega), hri.addr j u hu]
      have HAc := fun W (hW : Ext wr W) => vAcct (hR.ext hW) ha (fun _ => by omega)
      have hnl := need_len V x.addr
      have hnsl : (V.need x.addr).slots = V.slots := by unfold EV.need; split <;> rfl
      obtain ⟨at_, hat_⟩ : ∃ z, Hid (V.at_ x.addr = z) := ⟨_, rfl⟩
      obtain ⟨V2, hV2⟩ : ∃ z, Hid (V.need x.addr = z) := ⟨_, rfl⟩
      rw [hat_.out] at HAc hnl
      rw [hV2.out] at HAc hnl hnsl
      obtain ⟨hnl1, hnl2, hnl3⟩ := hnl
      clear hxok
      go_upto_region 13 with (first | ((with_reducible (refine Veil.out ?_; apply wl_loadR rt25)); (case hn => exact av_size ha); (case hx => rfl); (case hr => exact hRa)) | (go_at_call 91; refine (HAc _ (by (repeat (first | with_reducible exact Ext.refl _ | with_reducible assumption | refine Ext.trans ?_ (by with_reducible assumption) | refine Ext.alloc ?_ _ _ | refine Ext.drew ?_ | refine Ext.drewN ?_ _)))).mono ?_; rintro e w2 ⟨rfl, own2, c2, h2, s2⟩))
      have hS2 := hS.trans s2
      have hE2 : Ext w0 w2 := hEm _ hS2.mod
      have hin0 : ∀ b, b < w0.heap.size → own2 b = 0 := fun b hb => by
        rw [hS2.keep b (Nat.lt_of_lt_of_le hb (Nat.le_trans hw0.size hm1.size)), ← hown0.out]
        exact if_neg (by omega)
      rcases h2.accts with ⟨q, _⟩ | ⟨bA, cA, dA, q1, q2, q3, q4, q5, q6⟩
      · rw [q] at hnl3
        exact absurd hnl3 (Nat.not_lt_zero _)
      have q1' := q1
      have q2' := q2
      obtain ⟨nA, hnA2⟩ : ∃ z, Hid (V2.accts.length = z) := ⟨_, rfl⟩
      rw [hnA2.out] at q1' q2'
      have hatn : at_ < nA := by rw [← hnA2.out]; exact hnl3
      have za : (at_ : Int) < nA := by omega
      have hgA : ¬ g = bA := fun q => by
        have q5' : own2 bA = 1 := q5
        rw [← q, h2.tag] at q5'
        exact absurd q5' (by decide)
      have hbA0 : w0.heap.size ≤ bA := Classical.byContradiction (fun q => by
        have q5' : own2 bA = 1 := q5
        rw [hin0 bA (by omega)] at q5'
        exact absurd q5' (by decide))
      have HE2 : ∀ W, Mod (fun x => x = bA) w2 W → Ext w0 W := fun W hW => Ext.trans_mod hE2 hW (fun q hq => by have hq2 : q = bA := hq; rw [hq2]; exact hbA0)
      have KA : ∀ W, Mod (fun x => x = bA) w2 W → W.cell? ⟨g, 2435, none⟩ = some (.slice (some ⟨bA, 0, none⟩) nA cA) := fun W hW => by rw [(h2.blk.mod hW hgA).cell (by decide), q1']
      have KI : ∀ W, Mod (fun x => x = bA) w2 W → ∀ j, j < 55 → W.cell? ⟨b, off + i * 55 + j, none⟩ = some (cs (i * 55 + j)) := fun W hW => hbm W (HE2 W hW)
      have KB : ∀ W, Mod (fun x => x = bA) w2 W → RowIn W b (off + i * 55 + 21) (bw x.bal) := fun W hW j u hu => by
        have hj := (Array.getElem?_eq_some_iff.1 hu).1
        rw [bwS hbl] at hj
        rw [Nat.add_assoc, KI W hW (21 + j) (by omega), ← Nat.add_assoc, hri.bal j u hu]
      have hce : at_ * 29 + 29 ≤ cA * 29 := by omega
      refine w_ext ?_
      rintro W0 hW0
      refine wp_region_held_drew (S := fun w' => Mod (fun x => x = bA) W0 w') (by kernel_rfl) (Mod.refl _ _).drew (fun hHeld => ?_)
      have HH : Hid (Mod (fun x => x = bA) W0 _) := hHeld
      clear hHeld
      refine wpAnyH_take (i := 0) (v := ?_) rfl (by kernel_rfl) (by kernel_rfl) (by kernel_rfl) (fun _ _ _ h => h) (Or.inl ⟨by rfl, ?_⟩) HH.out ?_
      rotate_left
      · intro w hSw; go_simp; try with_reducible rfl
      change wpAnyH _ _ _ _ _ _ _ (Act.put _ (some 45) _) _
      simp only [Act.put, List.setIfInBounds_toArray, List.set_cons_zero, List.set_cons_succ]
      refine wpAnyH_take (i := 1) (v := ?_) rfl (by kernel_rfl) (by kernel_rfl) (by kernel_rfl) (fun _ _ _ h => h) (Or.inl ⟨by rfl, ?_⟩) HH.out ?_
      rotate_left
      · intro w hSw; go_simp; try with_reducible rfl
      change wpAnyH _ _ _ _ _ _ _ (Act.put _ (some 46) _) _
      simp only [Act.put, List.setIfInBounds_toArray, List.set_cons_zero, List.set_cons_succ]
      refine wpAnyH_take (i := 2) (v := ?_) rfl (by kernel_rfl) (by kernel_rfl) (by kernel_rfl) (fun _ _ _ h => h) (Or.inl ⟨by rfl, ?_⟩) HH.out ?_
      rotate_left
      · intro w hSw; go_simp; try with_reducible rfl
      change wpAnyH _ _ _ _ _ _ _ (Act.put _ (some 47) _) _
      simp only [Act.put, List.setIfInBounds_toArray, List.set_cons_zero, List.set_cons_succ]
      refine wpAnyH_take (i := 3) rfl (by kernel_rfl) (by kernel_rfl) (by kernel_rfl) (fun _ _ _ h => h) (yieldsIf_load1 (by rfl) _ _ rfl _ _ rfl oneF77 _ (fun w hSw => KA _ ((hW0.mod _).trans hSw))) HH.out ?_
      change wpAnyH _ _ _ _ _ _ _ (Act.put _ (some 48) _) _
      simp only [Act.put, List.setIfInBounds_toArray, List.set_cons_zero, List.set_cons_succ]
      refine wpAnyH_take (i := 4) (v := ?_) rfl (by kernel_rfl) (by kernel_rfl) (by kernel_rfl) (fun _ _ _ h => h) (Or.inl ⟨by rfl, ?_⟩) HH.out ?_
      rotate_left
      · intro w hSw; go_simp; try with_reducible rfl
      change wpAnyH _ _ _ _ _ _ _ (Act.put _ (some 49) _) _
      simp only [Act.put, List.setIfInBounds_toArray, List.set_cons_zero, List.set_cons_succ]
      refine wpAnyH_take (i := 5) (v := ?_) rfl (by kernel_rfl) (by kernel_rfl) (by kernel_rfl) (fun _ _ _ h => h) (Or.inl ⟨by rfl, ?_⟩) HH.out ?_
      rotate_left
      · intro w hSw; go_simp; try with_reducible rfl
      change wpAnyH _ _ _ _ _ _ _ (Act.put _ (some 50) _) _
      simp only [Act.put, List.setIfInBounds_toArray, List.set_cons_zero, List.set_cons_succ]
      refine wpAnyH_take (i := 6) (v := ?_) rfl (by kernel_rfl) (by kernel_rfl) (by kernel_rfl) (fun _ _ _ h => h) (Or.inl ⟨by rfl, ?_⟩) HH.out ?_
      rotate_left
      · intro w hSw; go_simp; try with_reducible rfl
      change wpAnyH _ _ _ _ _ _ _ (Act.put _ (some 51) _) _
      simp only [Act.put, List.setIfInBounds_toArray, List.set_cons_zero, List.set_cons_succ]
      refine wpAnyH_take (i := 7) (v := ?_) rfl (by kernel_rfl) (by kernel_rfl) (by kernel_rfl) (fun _ _ _ h => h) (Or.inl ⟨by rfl, ?_⟩) HH.out ?_
      rotate_left
      · intro w hSw; go_simp; try with_reducible rfl
      change wpAnyH _ _ _ _ _ _ _ (Act.put _ (some 52) _) _
      simp only [Act.put, List.setIfInBounds_toArray, List.set_cons_zero, List.set_cons_succ]
      refine wpAnyH_take (i := 8) (v := ?_) rfl (by kernel_rfl) (by kernel_rfl) (by kernel_rfl) (fun _ _ _ h => h) (Or.inl ⟨by rfl, ?_⟩) HH.out ?_
      rotate_left
      · intro w hSw; go_simp; try with_reducible rfl
      change wpAnyH _ _ _ _ _ _ _ (Act.put _ (some 53) _) _
      simp only [Act.put, List.setIfInBounds_toArray, List.set_cons_zero, List.set_cons_succ]
      refine wpAnyH_take (i := 9) rfl (by kernel_rfl) (by kernel_rfl) (by kernel_rfl) (fun _ _ _ h => h) (yieldsIf_load1 (by rfl) _ _ rfl _ _ rfl oneF26 _ (fun w hSw => (KI _ ((hW0.mod _).trans hSw) 20 (by decide)).trans (congrArg some hri.nonce))) HH.out ?_
      change wpAnyH _ _ _ _ _ _ _ (Act.put _ (some 54) _) _
      simp only [Act.put, List.setIfInBounds_toArray, List.set_cons_zero, List.set_cons_succ]
      refine wpAnyH_take (i := 10) (v := ?_) rfl (by kernel_rfl) (by kernel_rfl) (by kernel_rfl) (fun _ _ _ h => h) (Or.inl ⟨by rfl, ?_⟩) HH.out ?_
      rotate_left
      · intro w hSw; go_simp; try with_reducible rfl
      change wpAnyH _ _ _ _ _ _ _ (Act.put _ (some 55) _) _
      simp only [Act.put, List.setIfInBounds_toArray, List.set_cons_zero, List.set_cons_succ]
      refine wpAnyH_take (i := 11) (v := ?_) rfl (by kernel_rfl) (by kernel_rfl) (by kernel_rfl) (fun _ _ _ h => h) (Or.inl ⟨by rfl, ?_⟩) HH.out ?_
      rotate_left
      · intro w hSw; go_simp; try with_reducible rfl
      change wpAnyH _ _ _ _ _ _ _ (Act.put _ (some 56) _) _
      simp only [Act.put, List.setIfInBounds_toArray, List.set_cons_zero, List.set_cons_succ]
      refine wpAnyH_ready (rs := [12]) (by kernel_rfl) (by simp) ?_
      refine AllReadyH.cons rfl (fun K hK => ?_) AllReadyH.nil
      refine step_any rfl (op_store1 rfl oneF26 rfl rfl (rfl) (q4.ext (by (repeat (first | with_reducible exact Ext.refl _ | with_reducible assumption | refine Ext.trans ?_ (by with_reducible assumption) | refine Ext.alloc ?_ _ _ | refine Ext.drew ?_ | refine Ext.drewN ?_ _)))) (by omega) ?_)
      rintro W13 b13 m13
      refine hK.out _ _ ?_ (fun hHeld => ?_)
      · exact HH.out.trans m13
      clear hK K HH
      have HH : Hid (Mod (fun x => x = bA) W0 _) := hHeld
      clear hHeld
      change wpAnyH _ _ _ _ _ _ _ (Act.put _ none _) _
      simp only [Act.put, List.setIfInBounds_toArray, List.set_cons_zero, List.set_cons_succ]
      refine wpAnyH_done (by kernel_rfl) ?_ _
      replace b13 : Blk W13 bA (cA * 29) 176 (updv dA (at_ * 29 + 20) (.int .u64 (x.nonce : Nat))) := b13
      have M13 : Mod (fun x => x = bA) w2 W13 := (hW0.mod _).trans HH.out
      clear HH hW0
      go_upto_region 14 with (fail)
      refine w_ext ?_
      rintro W0 hW0
      refine wp_region_held_drew (S := fun w' => Mod (fun x => x = bA) W0 w') (by kernel_rfl) (Mod.refl _ _).drew (fun hHeld => ?_)
      have HH : Hid (Mod (fun x => x = bA) W0 _) := hHeld
      clear hHeld
      refine wpAnyH_take (i := 0) (v := ?_) rfl (by kernel_rfl) (by kernel_rfl) (by kernel_rfl) (fun _ _ _ h => h) (Or.inl ⟨by rfl, ?_⟩) HH.out ?_
      rotate_left
      · intro w hSw; go_simp; try with_reducible rfl
      change wpAnyH _ _ _ _ _ _ _ (Act.put _ (some 57) _) _
      simp only [Act.put, List.setIfInBounds_toArray, List.set_cons_zero, List.set_cons_succ]
      refine wpAnyH_take (i := 1) (v := ?_) rfl (by kernel_rfl) (by kernel_rfl) (by kernel_rfl) (fun _ _ _ h => h) (Or.inl ⟨by rfl, ?_⟩) HH.out ?_
      rotate_left
      · intro w hSw; go_simp; try with_reducible rfl
      change wpAnyH _ _ _ _ _ _ _ (Act.put _ (some 58) _) _
      simp only [Act.put, List.setIfInBounds_toArray, List.set_cons_zero, List.set_cons_succ]
      refine wpAnyH_take (i := 2) (v := ?_) rfl (by kernel_rfl) (by kernel_rfl) (by kernel_rfl) (fun _ _ _ h => h) (Or.inl ⟨by rfl, ?_⟩) HH.out ?_
      rotate_left
      · intro w hSw; go_simp; try with_reducible rfl
      change wpAnyH _ _ _ _ _ _ _ (Act.put _ (some 59) _) _
      simp only [Act.put, List.setIfInBounds_toArray, List.set_cons_zero, List.set_cons_succ]
      refine wpAnyH_take (i := 3) rfl (by kernel_rfl) (by kernel_rfl) (by kernel_rfl) (fun _ _ _ h => h) (yieldsIf_load1 (by rfl) _ _ rfl _ _ rfl oneF77 _ (fun w hSw => KA _ (M13.trans ((hW0.mod _).trans hSw)))) HH.out ?_
      change wpAnyH _ _ _ _ _ _ _ (Act.put _ (some 60) _) _
      simp only [Act.put, List.setIfInBounds_toArray, List.set_cons_zero, List.set_cons_succ]
      refine wpAnyH_take (i := 4) (v := ?_) rfl (by kernel_rfl) (by kernel_rfl) (by kernel_rfl) (fun _ _ _ h => h) (Or.inl ⟨by rfl, ?_⟩) HH.out ?_
      rotate_left
      · intro w hSw; go_simp; try with_reducible rfl
      change wpAnyH _ _ _ _ _ _ _ (Act.put _ (some 61) _) _
      simp only [Act.put, List.setIfInBounds_toArray, List.set_cons_zero, List.set_cons_succ]
      refine wpAnyH_take (i := 5) (v := ?_) rfl (by kernel_rfl) (by kernel_rfl) (by kernel_rfl) (fun _ _ _ h => h) (Or.inl ⟨by rfl, ?_⟩) HH.out ?_
      rotate_left
      · intro w hSw; go_simp; try with_reducible rfl
      change wpAnyH _ _ _ _ _ _ _ (Act.put _ (some 62) _) _
      simp only [Act.put, List.setIfInBounds_toArray, List.set_cons_zero, List.set_cons_succ]
      refine wpAnyH_take (i := 6) (v := ?_) rfl (by kernel_rfl) (by kernel_rfl) (by kernel_rfl) (fun _ _ _ h => h) (Or.inl ⟨by rfl, ?_⟩) HH.out ?_
      rotate_left
      · intro w hSw; go_simp; try with_reducible rfl
      change wpAnyH _ _ _ _ _ _ _ (Act.put _ (some 63) _) _
      simp only [Act.put, List.setIfInBounds_toArray, List.set_cons_zero, List.set_cons_succ]
      refine wpAnyH_take (i := 7) (v := ?_) rfl (by kernel_rfl) (by kernel_rfl) (by kernel_rfl) (fun _ _ _ h => h) (Or.inl ⟨by rfl, ?_⟩) HH.out ?_
      rotate_left
      · intro w hSw; go_simp; try with_reducible rfl
      change wpAnyH _ _ _ _ _ _ _ (Act.put _ (some 64) _) _
      simp only [Act.put, List.setIfInBounds_toArray, List.set_cons_zero, List.set_cons_succ]
      refine wpAnyH_take (i := 8) (v := ?_) rfl (by kernel_rfl) (by kernel_rfl) (by kernel_rfl) (fun _ _ _ h => h) (Or.inl ⟨by rfl, ?_⟩) HH.out ?_
      rotate_left
      · intro w hSw; go_simp; try with_reducible rfl
      change wpAnyH _ _ _ _ _ _ _ (Act.put _ (some 65) _) _
      simp only [Act.put, List.setIfInBounds_toArray, List.set_cons_zero, List.set_cons_succ]
      refine wpAnyH_take (i := 9) rfl (by kernel_rfl) (by kernel_rfl) (by kernel_rfl) (fun _ _ _ h => h) (yields_Re rtF28 (by rfl) rfl rfl (fun w hSw => KB _ (M13.trans ((hW0.mod _).trans hSw))) (bwS hbl)) HH.out ?_
      change wpAnyH _ _ _ _ _ _ _ (Act.put _ (some 66) _) _
      simp only [Act.put, List.setIfInBounds_toArray, List.set_cons_zero, List.set_cons_succ]
      refine wpAnyH_ready (rs := [10]) (by kernel_rfl) (by simp) ?_
      refine AllReadyH.cons rfl (fun K hK => ?_) AllReadyH.nil
      go_simp
      go_at_call 92; refine (uFromF hbl _).mono ?_; rintro e w14 ⟨rfl, he⟩
      refine hK.out _ _ ?_ (fun hHeld => ?_)
      · first | exact HH.out.trans hmY | exact HH.out.trans_ext he | exact HH.out
      clear hK K HH
      have HH : Hid (Mod (fun x => x = bA) W0 _) := hHeld
      clear hHeld
      refine wpAnyH_take (i := 11) (v := ?_) rfl (by kernel_rfl) (by kernel_rfl) (by kernel_rfl) (fun _ _ _ h => h) (Or.inl ⟨by rfl, ?_⟩) HH.out ?_
      rotate_left
      · intro w hSw; go_simp; try with_reducible rfl
      change wpAnyH _ _ _ _ _ _ _ (Act.put _ (some 68) _) _
      simp only [Act.put, List.setIfInBounds_toArray, List.set_cons_zero, List.set_cons_succ]
      refine wpAnyH_take (i := 12) (v := ?_) rfl (by kernel_rfl) (by kernel_rfl) (by kernel_rfl) (fun _ _ _ h => h) (Or.inl ⟨by rfl, ?_⟩) HH.out ?_
      rotate_left
      · intro w hSw; go_simp; try with_reducible rfl
      change wpAnyH _ _ _ _ _ _ _ (Act.put _ (some 69) _) _
      simp only [Act.put, List.setIfInBounds_toArray, List.set_cons_zero, List.set_cons_succ]
      refine wpAnyH_ready (rs := [13]) (by kernel_rfl) (by simp) ?_
      refine AllReadyH.cons rfl (fun K hK => ?_) AllReadyH.nil
      refine step_any rfl (op_storeWB rfl rfl rfl (b13.ext (by (repeat (first | with_reducible exact Ext.refl _ | with_reducible assumption | refine Ext.trans ?_ (by with_reducible assumption) | refine Ext.alloc ?_ _ _ | refine Ext.drew ?_ | refine Ext.drewN ?_ _)))) (by omega) ?_)
      rintro W14 d14 b14 a14 o14 m14
      refine hK.out _ _ ?_ (fun hHeld => ?_)
      · exact HH.out.trans m14
      clear hK K HH
      have HH : Hid (Mod (fun x => x = bA) W0 _) := hHeld
      clear hHeld
      change wpAnyH _ _ _ _ _ _ _ (Act.put _ none _) _
      simp only [Act.put, List.setIfInBounds_toArray, List.set_cons_zero, List.set_cons_succ]
      refine wpAnyH_done (by kernel_rfl) ?_ _
      have M14 : Mod (fun x => x = bA) w2 W14 := M13.trans ((hW0.mod _).trans HH.out)
      clear HH hW0
      have cell14 : ∀ j, (j < at_ * 29 + 20 ∨ at_ * 29 + 25 ≤ j) → d14 j = dA j := fun j hj => by rw [o14 j (by omega), updv_ne _ _ (by omega)]
      have non14 : d14 (at_ * 29 + 20) = .int .u64 (x.nonce : Nat) := by rw [o14 _ (by omega), updv_same]
      obtain ⟨h3, s3⟩ := modA_end (f := fun y => { y with nonce := x.nonce, bal := x.bal }) h2 q1 q2 q3 q5 hnl3 q6 b14 (fun j hj => cell14 j (by omega)) M14 (fun _ => rfl) (fun own' w' K => by
        have k := K.acct (fun _ _ => rfl) (q6 at_ hnl3)
        exact ⟨k.addr.same k.aLt (fun j hj => cell14 _ (by omega)), k.aLt, non14, hri.nLt, a14, hbl, by rw [cell14 _ (by omega)]; exact k.code, (cell14 _ (by omega)).trans k.warm, (cell14 _ (by omega)).trans k.made, (cell14 _ (by omega)).trans k.gone⟩)
      obtain ⟨V3, hV3⟩ : ∃ z, Hid ((V2.modA at_ fun y => { y with nonce := x.nonce, bal := x.bal }) = z) := ⟨_, rfl⟩
      have hV3l : V3.accts.length = V2.accts.length := by rw [← hV3.out]; simp [EV.modA]
      rw [hV3.out] at h3
      rcases h3.accts with ⟨q, _⟩ | ⟨bA3, cA3, dA3, r1, r2, r3, r4, r5, r6⟩
      · rw [q] at hV3l
        rw [← hV3l] at hnl3
        exact absurd hnl3 (Nat.not_lt_zero _)
      have r1' := r1
      rw [q1] at r1'
      injection r1' with r1a r1b r1c
      injection r1a with r1a
      injection r1a with r1a
      subst r1a
      subst r1c
      clear r1b
      have hE14 : Ext w0 W14 := HE2 _ M14
      have hat3 : at_ < V3.accts.length := by rw [hV3l]; exact hnl3
      clear b13 b14 a14 o14 cell14 non14 q4 q6
      go_upto_region 15 with (fail)
      refine w_ext ?_
      rintro W0 hW0
      refine wp_region_held_drew (S := fun w' => Mod (fun x => x = bA) W0 w') (by kernel_rfl) (Mod.refl _ _).drew (fun hHeld => ?_)
      have HH : Hid (Mod (fun x => x = bA) W0 _) := hHeld
      clear hHeld
      refine wpAnyH_take (i := 0) (v := ?_) rfl (by kernel_rfl) (by kernel_rfl) (by kernel_rfl) (fun _ _ _ h => h) (Or.inl ⟨by rfl, ?_⟩) HH.out ?_
      rotate_left
      · intro w hSw; go_simp; try with_reducible rfl
      change wpAnyH _ _ _ _ _ _ _ (Act.put _ (some 70) _) _
      simp only [Act.put, List.setIfInBounds_toArray, List.set_cons_zero, List.set_cons_succ]
      refine wpAnyH_take (i := 1) (v := ?_) rfl (by kernel_rfl) (by kernel_rfl) (by kernel_rfl) (fun _ _ _ h => h) (Or.inl ⟨by rfl, ?_⟩) HH.out ?_
      rotate_left
      · intro w hSw; go_simp; try with_reducible rfl
      change wpAnyH _ _ _ _ _ _ _ (Act.put _ (some 71) _) _
      simp only [Act.put, List.setIfInBounds_toArray, List.set_cons_zero, List.set_cons_succ]
      refine wpAnyH_take (i := 2) (v := ?_) rfl (by kernel_rfl) (by kernel_rfl) (by kernel_rfl) (fun _ _ _ h => h) (Or.inl ⟨by rfl, ?_⟩) HH.out ?_
      rotate_left
      · intro w hSw; go_simp; try with_reducible rfl
      change wpAnyH _ _ _ _ _ _ _ (Act.put _ (some 72) _) _
      simp only [Act.put, List.setIfInBounds_toArray, List.set_cons_zero, List.set_cons_succ]
      refine wpAnyH_take (i := 3) rfl (by kernel_rfl) (by kernel_rfl) (by kernel_rfl) (fun _ _ _ h => h) (yieldsIf_load1 (by rfl) _ _ rfl _ _ rfl oneF77 _ (fun w hSw => KA _ (M14.trans ((hW0.mod _).trans hSw)))) HH.out ?_
      change wpAnyH _ _ _ _ _ _ _ (Act.put _ (some 73) _) _
      simp only [Act.put, List.setIfInBounds_toArray, List.set_cons_zero, List.set_cons_succ]
      refine wpAnyH_take (i := 4) (v := ?_) rfl (by kernel_rfl) (by kernel_rfl) (by kernel_rfl) (fun _ _ _ h => h) (Or.inl ⟨by rfl, ?_⟩) HH.out ?_
      rotate_left
      · intro w hSw; go_simp; try with_reducible rfl
      change wpAnyH _ _ _ _ _ _ _ (Act.put _ (some 74) _) _
      simp only [Act.put, List.setIfInBounds_toArray, List.set_cons_zero, List.set_cons_succ]
      refine wpAnyH_take (i := 5) (v := ?_) rfl (by kernel_rfl) (by kernel_rfl) (by kernel_rfl) (fun _ _ _ h => h) (Or.inl ⟨by rfl, ?_⟩) HH.out ?_
      rotate_left
      · intro w hSw; go_simp; try with_reducible rfl
      change wpAnyH _ _ _ _ _ _ _ (Act.put _ (some 75) _) _
      simp only [Act.put, List.setIfInBounds_toArray, List.set_cons_zero, List.set_cons_succ]
      refine wpAnyH_take (i := 6) (v := ?_) rfl (by kernel_rfl) (by kernel_rfl) (by kernel_rfl) (fun _ _ _ h => h) (Or.inl ⟨by rfl, ?_⟩) HH.out ?_
      rotate_left
      · intro w hSw; go_simp; try with_reducible rfl
      change wpAnyH _ _ _ _ _ _ _ (Act.put _ (some 76) _) _
      simp only [Act.put, List.setIfInBounds_toArray, List.set_cons_zero, List.set_cons_succ]
      refine wpAnyH_take (i := 7) (v := ?_) rfl (by kernel_rfl) (by kernel_rfl) (by kernel_rfl) (fun _ _ _ h => h) (Or.inl ⟨by rfl, ?_⟩) HH.out ?_
      rotate_left
      · intro w hSw; go_simp; try with_reducible rfl
      change wpAnyH _ _ _ _ _ _ _ (Act.put _ (some 77) _) _
      simp only [Act.put, List.setIfInBounds_toArray, List.set_cons_zero, List.set_cons_succ]
      refine wpAnyH_take (i := 8) (v := ?_) rfl (by kernel_rfl) (by kernel_rfl) (by kernel_rfl) (fun _ _ _ h => h) (Or.inl ⟨by rfl, ?_⟩) HH.out ?_
      rotate_left
      · intro w hSw; go_simp; try with_reducible rfl
      change wpAnyH _ _ _ _ _ _ _ (Act.put _ (some 78) _) _
      simp only [Act.put, List.setIfInBounds_toArray, List.set_cons_zero, List.set_cons_succ]
      refine wpAnyH_take (i := 9) rfl (by kernel_rfl) (by kernel_rfl) (by kernel_rfl) (fun _ _ _ h => h) (yieldsIf_load1 (by rfl) _ _ rfl _ _ rfl oneF32 _ (fun w hSw => KI _ (M14.trans ((hW0.mod _).trans hSw)) 53 (by decide))) HH.out ?_
      change wpAnyH _ _ _ _ _ _ _ (Act.put _ (some 79) _) _
      simp only [Act.put, List.setIfInBounds_toArray, List.set_cons_zero, List.set_cons_succ]
      refine wpAnyH_ready (rs := [10]) (by kernel_rfl) (by simp) ?_
      refine AllReadyH.cons rfl (fun K hK => ?_) AllReadyH.nil
      go_simp
      go_at_call 86; refine (vCopiedX (Mu own2) O _ x.code _ (h3.small.ext (by (repeat (first | with_reducible exact Ext.refl _ | with_reducible assumption | refine Ext.trans ?_ (by with_reducible assumption) | refine Ext.alloc ?_ _ _ | refine Ext.drew ?_ | refine Ext.drewN ?_ _)))) (hri.code.ext (hE14.trans (by (repeat (first | with_reducible exact Ext.refl _ | with_reducible assumption | refine Ext.trans ?_ (by with_reducible assumption) | refine Ext.alloc ?_ _ _ | refine Ext.drew ?_ | refine Ext.drewN ?_ _))))) (by omega)).mono ?_; rintro e w15 ⟨rc, rfl, hrc, he⟩
      refine hK.out _ _ ?_ (fun hHeld => ?_)
      · first | exact HH.out.trans hmY | exact HH.out.trans_ext he | exact HH.out
      clear hK K HH
      have HH : Hid (Mod (fun x => x = bA) W0 _) := hHeld
      clear hHeld
      refine wpAnyH_take (i := 11) (v := ?_) rfl (by kernel_rfl) (by kernel_rfl) (by kernel_rfl) (fun _ _ _ h => h) (Or.inl ⟨by rfl, ?_⟩) HH.out ?_
      rotate_left
      · intro w hSw; go_simp; try with_reducible rfl
      change wpAnyH _ _ _ _ _ _ _ (Act.put _ (some 81) _) _
      simp only [Act.put, List.setIfInBounds_toArray, List.set_cons_zero, List.set_cons_succ]
      refine wpAnyH_take (i := 12) (v := ?_) rfl (by kernel_rfl) (by kernel_rfl) (by kernel_rfl) (fun _ _ _ h => h) (Or.inl ⟨by rfl, ?_⟩) HH.out ?_
      rotate_left
      · intro w hSw; go_simp; try with_reducible rfl
      change wpAnyH _ _ _ _ _ _ _ (Act.put _ (some 82) _) _
      simp only [Act.put, List.setIfInBounds_toArray, List.set_cons_zero, List.set_cons_succ]
      refine wpAnyH_ready (rs := [13]) (by kernel_rfl) (by simp) ?_
      refine AllReadyH.cons rfl (fun K hK => ?_) AllReadyH.nil
      refine step_any rfl (op_store1 rfl oneF32 rfl rfl (hrc.one) (r4.ext (by (repeat (first | with_reducible exact Ext.refl _ | with_reducible assumption | refine Ext.trans ?_ (by with_reducible assumption) | refine Ext.alloc ?_ _ _ | refine Ext.drew ?_ | refine Ext.drewN ?_ _)))) (by omega) ?_)
      rintro W15 b15 m15
      refine hK.out _ _ ?_ (fun hHeld => ?_)
      · exact HH.out.trans m15
      clear hK K HH
      have HH : Hid (Mod (fun x => x = bA) W0 _) := hHeld
      clear hHeld
      change wpAnyH _ _ _ _ _ _ _ (Act.put _ none _) _
      simp only [Act.put, List.setIfInBounds_toArray, List.set_cons_zero, List.set_cons_succ]
      refine wpAnyH_done (by kernel_rfl) ?_ _
      replace b15 : Blk W15 bA (cA * 29) 176 (updv dA3 (at_ * 29 + 25) rc) := b15
      have hE15 : Ext W14 w15 := by (repeat (first | with_reducible exact Ext.refl _ | with_reducible assumption | refine Ext.trans ?_ (by with_reducible assumption) | refine Ext.alloc ?_ _ _ | refine Ext.drew ?_ | refine Ext.drewN ?_ _))
      have M15 : Mod (fun x => x = bA) w2 W15 := M14.trans ((hW0.mod _).trans HH.out)
      clear HH hW0
      obtain ⟨h5, s5⟩ := modA_end (f := fun y => { y with code := x.code }) (h3.ext hE15) r1 r2 r3 r5 hat3 (fun j hj => (r6 j hj).ext hE15) b15 (fun j hj => updv_ne _ _ (by omega)) m15 (fun _ => rfl) (fun own' w' K => by
        have k := K.acct (fun _ _ => rfl) ((r6 at_ hat3).ext hE15)
        exact ⟨k.addr.same k.aLt (fun j hj => updv_ne _ _ (by omega)), k.aLt, (updv_ne _ _ (by omega)).trans k.nonce, k.nLt, k.bal.moveF (fun j hj => updv_ne _ _ (by omega)), k.bLt, by rw [updv_same]; exact K.nl hrc, (updv_ne _ _ (by omega)).trans k.warm, (updv_ne _ _ (by omega)).trans k.made, (updv_ne _ _ (by omega)).trans k.gone⟩)
      obtain ⟨V4, hV4⟩ : ∃ z, Hid (V.fillA1 x = z) := ⟨_, rfl⟩
      have e4 : (V3.modA at_ fun y => { y with code := x.code }) = V4 := by rw [← hV4.out, ← hV3.out, ← hV2.out, ← hat_.out]; rfl
      rw [e4] at h5
      clear e4
      obtain ⟨f1, f2⟩ := fillA1_len V x
      rw [hV4.out, hV2.out] at f1
      rw [hV4.out] at f2
      have sT : VStep own0 W1 c1 own2 W15 c2 := hS2.trans (s3.trans ((VStep.ext hE15).trans s5))
      have htk2 : Hid ((l.take (i + 1)).foldl EV.fillA EV.zero = x.slots.foldl (EV.fillS at_) V4) := by
        show _ = _
        rw [htk.out, ← hV4.out, ← hat_.out]
        rfl
      have hat4 : at_ < V4.accts.length := by rw [f1]; exact hnl3
      have hE5 : Ext w0 W15 := HE2 _ M15
      have hsl := hri.slots
      obtain ⟨so, sc, hsv9, hsc1, hsc2⟩ := hri.slots.slice
      rw [hsv9] at hsl
      obtain ⟨ns, hns⟩ : ∃ z, Hid (x.slots.length = z) := ⟨_, rfl⟩
      rw [hns.out] at hsv9 hsc1 hxs2
      clear q1 q1' q2 q2' q3 q5 r1 r2 r3 r4 r5 r6 b15 m15 M13 M14 M15 h3 s3 s5 h2 s2 KA KI KB HE2 hS hS2 hR HAc hRa
      go_upto_region 17 with ((with_reducible (refine Veil.out ?_; apply wl_loadC oneF112)); (case hw => rfl); (case hx => rfl); (case hc => exact (hbm _ hE5 54 (by decide)).trans (congrArg some hsv9)))
      try simp only [Act.put]
      go_loopw [89] (fun jv wx => ∃ (j : Nat) (own : Nat → Nat) (c : Nat → Value) (V' : EV), jv = .int .i64 (j : Nat) ∧ j ≤ ns ∧ VRep own wx g c V' ∧ Hid (V' = (x.slots.take j).foldl (EV.fillS at_) V4) ∧ V'.accts.length = V4.accts.length ∧ V'.slots.length ≤ 16 * i + j ∧ VStep own0 W1 c1 own wx c) (fun jv _ => ns - (intOf jv).toNat)
      case atStart => exact ⟨0, own2, c2, V4, rfl, Nat.zero_le _, h5, (rfl : _ = _), rfl, by rw [f2]; omega, sT⟩
      case round =>
        clear h5 sT hE5 hrc
        obtain ⟨j, own3, c3, V5, rfl, hj, hR5, hV5, hl5, hs5, hS5⟩ := hrel
        rcases Nat.lt_or_ge j ns with hjl | hjg
        · have zj : (j : Int) < ns := by omega
          have hjl' : j < x.slots.length := by rw [hns.out]; exact hjl
          rcases hsl with ⟨q, _⟩ | ⟨bs, offs, caps, css, u1, u2, u3, u4, u5, u6, u7⟩
          · rw [q] at hjl'
            exact absurd hjl' (Nat.not_lt_zero _)
          rw [hns.out] at u1
          injection u1 with u1a u1b u1c
          subst u1a
          subst u1c
          clear u1b
          have hsr := u7 j hjl'
          have hjt : (x.slots.take (j + 1)).foldl (EV.fillS at_) V4 = EV.fillS at_ ((x.slots.take j).foldl (EV.fillS at_) V4) x.slots[j] := by rw [List.take_succ_eq_append_getElem hjl', List.foldl_append]; rfl
          obtain ⟨s, hs⟩ : ∃ z, Hid (x.slots[j] = z) := ⟨x.slots[j], rfl⟩
          rw [hs.out] at hsr hjt
          rw [← hV5.out] at hjt
          replace hjt := (show Hid _ from hjt)
          have hEx : Ext w0 wr := hEm _ hS5.mod
          have hRs : RowIn wr bs (offs + j * 64) (rowOf css (j * 64) 64) := fun q u hu => by
            rw [rowOf_get] at hu
            by_cases hq : q < 64
            · rw [if_pos hq] at hu
              rw [Nat.add_assoc, (hEx.cell (p := ⟨bs, offs + (j * 64 + q), none⟩) u5).trans (u6 _ (by omega))]
              exact hu
            · rw [if_neg hq] at hu
              cases hu
          have hones : Ones (rowOf css (j * 64) 64) := ones_of (fun q hq => by
            rw [rowOf_size] at hq
            rw [cf_rowOf _ _ _ hq]
            rcases (show q < 32 ∨ (32 ≤ q ∧ q < 64) by omega) with hh | hh
            · exact bat_oneF hsr.key hsr.kLt q hh
            · have := bat_oneF hsr.val hsr.vLt (q - 32) (by omega)
              rwa [show j * 64 + 32 + (q - 32) = j * 64 + q by omega] at this)
          obtain ⟨j9, hj9⟩ : ∃ z : Nat, Hid ((j + 1 : Nat) = z) := ⟨_, rfl⟩
          have jj1 : IntKind.i64.wrap ((j : Int) + 1) = (j9 : Int) := by rw [IntKind.wrap_i64, ← hj9.out]; omega
          go_upto_region 19 with (first | ((with_reducible (refine Veil.out ?_; apply wl_loadR rtF118)); (case hn => exact rowOf_size css (j * 64) 64); (case hx => rfl); (case hr => exact hRs)) | ((with_reducible (refine Veil.out ?_; apply wl_allocB z118fE)); (case hn => exact z118fs); rintro BX WX eX bX gX) | ((with_reducible (refine Veil.out ?_; apply wl_storeRow rtF118)); (case hx => rfl); (case hy => rfl); (case hr => exact rowOf_size _ _ _); (case h1 => exact hones); (case hB => exact bX); (case hi => decide); rintro WY bY mY))
          have eY : Ext wr WY := Ext.trans_mod eX mY (fun q hq => by have hq2 : q = BX := hq; rw [hq2]; exact gX)
          obtain ⟨dX, hdX⟩ : ∃ z, Hid (layv (cf z118f) 0 (rowOf css (j * 64) 64) = z) := ⟨_, rfl⟩
          have hXc : ∀ q, q < 64 → dX q = css (j * 64 + q) := fun q hq => by
            rw [← hdX.out]
            have := layv_in (cf z118f) 0 (rowOf css (j * 64) 64) (j := q) (by rw [rowOf_size]; exact hq)
            rw [Nat.zero_add] at this
            rw [this, cf_rowOf _ _ _ hq]
          rw [hdX.out] at bY
          have hsk := hsr.kLt
          have hsv := hsr.vLt
          have hXk : BAt dX 0 s.1 := fun q u hu => by
            have hq := (Array.getElem?_eq_some_iff.1 hu).1
            rw [bwS hsk] at hq
            rw [Nat.zero_add, hXc q (by omega)]
            exact hsr.key q u hu
          have hXv : BAt dX 32 s.2 := fun q u hu => by
            have hq := (Array.getElem?_eq_some_iff.1 hu).1
            rw [bwS hsv] at hq
            rw [hXc (32 + q) (by omega), ← Nat.add_assoc]
            exact hsr.val q u hu
          have hat5 : at_ < V5.accts.length := by rw [hl5]; exact hat4
          have HSl := fun W (hW : Ext WY W) => vSlot (k := s.1) ((hR5.ext eY).ext hW) hat5 hsk (fun _ => by omega)
          obtain ⟨kk, hkk⟩ : ∃ z, Hid (V5.atS at_ s.1 = z) := ⟨_, rfl⟩
          have hsl9 := needS_slen V5 at_ s.1
          have hsa9 := needS_accts V5 at_ s.1
          obtain ⟨V6, hV6⟩ : ∃ z, Hid (V5.needS at_ s.1 = z) := ⟨_, rfl⟩
          rw [hkk.out, hV6.out] at HSl hsl9
          rw [hV6.out] at hsa9
          obtain ⟨hsl91, hsl92⟩ := hsl9
          have hBX0 : own3 BX = 0 := hR5.fresh BX gX
          have hBXw : BX < WY.heap.size := bY.lt
          clear hdX hXc hRs hones bX eX mY
          go_upto_region 20 with (first | ((with_reducible (refine Veil.out ?_; apply wl_loadBF)); (case hx => rfl); (case hB => exact bY); (case hA => exact hXk); (case hv => exact hsk); (case hi => decide)) | (go_at_call 92; refine (uFromF hsk _).mono ?_; rintro e w18 ⟨rfl, he18⟩) | (go_at_call 93; refine (HSl _ (by (repeat (first | with_reducible exact Ext.refl _ | with_reducible assumption | refine Ext.trans ?_ (by with_reducible assumption) | refine Ext.alloc ?_ _ _ | refine Ext.drew ?_ | refine Ext.drewN ?_ _)))).mono ?_; rintro e w5 ⟨rfl, own5, c5, h5, s5⟩))
          have bX5 : Blk w5 BX 64 127 dX := (bY.ext he18).mod s5.mod (fun q => q.1.1 hBX0)
          have hBX5 : own5 BX = 0 := by rw [s5.keep BX (Nat.lt_of_lt_of_le hBXw he18.size)]; exact hBX0
          rcases h5.slots with ⟨q, _⟩ | ⟨bS, cS, dS, t1, t2, t3, t4, t5, t6⟩
          · rw [q] at hsl91
            exact absurd hsl91 (Nat.not_lt_zero _)
          have t1' := t1
          have t2' := t2
          obtain ⟨nS, hnS9⟩ : ∃ z, Hid (V6.slots.length = z) := ⟨_, rfl⟩
          rw [hnS9.out] at t1' t2'
          have hkn : kk < nS := by rw [← hnS9.out]; exact hsl91
          have zk : (kk : Int) < nS := by omega
          have hgS : ¬ g = bS := fun q => by
            have t5' : own5 bS = 2 := t5
            rw [← q, h5.tag] at t5'
            exact absurd t5' (by decide)
          have hXS : ¬ BX = bS := fun q => by
            have t5' : own5 bS = 2 := t5
            rw [← q, hBX5] at t5'
            exact absurd t5' (by decide)
          have KS : ∀ W, Mod (fun x => x = bS) w5 W → W.cell? ⟨g, 2436, none⟩ = some (.slice (some ⟨bS, 0, none⟩) nS cS) := fun W hW => by rw [(h5.blk.mod hW hgS).cell (by decide), t1']
          have hce2 : kk * 14 + 14 ≤ cS * 14 := by omega
          clear HSl bY
          refine w_ext ?_
          rintro W0 hW0
          refine wp_region_held_drew (S := fun w' => Mod (fun x => x = bS) W0 w') (by kernel_rfl) (Mod.refl _ _).drew (fun hHeld => ?_)
          have HH : Hid (Mod (fun x => x = bS) W0 _) := hHeld
          clear hHeld
          refine wpAnyH_take (i := 0) (v := ?_) rfl (by kernel_rfl) (by kernel_rfl) (by kernel_rfl) (fun _ _ _ h => h) (Or.inl ⟨by rfl, ?_⟩) HH.out ?_
          rotate_left
          · intro w hSw; go_simp; try with_reducible rfl
          change wpAnyH _ _ _ _ _ _ _ (Act.put _ (some 102) _) _
          simp only [Act.put, List.setIfInBounds_toArray, List.set_cons_zero, List.set_cons_succ]
          refine wpAnyH_take (i := 1) (v := ?_) rfl (by kernel_rfl) (by kernel_rfl) (by kernel_rfl) (fun _ _ _ h => h) (Or.inl ⟨by rfl, ?_⟩) HH.out ?_
          rotate_left
          · intro w hSw; go_simp; try with_reducible rfl
          change wpAnyH _ _ _ _ _ _ _ (Act.put _ (some 103) _) _
          simp only [Act.put, List.setIfInBounds_toArray, List.set_cons_zero, List.set_cons_succ]
          refine wpAnyH_take (i := 2) (v := ?_) rfl (by kernel_rfl) (by kernel_rfl) (by kernel_rfl) (fun _ _ _ h => h) (Or.inl ⟨by rfl, ?_⟩) HH.out ?_
          rotate_left
          · intro w hSw; go_simp; try with_reducible rfl
          change wpAnyH _ _ _ _ _ _ _ (Act.put _ (some 104) _) _
          simp only [Act.put, List.setIfInBounds_toArray, List.set_cons_zero, List.set_cons_succ]
          refine wpAnyH_take (i := 3) rfl (by kernel_rfl) (by kernel_rfl) (by kernel_rfl) (fun _ _ _ h => h) (yieldsIf_load1 (by rfl) _ _ rfl _ _ rfl oneF78 _ (fun w hSw => KS _ ((hW0.mod _).trans hSw))) HH.out ?_
          change wpAnyH _ _ _ _ _ _ _ (Act.put _ (some 105) _) _
          simp only [Act.put, List.setIfInBounds_toArray, List.set_cons_zero, List.set_cons_succ]
          refine wpAnyH_take (i := 4) (v := ?_) rfl (by kernel_rfl) (by kernel_rfl) (by kernel_rfl) (fun _ _ _ h => h) (Or.inl ⟨by rfl, ?_⟩) HH.out ?_
          rotate_left
          · intro w hSw; go_simp; try with_reducible rfl
          change wpAnyH _ _ _ _ _ _ _ (Act.put _ (some 106) _) _
          simp only [Act.put, List.setIfInBounds_toArray, List.set_cons_zero, List.set_cons_succ]
          refine wpAnyH_take (i := 5) (v := ?_) rfl (by kernel_rfl) (by kernel_rfl) (by kernel_rfl) (fun _ _ _ h => h) (Or.inl ⟨by rfl, ?_⟩) HH.out ?_
          rotate_left
          · intro w hSw; go_simp; try with_reducible rfl
          change wpAnyH _ _ _ _ _ _ _ (Act.put _ (some 107) _) _
          simp only [Act.put, List.setIfInBounds_toArray, List.set_cons_zero, List.set_cons_succ]
          refine wpAnyH_take (i := 6) rfl (by kernel_rfl) (by kernel_rfl) (by kernel_rfl) (fun _ _ _ h => h) (yields_B (by rfl) rfl rfl (fun w hSw => bX5.mod ((hW0.mod _).trans hSw) hXS) hXv hsv (by decide)) HH.out ?_
          change wpAnyH _ _ _ _ _ _ _ (Act.put _ (some 108) _) _
          simp only [Act.put, List.setIfInBounds_toArray, List.set_cons_zero, List.set_cons_succ]
          refine wpAnyH_ready (rs := [7]) (by kernel_rfl) (by simp) ?_
          refine AllReadyH.cons rfl (fun K hK => ?_) AllReadyH.nil
          go_simp
          go_at_call 92; refine (uFromF hsv _).mono ?_; rintro e w20 ⟨rfl, he⟩
          refine hK.out _ _ ?_ (fun hHeld => ?_)
          · first | exact HH.out.trans hmY | exact HH.out.trans_ext he | exact HH.out
          clear hK K HH
          have HH : Hid (Mod (fun x => x = bS) W0 _) := hHeld
          clear hHeld
          refine wpAnyH_take (i := 8) (v := ?_) rfl (by kernel_rfl) (by kernel_rfl) (by kernel_rfl) (fun _ _ _ h => h) (Or.inl ⟨by rfl, ?_⟩) HH.out ?_
          rotate_left
          · intro w hSw; go_simp; try with_reducible rfl
          change wpAnyH _ _ _ _ _ _ _ (Act.put _ (some 110) _) _
          simp only [Act.put, List.setIfInBounds_toArray, List.set_cons_zero, List.set_cons_succ]
          refine wpAnyH_take (i := 9) (v := ?_) rfl (by kernel_rfl) (by kernel_rfl) (by kernel_rfl) (fun _ _ _ h => h) (Or.inl ⟨by rfl, ?_⟩) HH.out ?_
          rotate_left
          · intro w hSw; go_simp; try with_reducible rfl
          change wpAnyH _ _ _ _ _ _ _ (Act.put _ (some 111) _) _
          simp only [Act.put, List.setIfInBounds_toArray, List.set_cons_zero, List.set_cons_succ]
          refine wpAnyH_ready (rs := [10]) (by kernel_rfl) (by simp) ?_
          refine AllReadyH.cons rfl (fun K hK => ?_) AllReadyH.nil
          refine step_any rfl (op_storeWB rfl rfl rfl (t4.ext (by (repeat (first | with_reducible exact Ext.refl _ | with_reducible assumption | refine Ext.trans ?_ (by with_reducible assumption) | refine Ext.alloc ?_ _ _ | refine Ext.drew ?_ | refine Ext.drewN ?_ _)))) (by omega) ?_)
          rintro W20 d20 b20 a20 o20 m20
          refine hK.out _ _ ?_ (fun hHeld => ?_)
          · exact HH.out.trans m20
          clear hK K HH
          have HH : Hid (Mod (fun x => x = bS) W0 _) := hHeld
          clear hHeld
          change wpAnyH _ _ _ _ _ _ _ (Act.put _ none _) _
          simp only [Act.put, List.setIfInBounds_toArray, List.set_cons_zero, List.set_cons_succ]
          refine wpAnyH_done (by kernel_rfl) ?_ _
          have M20 : Mod (fun x => x = bS) w5 W20 := (hW0.mod _).trans HH.out
          clear HH hW0
          go_upto_region 21 with (fail)
          refine w_ext ?_
          rintro W0 hW0
          refine wp_region_held_drew (S := fun w' => (Mod (fun x => x = bS) W0 w' ∧ ∃ d, Blk w' bS (cS * 14) 185 d ∧ WAt d (kk * 14 + 5) s.2)) (by kernel_rfl) ⟨(Mod.refl _ _).drew, d20, b20.ext hW0.drew, a20⟩ (fun hHeld => ?_)
          have HH : Hid ((Mod (fun x => x = bS) W0 _ ∧ ∃ d, Blk _ bS (cS * 14) 185 d ∧ WAt d (kk * 14 + 5) s.2)) := hHeld
          clear hHeld
          refine wpAnyH_take (i := 0) (v := ?_) rfl (by kernel_rfl) (by kernel_rfl) (by kernel_rfl) (fun _ _ _ h => h) (Or.inl ⟨by rfl, ?_⟩) HH.out ?_
          rotate_left
          · intro w hSw; go_simp; try with_reducible rfl
          change wpAnyH _ _ _ _ _ _ _ (Act.put _ (some 112) _) _
          simp only [Act.put, List.setIfInBounds_toArray, List.set_cons_zero, List.set_cons_succ]
          refine wpAnyH_take (i := 1) (v := ?_) rfl (by kernel_rfl) (by kernel_rfl) (by kernel_rfl) (fun _ _ _ h => h) (Or.inl ⟨by rfl, ?_⟩) HH.out ?_
          rotate_left
          · intro w hSw; go_simp; try with_reducible rfl
          change wpAnyH _ _ _ _ _ _ _ (Act.put _ (some 113) _) _
          simp only [Act.put, List.setIfInBounds_toArray, List.set_cons_zero, List.set_cons_succ]
          refine wpAnyH_take (i := 2) (v := ?_) rfl (by kernel_rfl) (by kernel_rfl) (by kernel_rfl) (fun _ _ _ h => h) (Or.inl ⟨by rfl, ?_⟩) HH.out ?_
          rotate_left
          · intro w hSw; go_simp; try with_reducible rfl
          change wpAnyH _ _ _ _ _ _ _ (Act.put _ (some 114) _) _
          simp only [Act.put, List.setIfInBounds_toArray, List.set_cons_zero, List.set_cons_succ]
          refine wpAnyH_take (i := 3) rfl (by kernel_rfl) (by kernel_rfl) (by kernel_rfl) (fun _ _ _ h => h) (yieldsIf_load1 (by rfl) _ _ rfl _ _ rfl oneF78 _ (fun w hSw => KS _ (M20.trans ((hW0.mod _).trans hSw.1)))) HH.out ?_
          change wpAnyH _ _ _ _ _ _ _ (Act.put _ (some 115) _) _
          simp only [Act.put, List.setIfInBounds_toArray, List.set_cons_zero, List.set_cons_succ]
          refine wpAnyH_take (i := 4) (v := ?_) rfl (by kernel_rfl) (by kernel_rfl) (by kernel_rfl) (fun _ _ _ h => h) (Or.inl ⟨by rfl, ?_⟩) HH.out ?_
          rotate_left
          · intro w hSw; go_simp; try with_reducible rfl
          change wpAnyH _ _ _ _ _ _ _ (Act.put _ (some 116) _) _
          simp only [Act.put, List.setIfInBounds_toArray, List.set_cons_zero, List.set_cons_succ]
          refine wpAnyH_take (i := 5) (v := ?_) rfl (by kernel_rfl) (by kernel_rfl) (by kernel_rfl) (fun _ _ _ h => h) (Or.inl ⟨by rfl, ?_⟩) HH.out ?_
          rotate_left
          · intro w hSw; go_simp; try with_reducible rfl
          change wpAnyH _ _ _ _ _ _ _ (Act.put _ (some 117) _) _
          simp only [Act.put, List.setIfInBounds_toArray, List.set_cons_zero, List.set_cons_succ]
          refine wpAnyH_take (i := 6) (v := ?_) rfl (by kernel_rfl) (by kernel_rfl) (by kernel_rfl) (fun _ _ _ h => h) (Or.inl ⟨by rfl, ?_⟩) HH.out ?_
          rotate_left
          · intro w hSw; go_simp; try with_reducible rfl
          change wpAnyH _ _ _ _ _ _ _ (Act.put _ (some 118) _) _
          simp only [Act.put, List.setIfInBounds_toArray, List.set_cons_zero, List.set_cons_succ]
          refine wpAnyH_take (i := 7) (v := ?_) rfl (by kernel_rfl) (by kernel_rfl) (by kernel_rfl) (fun _ _ _ h => h) (Or.inl ⟨by rfl, ?_⟩) HH.out ?_
          rotate_left
          · intro w hSw; go_simp; try with_reducible rfl
          change wpAnyH _ _ _ _ _ _ _ (Act.put _ (some 119) _) _
          simp only [Act.put, List.setIfInBounds_toArray, List.set_cons_zero, List.set_cons_succ]
          refine wpAnyH_take (i := 8) rfl (by kernel_rfl) (by kernel_rfl) (by kernel_rfl) (fun _ _ _ h => h) (yieldsIf_load1 (by rfl) _ _ rfl _ _ rfl oneF78 _ (fun w hSw => KS _ (M20.trans ((hW0.mod _).trans hSw.1)))) HH.out ?_
          change wpAnyH _ _ _ _ _ _ _ (Act.put _ (some 120) _) _
          simp only [Act.put, List.setIfInBounds_toArray, List.set_cons_zero, List.set_cons_succ]
          refine wpAnyH_take (i := 9) (v := ?_) rfl (by kernel_rfl) (by kernel_rfl) (by kernel_rfl) (fun _ _ _ h => h) (Or.inl ⟨by rfl, ?_⟩) HH.out ?_
          rotate_left
          · intro w hSw; go_simp; try with_reducible rfl
          change wpAnyH _ _ _ _ _ _ _ (Act.put _ (some 121) _) _
          simp only [Act.put, List.setIfInBounds_toArray, List.set_cons_zero, List.set_cons_succ]
          refine wpAnyH_take (i := 10) (v := ?_) rfl (by kernel_rfl) (by kernel_rfl) (by kernel_rfl) (fun _ _ _ h => h) (Or.inl ⟨by rfl, ?_⟩) HH.out ?_
          rotate_left
          · intro w hSw; go_simp; try with_reducible rfl
          change wpAnyH _ _ _ _ _ _ _ (Act.put _ (some 122) _) _
          simp only [Act.put, List.setIfInBounds_toArray, List.set_cons_zero, List.set_cons_succ]
          refine wpAnyH_take (i := 11) (v := ?_) rfl (by kernel_rfl) (by kernel_rfl) (by kernel_rfl) (fun _ _ _ h => h) (Or.inl ⟨by rfl, ?_⟩) HH.out ?_
          rotate_left
          · intro w hSw; go_simp; try with_reducible rfl
          change wpAnyH _ _ _ _ _ _ _ (Act.put _ (some 123) _) _
          simp only [Act.put, List.setIfInBounds_toArray, List.set_cons_zero, List.set_cons_succ]
          refine wpAnyH_take (i := 12) rfl (by kernel_rfl) (by kernel_rfl) (by kernel_rfl) (fun _ _ _ h => h) (yieldsE_Wf (by rfl) rfl rfl (fun w hSw => hSw.2) (by omega)) HH.out ?_
          change wpAnyH _ _ _ _ _ _ _ (Act.put _ (some 124) _) _
          simp only [Act.put, List.setIfInBounds_toArray, List.set_cons_zero, List.set_cons_succ]
          refine wpAnyH_take (i := 13) (v := ?_) rfl (by kernel_rfl) (by kernel_rfl) (by kernel_rfl) (fun _ _ _ h => h) (Or.inl ⟨by rfl, ?_⟩) HH.out ?_
          rotate_left
          · intro w hSw; go_simp; try with_reducible rfl
          change wpAnyH _ _ _ _ _ _ _ (Act.put _ (some 125) _) _
          simp only [Act.put, List.setIfInBounds_toArray, List.set_cons_zero, List.set_cons_succ]
          refine wpAnyH_take (i := 14) (v := ?_) rfl (by kernel_rfl) (by kernel_rfl) (by kernel_rfl) (fun _ _ _ h => h) (Or.inl ⟨by rfl, ?_⟩) HH.out ?_
          rotate_left
          · intro w hSw; go_simp; try with_reducible rfl
          change wpAnyH _ _ _ _ _ _ _ (Act.put _ (some 126) _) _
          simp only [Act.put, List.setIfInBounds_toArray, List.set_cons_zero, List.set_cons_succ]
          refine wpAnyH_ready (rs := [15]) (by kernel_rfl) (by simp) ?_
          refine AllReadyH.cons rfl (fun K hK => ?_) AllReadyH.nil
          refine step_any rfl (op_storeWB rfl rfl rfl (b20.ext (by (repeat (first | with_reducible exact Ext.refl _ | with_reducible assumption | refine Ext.trans ?_ (by with_reducible assumption) | refine Ext.alloc ?_ _ _ | refine Ext.drew ?_ | refine Ext.drewN ?_ _)))) (by omega) ?_)
          rintro W21 d21 b21 a21 o21 m21
          refine hK.out _ _ ?_ (fun hHeld => ?_)
          · exact ⟨HH.out.1.trans m21, d21, b21, a20.moveF (fun j hj => o21 _ (by omega))⟩
          clear hK K HH
          have HH : Hid ((Mod (fun x => x = bS) W0 _ ∧ ∃ d, Blk _ bS (cS * 14) 185 d ∧ WAt d (kk * 14 + 5) s.2)) := hHeld
          clear hHeld
          change wpAnyH _ _ _ _ _ _ _ (Act.put _ none _) _
          simp only [Act.put, List.setIfInBounds_toArray, List.set_cons_zero, List.set_cons_succ]
          refine wpAnyH_done (by kernel_rfl) ?_ _
          have M21 : Mod (fun x => x = bS) w5 W21 := M20.trans ((hW0.mod _).trans HH.out.1)
          clear HH hW0
          obtain ⟨h6, s6⟩ := modS_end (f := fun y => { y with val := s.2, orig := s.2 }) h5 t1 t2 t3 t5 hsl91 t6 b21 (fun q hq => by rw [o21 q (by omega), o20 q (by omega)]) M21 (fun _ => rfl) (by
            have k := t6 kk hsl91
            exact ⟨by rw [o21 _ (by omega), o20 _ (by omega)]; exact k.acct, k.aLt, k.key.moveF (fun q hq => by rw [o21 _ (by omega), o20 _ (by omega)]), k.kLt, a20.moveF (fun q hq => o21 _ (by omega)), hsv, a21, hsv, by rw [o21 _ (by omega), o20 _ (by omega)]; exact k.warm⟩)
          go_wp2
          go_roundw
          case rel =>
            have h9 := hj9.out
            refine ⟨j9, own5, c5, _, rfl, by omega, h6, ?_, ?_, ?_, hS5.trans ((VStep.ext (eY.trans he18)).trans (s5.trans s6))⟩
            · show _ = _
              rw [← h9, hjt.out, ← hV6.out, ← hkk.out]
              rfl
            · show V6.accts.length = _
              rw [hsa9]; exact hl5
            · show (V6.slots.modify kk _).length ≤ _
              rw [List.length_modify]; omega
          case measure => exact meas_ltF hj9.out hjl
        · have zj : ¬ (j : Int) < ns := by omega
          go_wp2
          go_roundw
          case rel =>
            have h9 := hi1.out
            have hV6 := hV5.out
            obtain rfl : j = ns := by omega
            rw [← hns.out, List.take_length] at hV6
            refine ⟨i1, own3, c3, V5, rfl, by omega, hR5, ?_, by omega, by omega, hS5⟩
            show V5 = _
            rw [← h9, htk2.out]; exact hV6
          case measure => exact meas_ltF hi1.out hlt
    · have z1 : ¬ (i : Int) < n := by omega
      go_wp2
      go_ret
      refine ⟨rfl, own, c, ?_, fun j hj => (hS.far j hj).trans (ho1 j (by omega)), fun b hb => ?_, hm1.trans (hS.mod.sub (fun b hb => hog b hb.1.1))⟩
      · have hV2 := hV.out
        obtain rfl : i = n := by omega
        rw [← hn.out, List.take_length] at hV2
        unfold fillV
        rw [← hV2]
        exact hR
      · rw [hS.keep b (Nat.lt_of_lt_of_le hb hm1.size), ← hown0.out]
end
end Go.Proofs.YgvahwGreat
