import Derived.Test.YgvahwGreatNz0
import Derived.Test.YgvahwGreatNx1
import Derived.Test.YgvahwGreatIh
import Derived.Test.YgvahwGreatYb6
import Derived.Test.YgvahwGreatTk
import Derived.Test.YgvahwGreatTn
import Derived.Test.YgvahwGreatTa
import Derived.Test.YgvahwGreatPr
import Derived.Test.YgvahwGreatYi0
import Derived.Test.YgvahwGreatYm3
import Derived.Test.YgvahwGreatVaTb0
import Derived.Test.YgvahwGreatLd
import Derived.Test.YgvahwGreatYf0
namespace Go.Proofs.YgvahwGreat
open Go.RowKit
set_option linter.unusedSimpArgs false
theorem meas_ltn {n j j2 : Nat} (h9 : j + 1 = j2) (h : j < n) : n - (intOf (.int .i64 (j2 : Nat))).toNat < n - (intOf (.int .i64 (j : Nat))).toNat := by
  simp only [intOf, Int.toNat_natCast]; omega
theorem zero108n : zeroOf Hvah.prog 121 = some (acR 0 (.slice none 0 0) (.slice none 0 0) (.slice none 0 0) (.slice none 0 0)) := by kernel_rfl
theorem under93n : Hvah.prog.underlying 106 = some (.slice 121) := by kernel_rfl
theorem under106n : Hvah.prog.underlying 119 = some (.slice 125) := by kernel_rfl
theorem info116n : Hvah.prog.info? 125 = some Hvah.t125 := by kernel_rfl
theorem zero116v : Hvah.t125.zero = some (.agg #[.slice none 0 0, .slice none 0 0]) := by kernel_rfl
theorem size116n : Hvah.t125.size = 2 := by kernel_rfl
theorem info108n : Hvah.prog.info? 121 = some Hvah.t121 := by kernel_rfl
theorem zero108w : Hvah.t121.zero = some (.agg (acR 0 (.slice none 0 0) (.slice none 0 0) (.slice none 0 0) (.slice none 0 0))) := by kernel_rfl
theorem size108n : Hvah.t121.size = 24 := by kernel_rfl
theorem row_of_blkn {W : World} {B n : Nat} {t : TypeId} {r : Array Value} (h : Blk W B n t (cf r)) (hr : r.size = n) : RowIn W B 0 r := fun i u hu => by
  have hi := (Array.getElem?_eq_some_iff.1 hu).1
  rw [Nat.zero_add, h.cell (by omega)]
  have := get_cf hi
  rw [this] at hu
  injection hu with hu
  rw [hu]
theorem ISlC.cellsn {c c' : Nat → Value} {o o' : Nat} {x : Nat × Nat} (hc : ∀ j, j < 64 → c' (o' + j) = c (o + j)) (h : ISlC c o x) : ISlC c' o' x where
  key := fun j u hu => by
    have hj := (Array.getElem?_eq_some_iff.1 hu).1
    rw [bwS h.kLt] at hj
    rw [hc j (by omega)]; exact h.key j u hu
  kLt := h.kLt
  val := fun j u hu => by
    have hj := (Array.getElem?_eq_some_iff.1 hu).1
    rw [bwS h.vLt] at hj
    have := hc (32 + j) (by omega)
    rw [← Nat.add_assoc, ← Nat.add_assoc] at this
    rw [this]; exact h.val j u hu
  vLt := h.vLt
theorem isl_ones {r : Array Value} {x : Nat × Nat} (hr : r.size = 64) (h : ISlC (cf r) 0 x) : Ones r := ones_of (fun q hq => by
  rw [hr] at hq
  rcases Nat.lt_or_ge q 32 with hh | hh
  · have := h.key q _ (get_cf (r := bw x.1) (by rw [bwS h.kLt]; omega))
    rw [Nat.zero_add] at this
    rw [this]; exact Ones.get (r := bw x.1) (bw_one x.1) (by rw [bwS h.kLt]; omega)
  · have := h.val (q - 32) _ (get_cf (r := bw x.2) (by rw [bwS h.vLt]; omega))
    rw [Nat.zero_add, show 32 + (q - 32) = q by omega] at this
    rw [this]; exact Ones.get (r := bw x.2) (bw_one x.2) (by rw [bwS h.vLt]; omega))
theorem joinN6 {P Fc : Nat → World → Value → Value → Value → Prop} {G : Prop} (h : (∀ B W u v x, Fc B W u v x → P B W u v x) → G) (k : ∀ B W u v x, Fc B W u v x → P B W u v x) : G := h k
theorem joinN5 {P Fc : World → Value → Nat → Value → Value → Prop} {G : Prop} (h : (∀ W u B x y, Fc W u B x y → P W u B x y) → G) (k : ∀ W u B x y, Fc W u B x y → P W u B x y) : G := h k
theorem joinN3 {P Fc : World → Value → Nat → Prop} {G : Prop} (h : (∀ W u B, Fc W u B → P W u B) → G) (k : ∀ W u B, Fc W u B → P W u B) : G := h k
theorem joinN4 {P Fc : World → Value → Prop} {G : Prop} (h : (∀ W u, Fc W u → P W u) → G) (k : ∀ W u, Fc W u → P W u) : G := h k
theorem zero116n : zeroOf Hvah.prog 125 = some #[.slice none 0 0, .slice none 0 0] := by kernel_rfl
theorem onet93n : OneT 106 := oneT_of (by kernel_rfl) (by kernel_rfl)
theorem onet106n : OneT 119 := oneT_of (by kernel_rfl) (by kernel_rfl)
theorem onet112n : OneT 56 := oneT_of (by kernel_rfl) (by kernel_rfl)
theorem onet32n : OneT 23 := oneT_of (by kernel_rfl) (by kernel_rfl)
theorem onet29n : OneT 34 := oneT_of (by kernel_rfl) (by kernel_rfl)
theorem onet96n : OneT 109 := oneT_of (by kernel_rfl) (by kernel_rfl)
theorem onet26n : OneT 24 := oneT_of (by kernel_rfl) (by kernel_rfl)
theorem rt108n : RowT 121 24 := rowT_of (by kernel_rfl) (by kernel_rfl)
theorem z105m : (zeroOf Hvah.prog 118).map (fun z => (z.size, [cf z 0, cf z 1, cf z 2, cf z 3, cf z 4, cf z 5, cf z 6, cf z 7, cf z 11, cf z 12, cf z 13, cf z 18, cf z 10])) = some (179, [.slice none 0 0, .slice none 0 0, .slice none 0 0, .slice none 0 0, .slice none 0 0, .slice none 0 0, .slice none 0 0, .slice none 0 0, .int .u8 0, .int .u8 0, .int .u8 0, .slice none 0 0, .slice none 0 0]) := by kernel_rfl
theorem z105n : ∃ z, zeroOf Hvah.prog 118 = some z ∧ z.size = 179 ∧ (cf z 0 = .slice none 0 0 ∧ cf z 1 = .slice none 0 0 ∧ cf z 2 = .slice none 0 0 ∧ cf z 3 = .slice none 0 0 ∧ cf z 4 = .slice none 0 0 ∧ cf z 5 = .slice none 0 0 ∧ cf z 6 = .slice none 0 0 ∧ cf z 7 = .slice none 0 0 ∧ cf z 11 = .int .u8 0 ∧ cf z 12 = .int .u8 0 ∧ cf z 13 = .int .u8 0 ∧ cf z 18 = .slice none 0 0 ∧ cf z 10 = .slice none 0 0) := by
  have h := z105m
  cases e : zeroOf Hvah.prog 118 with
  | none => rw [e] at h; cases h
  | some z =>
    rw [e] at h
    simp only [Option.map_some, Option.some.injEq, Prod.mk.injEq, List.cons.injEq, and_true] at h
    exact ⟨z, rfl, h.1, h.2⟩
theorem rowOf_cfn {r : Array Value} {n : Nat} (hr : r.size = n) : rowOf (cf r) 0 n = r := by
  apply Array.ext_getElem?
  intro i
  rw [rowOf_get]
  by_cases q : i < n
  · rw [if_pos q, Nat.zero_add, get_cf (by rw [hr]; exact q)]
  · rw [if_neg q, Array.getElem?_eq_none (by rw [hr]; omega)]
theorem OC.smalln {α : Type} {O T : Nat → Prop} {w : World} {v : Value} {ty : TypeId} {sz : Nat} {R : (Nat → Value) → Nat → α → Prop} {l : List α} (hO : Small O w) (h : GRow ty sz R T w v l) : Small (OC O v) w := fun b hb => by
  rcases hb with hb | hb
  · exact hO b hb
  · rcases h with ⟨_, rfl⟩ | ⟨b', cap, c, h1, h2, h3, h4, h5, h6⟩
    · exact absurd hb (curB_nil b)
    · rw [CurB.eq h1 hb]; exact h4.lt
theorem OC.above {α : Type} {T : Nat → Prop} {w : World} {v : Value} {ty : TypeId} {sz : Nat} {R : (Nat → Value) → Nat → α → Prop} {l : List α} (h : GRow ty sz R T w v l) {b : Nat} (hb : CurB v b) : T b ∧ b < w.heap.size := by
  rcases h with ⟨_, rfl⟩ | ⟨b', cap, c, h1, h2, h3, h4, h5, h6⟩
  · exact absurd hb (curB_nil b)
  · rw [CurB.eq h1 hb]; exact ⟨h5, h4.lt⟩
theorem GRow.curT {α : Type} {T T' : Nat → Prop} {w : World} {v : Value} {ty : TypeId} {sz : Nat} {R : (Nat → Value) → Nat → α → Prop} {l : List α} (h : GRow ty sz R T w v l) (hT : ∀ b, CurB v b → T b → T' b) : GRow ty sz R T' w v l := by
  rcases h with q | ⟨b', cap, c, h1, h2, h3, h4, h5, h6⟩
  · exact Or.inl q
  · exact Or.inr ⟨b', cap, c, h1, h2, h3, h4, hT b' ⟨_, _, h1⟩ h5, h6⟩
theorem grow_onen {α : Type} {T : Nat → Prop} {w : World} {v : Value} {ty : TypeId} {sz : Nat} {R : (Nat → Value) → Nat → α → Prop} {l : List α} (h : GRow ty sz R T w v l) : v.oneCell' = true := by
  rcases h with ⟨_, rfl⟩ | ⟨b', cap, c, h1, _⟩
  · rfl
  · rw [h1]; rfl
/-- A number beside a list that grows. -/
theorem NV.pushN {O : Nat → Prop} {w W : World} {v v' x : Value} {n k : Nat} (h : NV (OC O v) w x n) (m : Mod (fun b => CurB v b ∨ w.heap.size ≤ b) w W) (hv : ∃ b cap, v' = .slice (some ⟨b, 0, none⟩) k cap ∧ (CurB v b ∨ w.heap.size ≤ b)) : NV (OC O v') W x n := by
  obtain ⟨b, cap, e, q⟩ := hv
  have h1 : NV (fun z => OC O v z ∨ z = b) w x n := h.reo (fun z hz k => k.elim id (fun k => by
    rcases q with q | q
    · rw [k]; exact Or.inr q
    · omega))
  have m2 : Mod (fun z => CurB v z) w W := (Mod.refl _ _).trans' m (fun z q => q)
  refine (h1.keep m2 (fun z hz k => hz (Or.inl (Or.inr k)))).reo (fun z _ k => ?_)
  rcases k with k | k
  · exact Or.inl (Or.inl k)
  · exact Or.inr (CurB.eq e k)
theorem SlC.cellsn {O : Nat → Prop} {w : World} {c c' : Nat → Value} {o : Nat} {x : Nat × Nat} (hc : ∀ j, j < 2 → c' (o + j) = c (o + j)) (h : SlC O w c o x) : SlC O w c' o x :=
  ⟨by have := hc 0 (by decide); rw [Nat.add_zero] at this; rw [this]; exact h.key, by rw [hc 1 (by decide)]; exact h.val⟩
theorem SlC.keepn {O S : Nat → Prop} {w w' : World} {c : Nat → Value} {o : Nat} {x : Nat × Nat} (m : Mod S w w') (hs : ∀ b, ¬ O b → ¬ S b) (h : SlC O w c o x) : SlC O w' c o x := ⟨h.key.keep m hs, h.val.keep m hs⟩
theorem SlC.reon {O O' : Nat → Prop} {w : World} {c : Nat → Value} {o : Nat} {x : Nat × Nat} (hr : ∀ b, b < w.heap.size → O' b → O b) (h : SlC O w c o x) : SlC O' w c o x := ⟨h.key.reo hr, h.val.reo hr⟩
theorem SloL.reon {O O' : Nat → Prop} {w : World} {v : Value} {l : List (Nat × Nat)} (hr : ∀ b, b < w.heap.size → O' b → O b) (h : SloL O w v l) : SloL O' w v l :=
  GRow.mono h (fun _ _ _ k => k.reon hr) (fun b hb q k => q (hr b hb k)) (fun _ _ _ _ k _ => k)
theorem YAC.cellsn {O : Nat → Prop} {w : World} {c c' : Nat → Value} {o : Nat} {x : YA} (hc : ∀ j, j < 24 → c' (o + j) = c (o + j)) (h : YAC O w c o x) : YAC O w c' o x :=
  ⟨h.addr.same h.parts.aLt (fun j hj => hc j (by omega)), by rw [hc 20 (by decide), hc 21 (by decide), hc 22 (by decide), hc 23 (by decide)]; exact h.parts⟩
theorem YAC.keepn {O S : Nat → Prop} {w w' : World} {c : Nat → Value} {o : Nat} {x : YA} (m : Mod S w w') (hs : ∀ b, ¬ O b → ¬ S b) (h : YAC O w c o x) : YAC O w' c o x := ⟨h.addr, h.parts.keep m hs⟩
theorem YAC.reon {O O' : Nat → Prop} {w : World} {c : Nat → Value} {o : Nat} {x : YA} (hr : ∀ b, b < w.heap.size → O' b → O b) (h : YAC O w c o x) : YAC O' w c o x :=
  ⟨h.addr, h.parts.aLt, h.parts.nonce.reo hr, h.parts.bal.reo hr, h.parts.code.reo hr, h.parts.slots.reon hr⟩
theorem acR_cfn {a : Nat} (ha : a < 2 ^ 160) (u1 u2 u3 u4 : Value) : (∀ j, j < 20 → cf (acR a u1 u2 u3 u4) j = cf (av a) j) ∧ cf (acR a u1 u2 u3 u4) 20 = u1 ∧ cf (acR a u1 u2 u3 u4) 21 = u2 ∧ cf (acR a u1 u2 u3 u4) 22 = u3 ∧ cf (acR a u1 u2 u3 u4) 23 = u4 := by
  have h := av_size ha
  refine ⟨fun j hj => ?_, ?_, ?_, ?_, ?_⟩
  · unfold acR; rw [cf_append, if_pos (by omega)]
  all_goals unfold acR; rw [cf_append, if_neg (by omega), h]; rfl
theorem acR_updn {a : Nat} (ha : a < 2 ^ 160) (u1 u2 u3 v v' : Value) (j : Nat) (hj : j < 24) : cf (acR a u1 u2 u3 v') j = updv (cf (acR a u1 u2 u3 v)) 23 v' j := by
  obtain ⟨k1, k2, k3, k4, k5⟩ := acR_cfn ha u1 u2 u3 v
  obtain ⟨g1, g2, g3, g4, g5⟩ := acR_cfn ha u1 u2 u3 v'
  by_cases q : j = 23
  · subst q; rw [updv_same]; exact g5
  rw [updv_ne _ _ q]
  by_cases q1 : j < 20
  · rw [k1 j q1, g1 j q1]
  rcases (show j = 20 ∨ j = 21 ∨ j = 22 by omega) with rfl | rfl | rfl
  · rw [k2, g2]
  · rw [k3, g3]
  · rw [k4, g4]
theorem acR_layn {z : Nat → Value} {a : Nat} (ha : a < 2 ^ 160) (u1 u2 u3 u4 : Value) (j : Nat) (hj : j < 24) : cf (acR a u1 u2 u3 u4) j = layv z 0 (acR a u1 u2 u3 u4) j := by
  have := layv_in z 0 (acR a u1 u2 u3 u4) (j := j) (by rw [acR_size ha]; exact hj)
  rw [Nat.zero_add] at this
  exact this.symm
theorem acR_rown {O : Nat → Prop} {w : World} {x : YA} {u1 u2 u3 u4 : Value} (h : AcP O w x u1 u2 u3 u4) (c : Nat → Value) (o : Nat) (hc : ∀ j u, (acR x.addr u1 u2 u3 u4)[j]? = some u → c (o + j) = u) : YAC O w c o x := by
  have ha := h.aLt
  have hs := av_size ha
  refine ⟨fun j u hu => hc j u ?_, ?_⟩
  · have hj := (Array.getElem?_eq_some_iff.1 hu).1
    unfold acR
    rw [Array.getElem?_append_left hj]; exact hu
  · have g : ∀ k u, (#[u1, u2, u3, u4] : Array Value)[k]? = some u → c (o + (20 + k)) = u := fun k u hu => hc (20 + k) u (by
      unfold acR
      rw [Array.getElem?_append_right (by omega), hs, show 20 + k - 20 = k by omega]; exact hu)
    rw [show c (o + 20) = u1 from g 0 u1 rfl, show c (o + 21) = u2 from g 1 u2 rfl, show c (o + 22) = u3 from g 2 u3 rfl, show c (o + 23) = u4 from g 3 u4 rfl]
    exact h
theorem sumI_takn {l : List IAcct} {i : Nat} (h : i < l.length) : sumI (l.take (i + 1)) = sumI (l.take i) + l[i].bal := by
  unfold sumI
  rw [List.take_succ_eq_append_getElem h, List.map_append, List.map_singleton]
  exact foldr_add_end' _ _
theorem sumI_len (l : List IAcct) (i : Nat) : sumI (l.take i) ≤ sumI l := by
  induction l generalizing i with
  | nil => simp
  | cons x l ih =>
    cases i with
    | zero => exact Nat.zero_le _
    | succ i =>
      have := ih i
      unfold sumI at *
      simp only [List.take_succ_cons, List.map_cons, List.foldr_cons]
      omega
theorem NL.niln {O : Nat → Prop} {w : World} : NL O w (.slice none 0 0) [] := ⟨none, 0, rfl, Nat.le_refl _, by decide, BS.nil⟩
theorem wl_onen {O : Nat → Prop} {w : World} {v : Value} {l : List Nat} (h : WL O w v l) : v.oneCell' = true := by
  rcases h with ⟨_, rfl⟩ | ⟨_, _, _, rfl, _⟩ <;> rfl
theorem IAcC.cellsn {O : Nat → Prop} {w : World} {c c' : Nat → Value} {o o' : Nat} {x : IAcct} (hc : ∀ j, j < 55 → c' (o' + j) = c (o + j)) (h : IAcC O w c o x) : IAcC O w c' o' x where
  addr := fun j u hu => by
    have hj := (Array.getElem?_eq_some_iff.1 hu).1
    rw [av_size h.aLt] at hj
    rw [hc j (by omega)]; exact h.addr j u hu
  aLt := h.aLt
  nonce := by rw [hc 20 (by decide)]; exact h.nonce
  nLt := h.nLt
  bal := fun j u hu => by
    have hj := (Array.getElem?_eq_some_iff.1 hu).1
    rw [bwS h.bLt] at hj
    have := hc (21 + j) (by omega)
    rw [← Nat.add_assoc, ← Nat.add_assoc] at this
    rw [this]; exact h.bal j u hu
  bLt := h.bLt
  code := by rw [hc 53 (by decide)]; exact h.code
  slots := by rw [hc 54 (by decide)]; exact h.slots
theorem iac_ones {O : Nat → Prop} {w : World} {r : Array Value} {x : IAcct} (hr : r.size = 55) (h : IAcC O w (cf r) 0 x) : Ones r := ones_of (fun q hq => by
  rw [hr] at hq
  rcases (show q < 20 ∨ q = 20 ∨ (21 ≤ q ∧ q < 53) ∨ q = 53 ∨ q = 54 by omega) with hh | rfl | hh | rfl | rfl
  · have := aat_one h.addr h.aLt q hh
    rwa [Nat.zero_add] at this
  · have := h.nonce; rw [Nat.zero_add] at this; rw [this]; rfl
  · have := h.bal (q - 21) _ (get_cf (r := bw x.bal) (by rw [bwS h.bLt]; omega))
    rw [Nat.zero_add, show 21 + (q - 21) = q by omega] at this
    rw [this]; exact Ones.get (r := bw x.bal) (bw_one x.bal) (by rw [bwS h.bLt]; omega)
  · have := h.code; rw [Nat.zero_add] at this
    obtain ⟨_, _, k, _⟩ := this
    rw [k]; rfl
  · have := h.slots; rw [Nat.zero_add] at this
    rcases this with ⟨_, _, k⟩ | ⟨_, _, _, _, k, _⟩ <;> rw [k] <;> rfl)
/-- What the chain must not point at as fixed. -/
def OY (O : Nat → Prop) (Y b : Nat) : Prop := b = Y ∨ O b
section
variable {O : Nat → Prop} {w : World} {v : Value} {r : Array Value} {l : List IAcct} {e : AEnv}
set_option maxRecDepth 100000 in
set_option maxHeartbeats 6400000 in
theorem yNewBadWorld (hin : EL 55 (IAcC O w) O w v l) (hl : worldOKI l = false) (hr : r.size = 120) : Calls Hvah.prog 22 #[v, .agg r] w fun x w' => x = .returned (.tuple #[.pointer none, .bool false]) ∧ Ext w w' := by
  have HW := fun W (hW : Ext w W) => oWorldOK (hin.mono hW (fun _ _ _ k => k.ext hW))
  rw [hl] at HW
  go_enter Hvah.func22, Hvah.ntmps22
  go_wp2_with (first | ((with_reducible (refine Veil.out ?_; apply wl_boxB)); (case hx => rfl); (case hn => exact hr); rintro B3 W3 e3 b3 g3) | (go_at_call 40; refine (HW _ (by (repeat (first | with_reducible exact Ext.refl _ | with_reducible assumption | refine Ext.trans ?_ (by with_reducible assumption) | refine Ext.alloc ?_ _ _ | refine Ext.drew ?_ | refine Ext.drewN ?_ _)))).mono ?_; rintro x w4 ⟨rfl, e4⟩))
  go_ret2
  exact ⟨rfl, by (repeat (first | with_reducible exact Ext.refl _ | with_reducible assumption | refine Ext.trans ?_ (by with_reducible assumption) | refine Ext.alloc ?_ _ _ | refine Ext.drew ?_ | refine Ext.drewN ?_ _))⟩
set_option maxRecDepth 100000 in
set_option maxHeartbeats 6400000 in
theorem yNewBadEnv (hin : EL 55 (IAcC O w) O w v l) (hl : worldOKI l = true) (hr : r.size = 120) (h : EnvI O w (cf r) e) (hf : ¬ e.hashes.length ≤ 4) : Calls Hvah.prog 22 #[v, .agg r] w fun x w' => x = .returned (.tuple #[.pointer none, .bool false]) ∧ Ext w w' := by
  have HW := fun W (hW : Ext w W) => oWorldOK (hin.mono hW (fun _ _ _ k => k.ext hW))
  rw [hl] at HW
  have HE := fun W (hW : Ext w W) => oEnvOK (h.ext hW) hr
  rw [decide_eq_false hf] at HE
  go_enter Hvah.func22, Hvah.ntmps22
  go_wp2_with (first | ((with_reducible (refine Veil.out ?_; apply wl_boxB)); (case hx => rfl); (case hn => exact hr); rintro B3 W3 e3 b3 g3) | (go_at_call 40; refine (HW _ (by (repeat (first | with_reducible exact Ext.refl _ | with_reducible assumption | refine Ext.trans ?_ (by with_reducible assumption) | refine Ext.alloc ?_ _ _ | refine Ext.drew ?_ | refine Ext.drewN ?_ _)))).mono ?_; rintro x w4 ⟨rfl, e4⟩) | ((with_reducible (refine Veil.out ?_; apply wlG_loadRow rt31i)); (case hw => go_simp); (case hx => rfl); (case hB => exact b3.ext (by (repeat (first | with_reducible exact Ext.refl _ | with_reducible assumption | refine Ext.trans ?_ (by with_reducible assumption) | refine Ext.alloc ?_ _ _ | refine Ext.drew ?_ | refine Ext.drewN ?_ _)))); (case hi => decide); rw [rowOf_cf hr]) | (go_at_call 37; refine (HE _ (by (repeat (first | with_reducible exact Ext.refl _ | with_reducible assumption | refine Ext.trans ?_ (by with_reducible assumption) | refine Ext.alloc ?_ _ _ | refine Ext.drew ?_ | refine Ext.drewN ?_ _)))).mono ?_; rintro x w5 ⟨rfl, e5⟩))
  go_ret2
  exact ⟨rfl, by (repeat (first | with_reducible exact Ext.refl _ | with_reducible assumption | refine Ext.trans ?_ (by with_reducible assumption) | refine Ext.alloc ?_ _ _ | refine Ext.drew ?_ | refine Ext.drewN ?_ _))⟩
set_option maxRecDepth 100000 in
set_option maxHeartbeats 6400000 in
theorem yNewGood (hOs : ∀ b, O b → b < w.heap.size) (hin : EL 55 (IAcC O w) O w v l) (hl : worldOKI l = true) (hr : r.size = 120) (h : EnvI O w (cf r) e) (hf : e.hashes.length ≤ 4) : Calls Hvah.prog 22 #[v, .agg r] w fun x w' => ∃ Y c, x = .returned (.tuple #[.pointer (some ⟨Y, 0, none⟩), .bool true]) ∧ (∀ st : ASt, st.phase = 0 → st.status = 0 → st.applied = 0 → st.env = e → st.now = (newW l).abs → YI (OY O Y) w' Y c (newW l) st (sumI l)) ∧ c 10 = .slice none 0 0 ∧ w.heap.size ≤ Y ∧ Ext w w' := by
  have HW := fun W (hW : Ext w W) => oWorldOK (hin.mono hW (fun _ _ _ k => k.ext hW))
  rw [hl] at HW
  have HE := fun W (hW : Ext w W) => oEnvOK (h.ext hW) hr
  rw [decide_eq_true hf] at HE
  have hro := env_ones hr h
  obtain ⟨hl8, hlr, hlok, hls⟩ := (worldOKI_iff l).1 hl
  have hinx : ∀ x ∈ l, (x.addr < 2 ^ 160 ∧ ∀ s ∈ x.slots, s.1 < P256) ∧ (x.nonce < 18446744073709551616 ∧ x.bal < P256) := fun x hx => by
    rcases hin with ⟨rfl, _⟩ | ⟨b, off, cap, cs, hv, hcap, hc2', hOb, hb, hcell, hrow⟩
    · exact absurd hx List.not_mem_nil
    obtain ⟨i, hi, rfl⟩ := List.getElem_of_mem hx
    have q := hrow i hi
    refine ⟨⟨q.aLt, fun s hs => ?_⟩, q.nLt, q.bLt⟩
    rcases q.slots with ⟨k, _⟩ | ⟨_, _, _, _, _, _, _, _, _, _, k⟩
    · rw [k] at hs; exact absurd hs List.not_mem_nil
    · obtain ⟨j, hj, rfl⟩ := List.getElem_of_mem hs
      exact (k j hj).kLt
  have hwf := newW_wf hl (fun x hx => (hinx x hx).1)
  have hlim := newW_lim hl (fun x hx => (hinx x hx).2)
  obtain ⟨vo, vc, hv, hv1, hv2⟩ := hin.slice
  obtain ⟨n, hn⟩ : ∃ n, Hid (l.length = n) := ⟨_, rfl⟩
  rw [hn.out] at hv hv1 hl8
  subst hv
  obtain ⟨z, hz1, hz2, hz0, hza, hzb, hzc, hzd, hze, hzf, hzg, hzh, hzi, hzj, hzk, hzl⟩ := z105n
  go_enter Hvah.func22, Hvah.ntmps22
  go_upto_region 4 with (first | ((with_reducible (refine Veil.out ?_; apply wl_boxB)); (case hx => rfl); (case hn => exact hr); rintro B3 W3 e3 b3 g3) | (go_at_call 40; refine (HW _ (by (repeat (first | with_reducible exact Ext.refl _ | with_reducible assumption | refine Ext.trans ?_ (by with_reducible assumption) | refine Ext.alloc ?_ _ _ | refine Ext.drew ?_ | refine Ext.drewN ?_ _)))).mono ?_; rintro x w4 ⟨rfl, e4⟩) | ((with_reducible (refine Veil.out ?_; apply wlG_loadRow rt31i)); (case hw => go_simp); (case hx => rfl); (case hB => exact b3.ext (by (repeat (first | with_reducible exact Ext.refl _ | with_reducible assumption | refine Ext.trans ?_ (by with_reducible assumption) | refine Ext.alloc ?_ _ _ | refine Ext.drew ?_ | refine Ext.drewN ?_ _)))); (case hi => decide); rw [rowOf_cf hr]) | (go_at_call 37; refine (HE _ (by (repeat (first | with_reducible exact Ext.refl _ | with_reducible assumption | refine Ext.trans ?_ (by with_reducible assumption) | refine Ext.alloc ?_ _ _ | refine Ext.drew ?_ | refine Ext.drewN ?_ _)))).mono ?_; rintro x w5 ⟨rfl, e5⟩) | ((with_reducible (refine Veil.out ?_; apply wl_allocB hz1)); (case hn => exact hz2); rintro Y W6 e6 b6 g6))
  have hE6 : Ext w W6 := by (repeat (first | with_reducible exact Ext.refl _ | with_reducible assumption | refine Ext.trans ?_ (by with_reducible assumption) | refine Ext.alloc ?_ _ _ | refine Ext.drew ?_ | refine Ext.drewN ?_ _))
  have hBY : B3 ≠ Y := fun q => by have := b3.lt; have := e4.size; have := e5.size; omega
  have b36 : Blk W6 B3 120 36 (cf r) := b3.ext (e4.trans (e5.trans e6))
  have gY : w.heap.size ≤ Y := Nat.le_trans (e3.trans (e4.trans e5)).size g6
  have hh6 : WL (OY O Y) W6 (cf r 119) e.hashes := by
    have q := h.hashes
    rcases q with q | ⟨b, off, cap, q1, q2, q3, q4, q5, q6⟩
    · exact Or.inl q
    · exact WL.ext (w := w) (Or.inr ⟨b, off, cap, q1, q2, q3, (fun k => k.elim (fun k2 => by omega) q4), q5, q6⟩) hE6
  clear b3 e3 e4 e5 e6 HW HE
  go_upto_region 5 with (first | ((with_reducible (refine Veil.out ?_; apply wl_loadRow rt31i)); (case hx => rfl); (case hB => exact b36); (case hi => decide); rw [rowOf_cf hr]) | ((with_reducible (refine Veil.out ?_; apply wl_storeRow rt31i)); (case hx => rfl); (case hy => rfl); (case hr => exact hr); (case h1 => exact hro); (case hB => exact b6); (case hi => decide); rintro W7 b7 m7))
  have b37 := b36.mod m7 hBY
  have hh7 : WL (OY O Y) W7 (cf r 119) e.hashes := hh6.keep m7 (fun b hb q => hb (Or.inl q))
  have hE7 : Ext w W7 := Ext.trans_mod hE6 m7 (fun q hq => by have hq2 : q = Y := hq; rw [hq2]; exact gY)
  have hO7 : Small (OY O Y) W7 := fun b hb => by
    rcases hb with hb2 | hb2
    · rw [hb2]; exact b7.lt
    · exact Nat.lt_of_lt_of_le (hOs b hb2) hE7.size
  have HWo := fun W (hW : Ext W7 W) => yWordsOf (hO7.ext hW) (hh7.ext hW) (Nat.le_trans hf (by decide))
  go_upto_region 6 with (first | ((with_reducible (refine Veil.out ?_; apply wl_loadC onet29n)); (case hw => rfl); (case hx => rfl); (case hc => exact b37.cell (i := 119) (by decide))) | (go_at_call 41; refine (HWo _ (by (repeat (first | with_reducible exact Ext.refl _ | with_reducible assumption | refine Ext.trans ?_ (by with_reducible assumption) | refine Ext.alloc ?_ _ _ | refine Ext.drew ?_ | refine Ext.drewN ?_ _)))).mono ?_; rintro x w8 ⟨rh, rfl, hrh, e8⟩) | ((with_reducible (refine Veil.out ?_; apply wl_storeC onet29n)); (case hx => rfl); (case hy => rfl); (case h1 => exact wl_onen hrh); (case hB => exact b7.ext e8); (case hi => decide); rintro W9 b9 m9))
  have hE9 : Ext w W9 := Ext.trans_mod (hE7.trans e8) m9 (fun q hq => by have hq2 : q = Y := hq; rw [hq2]; exact gY)
  have hrh9 : WL (OY O Y) W9 rh e.hashes := hrh.keep m9 (fun b hb q => hb (Or.inl q))
  change Blk W9 Y 179 118 (updv (layv (cf z) 59 r) 178 rh) at b9
  obtain ⟨c9, hc9⟩ : ∃ q, Hid (updv (layv (cf z) 59 r) 178 rh = q) := ⟨_, rfl⟩
  rw [hc9.out] at b9
  have hlow : ∀ i, i < 59 → c9 i = cf z i := fun i hi => by rw [← hc9.out, updv_ne _ _ (by omega), layv_out _ _ _ (Or.inl hi)]
  have hYl : Y < W9.heap.size := b9.lt
  have henv : ∀ (c' : Nat → Value) (W' : World), (∀ i, 59 ≤ i → c' i = c9 i) → Mod (fun b => b = Y) W9 W' → EnvC (OY O Y) W' c' 59 e := fun c' W' hc' hm => by
    refine EnvI.laid (O := OY O Y) (r := r) ?_ hf (fun j hj => ?_) ?_
    · exact { h with hashes := (hh7.ext e8).keep (m9.trans hm) (fun b hb q => hb (Or.inl q)) }
    · rw [hc' _ (by omega), ← hc9.out, updv_ne _ _ (by omega)]
      exact layv_in _ _ _ (by omega)
    · rw [hc' _ (by omega), ← hc9.out, updv_same]; exact hrh9.keep hm (fun b hb q => hb (Or.inl q))
  replace henv := (show Hid _ from henv)
  replace hlow := (show Hid _ from hlow)
  clear hh6 hh7 hO7 HWo b37 b36 b6 b7 m7 m9 e8 hrh hrh9 hE6 hE7
  go_upto_block 0 with (fail)
  try simp only [Act.put]
  go_cut [] (fun wx => ∃ va vt cY, Blk wx Y 179 118 cY ∧ cY 0 = va ∧ cY 18 = vt ∧ Hid (∀ i, i ≠ 0 → i ≠ 18 → cY i = c9 i) ∧ GRow 121 24 (YAC (OC (OY O Y) va) wx) (fun b => W9.heap.size ≤ b) wx va (l.map IAcct.ya) ∧ NV (OC (OY O Y) va) wx vt (sumI l) ∧ Ext w wx ∧ Mod (fun b => b = Y) W9 wx)
  case first =>
    go_upto_region 7 with (fail)
    try simp only [Act.put]
    go_loopw [36] (fun iv wr => ∃ (i : Nat) (va vt : Value) (cY : Nat → Value), iv = .int .i64 (i : Nat) ∧ i ≤ n ∧ Blk wr Y 179 118 cY ∧ cY 0 = va ∧ cY 18 = vt ∧ Hid (∀ i, i ≠ 0 → i ≠ 18 → cY i = c9 i) ∧ GRow 121 24 (YAC (OC (OY O Y) va) wr) (fun b => W9.heap.size ≤ b) wr va ((l.take i).map IAcct.ya) ∧ NV (OC (OY O Y) va) wr vt (sumI (l.take i)) ∧ Ext w wr ∧ Mod (fun b => b = Y) W9 wr) (fun iv _ => n - (intOf iv).toNat)
    case atStart => exact ⟨0, .slice none 0 0, .slice none 0 0, c9, rfl, Nat.zero_le _, b9, (hlow.out 0 (by decide)).trans hz0, (hlow.out 18 (by decide)).trans hzk, (fun _ _ _ => rfl : ∀ i, i ≠ 0 → i ≠ 18 → _), Or.inl ⟨rfl, rfl⟩, ⟨[], NL.niln, rfl⟩, hE9, Mod.refl _ _⟩
    case round =>
      obtain ⟨i, va, vt, cY, rfl, hi, bYr, hva, hvt, hcY, hGr, hNt, hEr, hMr⟩ := hrel
      obtain ⟨wo, ewo⟩ : ∃ X, X = wr := ⟨_, rfl⟩
      subst ewo
      rcases Nat.lt_or_ge i n with hlt | hge
      · have z1 : (i : Int) < n := by omega
        have hil : i < l.length := by rw [hn.out]; exact hlt
        rcases hin with ⟨q, _⟩ | ⟨b, off, cap, cs, hv, hcap, hc2', hOb, hb, hcell, hrow⟩
        · rw [q] at hil; exact absurd hil (Nat.not_lt_zero _)
        injection hv with hv1' hv2' hv3'
        clear hv2'
        subst hv1'
        subst hv3'
        have hri := hrow i hil
        have hxok := hlok i hil
        obtain ⟨x, hx⟩ : ∃ x, Hid (l[i] = x) := ⟨l[i], rfl⟩
        have htk : (l.take (i + 1)).map IAcct.ya = (l.take i).map IAcct.ya ++ [l[i].ya] := by rw [List.take_succ_eq_append_getElem hil, List.map_append]; rfl
        have hsm := sumI_takn hil
        have hsl := sumI_len l (i + 1)
        rw [hx.out] at hri hxok htk hsm
        replace htk := (show Hid _ from htk)
        have hxs : x.code.length ≤ 256 ∧ x.slots.length ≤ 16 := by
          unfold IAcct.ok at hxok
          rw [Bool.and_eq_true, Bool.and_eq_true, decide_eq_true_iff] at hxok
          exact hxok.1.2
        obtain ⟨hxs1, hxs2⟩ := hxs
        obtain ⟨i1, hi1⟩ : ∃ z : Nat, Hid ((i + 1 : Nat) = z) := ⟨_, rfl⟩
        have j1 : IntKind.i64.wrap ((i : Int) + 1) = (i1 : Int) := by rw [IntKind.wrap_i64, ← hi1.out]; omega
        have hRw : RowIn wo b (off + i * 55) (rowOf cs (i * 55) 55) := el_row (w := wo) (l := l) (fun j hj => (hEr.cell (p := ⟨b, off + j, none⟩) hb).trans (hcell j hj)) hil
        obtain ⟨rI, hrI⟩ : ∃ z, Hid (rowOf cs (i * 55) 55 = z) := ⟨_, rfl⟩
        have hrs : rI.size = 55 := by rw [← hrI.out]; exact rowOf_size _ _ _
        have hIc : IAcC O w (cf rI) 0 x := hri.cellsn (fun j hj => by rw [← hrI.out, Nat.zero_add, cf_rowOf _ _ _ hj])
        have hoI : Ones rI := iac_ones hrs hIc
        rw [hrI.out] at hRw
        have ha := hIc.aLt
        have hnl := hIc.nLt
        have hbl := hIc.bLt
        have hOC : Small (OC (OY O Y) va) wo := OC.smalln (fun b hb => hb.elim (fun hb2 => by rw [hb2]; exact bYr.lt) (fun hb2 => Nat.lt_of_lt_of_le (hOs b hb2) hEr.size)) hGr
        obtain ⟨OO, hOO⟩ : ∃ z, Hid (OC (OY O Y) va = z) := ⟨_, rfl⟩
        have hOOY : OO Y := by rw [← hOO.out]; exact Or.inl (Or.inl rfl)
        have hOOC : ∀ b, CurB va b → OO b := fun b hb => by rw [← hOO.out]; exact Or.inr hb
        rw [hOO.out] at hOC
        have hOO9 : Hid (∀ b, OO b → b < wo.heap.size) := hOC
        clear hxok hri hrow hcell hrI
        go_upto_region 9 with (first | ((with_reducible (refine Veil.out ?_; apply wl_loadR rt114x)); (case hn => exact hrs); (case hx => rfl); (case hr => exact hRw)) | ((with_reducible (refine Veil.out ?_; apply wl_allocB z114xq)); (case hn => rfl); rintro B8 W3 e3 b3 g3) | ((with_reducible (refine Veil.out ?_; apply wl_storeRow rt114x)); (case hx => rfl); (case hy => rfl); (case hr => exact hrs); (case h1 => exact hoI); (case hB => exact b3); (case hi => decide); rintro W4 b4 m4))
        have hE4 : Ext wo W4 := Ext.trans_mod e3 m4 (fun q hq => by have hq2 : q = B8 := hq; rw [hq2]; exact g3)
        replace b4 := b4.same (c' := cf rI) (fun j hj => by
          have := layv_in (cf z114x) 0 rI (j := j) (by rw [hrs]; exact hj)
          rw [Nat.zero_add] at this
          exact this.symm)
        have hE4w : Ext w W4 := hEr.trans hE4
        have hIc4 := hIc.ext hE4w
        have hOC4 := hOC.ext hE4
        obtain ⟨c8, hc8⟩ : ∃ z, Hid (cf rI = z) := ⟨_, rfl⟩
        rw [hc8.out] at b4 hIc hIc4
        have hca : AAt c8 0 x.addr := hIc.addr
        have hcn : c8 20 = .int .u64 (x.nonce : Nat) := by have := hIc.nonce; rwa [Nat.zero_add] at this
        have hcb : BAt c8 21 x.bal := by have := hIc.bal; rwa [Nat.zero_add] at this
        have hcc : NLx O W4 (c8 53) x.code := by have := hIc4.code; rwa [Nat.zero_add] at this
        have hcs : EL 64 ISlC O W4 (c8 54) x.slots := by have := hIc4.slots; rwa [Nat.zero_add] at this
        clear b3 m4 e3 hIc hIc4 hRw hoI hc8 hrs hOC
        refine w_ext ?_
        rintro W0 hW0
        refine' joinN6 (P := _) (Fc := fun BX W8 rn rb rc => Ext W0 W8 ∧ W0.heap.size ≤ BX ∧ Blk W8 BX 24 121 (layv (cf (acR 0 (.slice none 0 0) (.slice none 0 0) (.slice none 0 0) (.slice none 0 0))) 0 (acR x.addr rn rb rc (.slice none 0 0))) ∧ NV (Wd OO BX) W8 rn x.nonce ∧ NV (Wd OO BX) W8 rb x.bal ∧ NL (Wd OO BX) W8 rc x.code) (fun key => _) _
        rotate_left
        refine wp_region_held_drew (S := fun w' => Ext W0 w') (by kernel_rfl) (Ext.refl _).drew (fun hHeld => ?_)
        have HH : Hid (Ext W0 _) := hHeld
        clear hHeld
        refine wpAnyH_take (i := 0) (v := ?_) rfl (by kernel_rfl) (by kernel_rfl) (by kernel_rfl) (fun _ _ _ h => h) (Or.inl ⟨by rfl, ?_⟩) HH.out ?_
        rotate_left
        · intro w hSw; go_simp; try with_reducible rfl
        change wpAnyH _ _ _ _ _ _ _ (Act.put _ (some 40) _) _
        simp only [Act.put, List.setIfInBounds_toArray, List.set_cons_zero, List.set_cons_succ]
        refine wpAnyH_take (i := 1) rfl (by kernel_rfl) (by kernel_rfl) (by kernel_rfl) (fun _ _ _ h => h) (yields_A (by rfl) rfl rfl (fun w hSw => b4.ext (hW0.trans hSw)) hca ha (by decide)) HH.out ?_
        change wpAnyH _ _ _ _ _ _ _ (Act.put _ (some 41) _) _
        simp only [Act.put, List.setIfInBounds_toArray, List.set_cons_zero, List.set_cons_succ]
        refine wpAnyH_take (i := 2) (v := ?_) rfl (by kernel_rfl) (by kernel_rfl) (by kernel_rfl) (fun _ _ _ h => h) (Or.inl ⟨by rfl, ?_⟩) HH.out ?_
        rotate_left
        · intro w hSw; go_simp; try with_reducible rfl
        change wpAnyH _ _ _ _ _ _ _ (Act.put _ (some 42) _) _
        simp only [Act.put, List.setIfInBounds_toArray, List.set_cons_zero, List.set_cons_succ]
        refine wpAnyH_take (i := 3) rfl (by kernel_rfl) (by kernel_rfl) (by kernel_rfl) (fun _ _ _ h => h) (yieldsIf_load1 (by rfl) _ _ rfl _ _ rfl onet26n _ (fun w hSw => ((b4.ext (hW0.trans hSw)).cell (by decide)).trans (congrArg some hcn))) HH.out ?_
        change wpAnyH _ _ _ _ _ _ _ (Act.put _ (some 43) _) _
        simp only [Act.put, List.setIfInBounds_toArray, List.set_cons_zero, List.set_cons_succ]
        refine wpAnyH_take (i := 5) (v := ?_) rfl (by kernel_rfl) (by kernel_rfl) (by kernel_rfl) (fun _ _ _ h => h) (Or.inl ⟨by rfl, ?_⟩) HH.out ?_
        rotate_left
        · intro w hSw; go_simp; try with_reducible rfl
        change wpAnyH _ _ _ _ _ _ _ (Act.put _ (some 45) _) _
        simp only [Act.put, List.setIfInBounds_toArray, List.set_cons_zero, List.set_cons_succ]
        refine wpAnyH_take (i := 6) (v := ?_) rfl (by kernel_rfl) (by kernel_rfl) (by kernel_rfl) (fun _ _ _ h => h) (Or.inl ⟨by rfl, ?_⟩) HH.out ?_
        rotate_left
        · intro w hSw; go_simp; try with_reducible rfl
        change wpAnyH _ _ _ _ _ _ _ (Act.put _ (some 46) _) _
        simp only [Act.put, List.setIfInBounds_toArray, List.set_cons_zero, List.set_cons_succ]
        refine wpAnyH_take (i := 8) (v := ?_) rfl (by kernel_rfl) (by kernel_rfl) (by kernel_rfl) (fun _ _ _ h => h) (Or.inl ⟨by rfl, ?_⟩) HH.out ?_
        rotate_left
        · intro w hSw; go_simp; try with_reducible rfl
        change wpAnyH _ _ _ _ _ _ _ (Act.put _ (some 48) _) _
        simp only [Act.put, List.setIfInBounds_toArray, List.set_cons_zero, List.set_cons_succ]
        refine wpAnyH_take (i := 9) rfl (by kernel_rfl) (by kernel_rfl) (by kernel_rfl) (fun _ _ _ h => h) (yieldsIf_load1 (by rfl) _ _ rfl _ _ rfl onet32n _ (fun w hSw => (b4.ext (hW0.trans hSw)).cell (by decide))) HH.out ?_
        change wpAnyH _ _ _ _ _ _ _ (Act.put _ (some 49) _) _
        simp only [Act.put, List.setIfInBounds_toArray, List.set_cons_zero, List.set_cons_succ]
        refine wpAnyH_ready (rs := [4, 12]) (by kernel_rfl) (by simp) ?_
        refine (AllReadyH.cons rfl (fun K hK => ?_) (AllReadyH.cons rfl (fun K hK => ?_) AllReadyH.nil))
        go_simp
        go_at_call 42; refine (nNum OO _ _ (hOC4.ext (by (repeat (first | with_reducible exact Ext.refl _ | with_reducible assumption | refine Ext.trans ?_ (by with_reducible assumption) | refine Ext.alloc ?_ _ _ | refine Ext.drew ?_ | refine Ext.drewN ?_ _)))) hnl).mono ?_; rintro e wa ⟨rn, rfl, hrn, he⟩
        refine hK.out _ _ ?_ (fun hHeld => ?_)
        · first | exact HH.out.trans hmY | exact HH.out.trans he | exact HH.out
        clear hK K HH
        have HH : Hid (Ext W0 _) := hHeld
        clear hHeld
        refine wpAnyH_ready (rs := [7, 12]) (by kernel_rfl) (by simp) ?_
        refine (AllReadyH.cons rfl (fun K hK => ?_) (AllReadyH.cons rfl (fun K hK => ?_) AllReadyH.nil))
        go_simp
        go_at_call 43; refine (nFromB (O := OO) (hOC4.ext (by (repeat (first | with_reducible exact Ext.refl _ | with_reducible assumption | refine Ext.trans ?_ (by with_reducible assumption) | refine Ext.alloc ?_ _ _ | refine Ext.drew ?_ | refine Ext.drewN ?_ _)))) (b4.ext (by (repeat (first | with_reducible exact Ext.refl _ | with_reducible assumption | refine Ext.trans ?_ (by with_reducible assumption) | refine Ext.alloc ?_ _ _ | refine Ext.drew ?_ | refine Ext.drewN ?_ _)))) hcb hbl (by decide)).mono ?_; rintro e wb ⟨rb, rfl, hrb, he⟩
        refine hK.out _ _ ?_ (fun hHeld => ?_)
        · first | exact HH.out.trans hmY | exact HH.out.trans he | exact HH.out
        clear hK K HH
        have HH : Hid (Ext W0 _) := hHeld
        clear hHeld
        refine wpAnyH_ready (rs := [10, 12]) (by kernel_rfl) (by simp) ?_
        refine (AllReadyH.cons rfl (fun K hK => ?_) (AllReadyH.cons rfl (fun K hK => ?_) AllReadyH.nil))
        go_simp
        go_at_call 36; refine (yBytesOfX (O := OO) (hOC4.ext (by (repeat (first | with_reducible exact Ext.refl _ | with_reducible assumption | refine Ext.trans ?_ (by with_reducible assumption) | refine Ext.alloc ?_ _ _ | refine Ext.drew ?_ | refine Ext.drewN ?_ _)))) (hcc.ext (by (repeat (first | with_reducible exact Ext.refl _ | with_reducible assumption | refine Ext.trans ?_ (by with_reducible assumption) | refine Ext.alloc ?_ _ _ | refine Ext.drew ?_ | refine Ext.drewN ?_ _)))) (by omega)).mono ?_; rintro e wd ⟨rc, rfl, hrc, he⟩
        refine hK.out _ _ ?_ (fun hHeld => ?_)
        · first | exact HH.out.trans hmY | exact HH.out.trans he | exact HH.out
        clear hK K HH
        have HH : Hid (Ext W0 _) := hHeld
        clear hHeld
        refine wpAnyH_take (i := 11) rfl (by kernel_rfl) (by kernel_rfl) (by kernel_rfl) (fun _ _ _ h => h) (yields_build (ps := [(0, .agg (av x.addr)), (1, rn), (2, rb), (3, rc)]) (by rfl) rfl (b108 ha hrn.one hrb.one hrc.one) (by simp [Act.eval])) HH.out ?_
        change wpAnyH _ _ _ _ _ _ _ (Act.put _ (some 51) _) _
        simp only [Act.put, List.setIfInBounds_toArray, List.set_cons_zero, List.set_cons_succ]
        refine wpAnyH_ready (rs := [12]) (by kernel_rfl) (by simp) ?_
        refine AllReadyH.cons rfl (fun K hK => ?_) AllReadyH.nil
        refine step_any rfl (op_alloc rfl zero108n rfl ?_)
        rintro BX W7 e7 b7 g7
        refine hK.out _ _ ?_ (fun hHeld => ?_)
        · exact HH.out.trans e7
        clear hK K HH
        have HH : Hid (Ext W0 _) := hHeld
        clear hHeld
        change wpAnyH _ _ _ _ _ _ _ (Act.put _ (some 9) _) _
        simp only [Act.put, List.setIfInBounds_toArray, List.set_cons_zero, List.set_cons_succ]
        refine wpAnyH_ready (rs := [13]) (by kernel_rfl) (by simp) ?_
        refine AllReadyH.cons rfl (fun K hK => ?_) AllReadyH.nil
        refine step_any rfl (op_storeRow rfl rt108n rfl rfl (acR_size ha _ _ _ _) (acR_one hrn.one hrb.one hrc.one rfl) (b7.ext (by (repeat (first | with_reducible exact Ext.refl _ | with_reducible assumption | refine Ext.trans ?_ (by with_reducible assumption) | refine Ext.alloc ?_ _ _ | refine Ext.drew ?_ | refine Ext.drewN ?_ _)))) (by decide) ?_)
        rintro W8 b8 m8
        refine hK.out _ _ ?_ (fun hHeld => ?_)
        · exact Ext.trans_mod HH.out m8 (fun q hq => by have hq2 : q = BX := hq; rw [hq2]; exact Nat.le_trans (Ext.size (by (repeat (first | with_reducible exact Ext.refl _ | with_reducible assumption | refine Ext.trans ?_ (by with_reducible assumption) | refine Ext.alloc ?_ _ _ | refine Ext.drew ?_ | refine Ext.drewN ?_ _)))) g7)
        clear hK K HH
        have HH : Hid (Ext W0 _) := hHeld
        clear hHeld
        change wpAnyH _ _ _ _ _ _ _ (Act.put _ none _) _
        simp only [Act.put, List.setIfInBounds_toArray, List.set_cons_zero, List.set_cons_succ]
        refine wpAnyH_done (by kernel_rfl) ?_ _
        (have hX1 : NV (Wd OO BX) W8 rn x.nonce := (by first | exact (NV.ext (O := Wd OO BX) hrn (by (repeat (first | with_reducible exact Ext.refl _ | with_reducible assumption | refine Ext.trans ?_ (by with_reducible assumption) | refine Ext.alloc ?_ _ _ | refine Ext.drew ?_ | refine Ext.drewN ?_ _)))).keep m8 (fun b hb q => hb (Or.inr q)) | exact ((hrn.widen (Nat.le_trans (Ext.size (by (repeat (first | with_reducible exact Ext.refl _ | with_reducible assumption | refine Ext.trans ?_ (by with_reducible assumption) | refine Ext.alloc ?_ _ _ | refine Ext.drew ?_ | refine Ext.drewN ?_ _)))) g7)).ext (by (repeat (first | with_reducible exact Ext.refl _ | with_reducible assumption | refine Ext.trans ?_ (by with_reducible assumption) | refine Ext.alloc ?_ _ _ | refine Ext.drew ?_ | refine Ext.drewN ?_ _)))).keep m8 (fun b hb q => hb (Or.inr q))); have hX2 : NV (Wd OO BX) W8 rb x.bal := (by first | exact (NV.ext (O := Wd OO BX) hrb (by (repeat (first | with_reducible exact Ext.refl _ | with_reducible assumption | refine Ext.trans ?_ (by with_reducible assumption) | refine Ext.alloc ?_ _ _ | refine Ext.drew ?_ | refine Ext.drewN ?_ _)))).keep m8 (fun b hb q => hb (Or.inr q)) | exact ((hrb.widen (Nat.le_trans (Ext.size (by (repeat (first | with_reducible exact Ext.refl _ | with_reducible assumption | refine Ext.trans ?_ (by with_reducible assumption) | refine Ext.alloc ?_ _ _ | refine Ext.drew ?_ | refine Ext.drewN ?_ _)))) g7)).ext (by (repeat (first | with_reducible exact Ext.refl _ | with_reducible assumption | refine Ext.trans ?_ (by with_reducible assumption) | refine Ext.alloc ?_ _ _ | refine Ext.drew ?_ | refine Ext.drewN ?_ _)))).keep m8 (fun b hb q => hb (Or.inr q))); have hX3 : NL (Wd OO BX) W8 rc x.code := (by first | exact (NL.ext (O := Wd OO BX) hrc (by (repeat (first | with_reducible exact Ext.refl _ | with_reducible assumption | refine Ext.trans ?_ (by with_reducible assumption) | refine Ext.alloc ?_ _ _ | refine Ext.drew ?_ | refine Ext.drewN ?_ _)))).keep m8 (fun b hb q => hb (Or.inr q)) | exact ((hrc.widen (Nat.le_trans (Ext.size (by (repeat (first | with_reducible exact Ext.refl _ | with_reducible assumption | refine Ext.trans ?_ (by with_reducible assumption) | refine Ext.alloc ?_ _ _ | refine Ext.drew ?_ | refine Ext.drewN ?_ _)))) g7)).ext (by (repeat (first | with_reducible exact Ext.refl _ | with_reducible assumption | refine Ext.trans ?_ (by with_reducible assumption) | refine Ext.alloc ?_ _ _ | refine Ext.drew ?_ | refine Ext.drewN ?_ _)))).keep m8 (fun b hb q => hb (Or.inr q))); exact key BX W8 rn rb rc ⟨HH.out, Nat.le_trans (Ext.size (by (repeat (first | with_reducible exact Ext.refl _ | with_reducible assumption | refine Ext.trans ?_ (by with_reducible assumption) | refine Ext.alloc ?_ _ _ | refine Ext.drew ?_ | refine Ext.drewN ?_ _)))) g7, b8, hX1, hX2, hX3⟩)
        refine step_any rfl (op_alloc rfl zero108n rfl ?_)
        rintro BX W7 e7 b7 g7
        refine hK.out _ _ ?_ (fun hHeld => ?_)
        · exact HH.out.trans e7
        clear hK K HH
        have HH : Hid (Ext W0 _) := hHeld
        clear hHeld
        change wpAnyH _ _ _ _ _ _ _ (Act.put _ (some 9) _) _
        simp only [Act.put, List.setIfInBounds_toArray, List.set_cons_zero, List.set_cons_succ]
        refine wpAnyH_ready (rs := [10]) (by kernel_rfl) (by simp) ?_
        refine AllReadyH.cons rfl (fun K hK => ?_) AllReadyH.nil
        go_simp
        go_at_call 36; refine (yBytesOfX (O := Wd OO BX) (fun b hb => hb.elim (hOC4.ext (by (repeat (first | with_reducible exact Ext.refl _ | with_reducible assumption | refine Ext.trans ?_ (by with_reducible assumption) | refine Ext.alloc ?_ _ _ | refine Ext.drew ?_ | refine Ext.drewN ?_ _))) b) (fun q => by rw [q]; exact (show Blk _ BX 24 121 _ from b7.ext (by (repeat (first | with_reducible exact Ext.refl _ | with_reducible assumption | refine Ext.trans ?_ (by with_reducible assumption) | refine Ext.alloc ?_ _ _ | refine Ext.drew ?_ | refine Ext.drewN ?_ _)))).lt)) (hcc.ext (by (repeat (first | with_reducible exact Ext.refl _ | with_reducible assumption | refine Ext.trans ?_ (by with_reducible assumption) | refine Ext.alloc ?_ _ _ | refine Ext.drew ?_ | refine Ext.drewN ?_ _)))) (by omega)).mono ?_; rintro e wd ⟨rc, rfl, hrc, he⟩
        refine hK.out _ _ ?_ (fun hHeld => ?_)
        · first | exact HH.out.trans hmY | exact HH.out.trans he | exact HH.out
        clear hK K HH
        have HH : Hid (Ext W0 _) := hHeld
        clear hHeld
        refine wpAnyH_take (i := 11) rfl (by kernel_rfl) (by kernel_rfl) (by kernel_rfl) (fun _ _ _ h => h) (yields_build (ps := [(0, .agg (av x.addr)), (1, rn), (2, rb), (3, rc)]) (by rfl) rfl (b108 ha hrn.one hrb.one hrc.one) (by simp [Act.eval])) HH.out ?_
        change wpAnyH _ _ _ _ _ _ _ (Act.put _ (some 51) _) _
        simp only [Act.put, List.setIfInBounds_toArray, List.set_cons_zero, List.set_cons_succ]
        refine wpAnyH_ready (rs := [13]) (by kernel_rfl) (by simp) ?_
        refine AllReadyH.cons rfl (fun K hK => ?_) AllReadyH.nil
        refine step_any rfl (op_storeRow rfl rt108n rfl rfl (acR_size ha _ _ _ _) (acR_one hrn.one hrb.one hrc.one rfl) (b7.ext (by (repeat (first | with_reducible exact Ext.refl _ | with_reducible assumption | refine Ext.trans ?_ (by with_reducible assumption) | refine Ext.alloc ?_ _ _ | refine Ext.drew ?_ | refine Ext.drewN ?_ _)))) (by decide) ?_)
        rintro W8 b8 m8
        refine hK.out _ _ ?_ (fun hHeld => ?_)
        · exact Ext.trans_mod HH.out m8 (fun q hq => by have hq2 : q = BX := hq; rw [hq2]; exact Nat.le_trans (Ext.size (by (repeat (first | with_reducible exact Ext.refl _ | with_reducible assumption | refine Ext.trans ?_ (by with_reducible assumption) | refine Ext.alloc ?_ _ _ | refine Ext.drew ?_ | refine Ext.drewN ?_ _)))) g7)
        clear hK K HH
        have HH : Hid (Ext W0 _) := hHeld
        clear hHeld
        change wpAnyH _ _ _ _ _ _ _ (Act.put _ none _) _
        simp only [Act.put, List.setIfInBounds_toArray, List.set_cons_zero, List.set_cons_succ]
        refine wpAnyH_done (by kernel_rfl) ?_ _
        (have hX1 : NV (Wd OO BX) W8 rn x.nonce := (by first | exact (NV.ext (O := Wd OO BX) hrn (by (repeat (first | with_reducible exact Ext.refl _ | with_reducible assumption | refine Ext.trans ?_ (by with_reducible assumption) | refine Ext.alloc ?_ _ _ | refine Ext.drew ?_ | refine Ext.drewN ?_ _)))).keep m8 (fun b hb q => hb (Or.inr q)) | exact ((hrn.widen (Nat.le_trans (Ext.size (by (repeat (first | with_reducible exact Ext.refl _ | with_reducible assumption | refine Ext.trans ?_ (by with_reducible assumption) | refine Ext.alloc ?_ _ _ | refine Ext.drew ?_ | refine Ext.drewN ?_ _)))) g7)).ext (by (repeat (first | with_reducible exact Ext.refl _ | with_reducible assumption | refine Ext.trans ?_ (by with_reducible assumption) | refine Ext.alloc ?_ _ _ | refine Ext.drew ?_ | refine Ext.drewN ?_ _)))).keep m8 (fun b hb q => hb (Or.inr q))); have hX2 : NV (Wd OO BX) W8 rb x.bal := (by first | exact (NV.ext (O := Wd OO BX) hrb (by (repeat (first | with_reducible exact Ext.refl _ | with_reducible assumption | refine Ext.trans ?_ (by with_reducible assumption) | refine Ext.alloc ?_ _ _ | refine Ext.drew ?_ | refine Ext.drewN ?_ _)))).keep m8 (fun b hb q => hb (Or.inr q)) | exact ((hrb.widen (Nat.le_trans (Ext.size (by (repeat (first | with_reducible exact Ext.refl _ | with_reducible assumption | refine Ext.trans ?_ (by with_reducible assumption) | refine Ext.alloc ?_ _ _ | refine Ext.drew ?_ | refine Ext.drewN ?_ _)))) g7)).ext (by (repeat (first | with_reducible exact Ext.refl _ | with_reducible assumption | refine Ext.trans ?_ (by with_reducible assumption) | refine Ext.alloc ?_ _ _ | refine Ext.drew ?_ | refine Ext.drewN ?_ _)))).keep m8 (fun b hb q => hb (Or.inr q))); have hX3 : NL (Wd OO BX) W8 rc x.code := (by first | exact (NL.ext (O := Wd OO BX) hrc (by (repeat (first | with_reducible exact Ext.refl _ | with_reducible assumption | refine Ext.trans ?_ (by with_reducible assumption) | refine Ext.alloc ?_ _ _ | refine Ext.drew ?_ | refine Ext.drewN ?_ _)))).keep m8 (fun b hb q => hb (Or.inr q)) | exact ((hrc.widen (Nat.le_trans (Ext.size (by (repeat (first | with_reducible exact Ext.refl _ | with_reducible assumption | refine Ext.trans ?_ (by with_reducible assumption) | refine Ext.alloc ?_ _ _ | refine Ext.drew ?_ | refine Ext.drewN ?_ _)))) g7)).ext (by (repeat (first | with_reducible exact Ext.refl _ | with_reducible assumption | refine Ext.trans ?_ (by with_reducible assumption) | refine Ext.alloc ?_ _ _ | refine Ext.drew ?_ | refine Ext.drewN ?_ _)))).keep m8 (fun b hb q => hb (Or.inr q))); exact key BX W8 rn rb rc ⟨HH.out, Nat.le_trans (Ext.size (by (repeat (first | with_reducible exact Ext.refl _ | with_reducible assumption | refine Ext.trans ?_ (by with_reducible assumption) | refine Ext.alloc ?_ _ _ | refine Ext.drew ?_ | refine Ext.drewN ?_ _)))) g7, b8, hX1, hX2, hX3⟩)
        refine step_any rfl (op_alloc rfl zero108n rfl ?_)
        rintro BX W7 e7 b7 g7
        refine hK.out _ _ ?_ (fun hHeld => ?_)
        · exact HH.out.trans e7
        clear hK K HH
        have HH : Hid (Ext W0 _) := hHeld
        clear hHeld
        change wpAnyH _ _ _ _ _ _ _ (Act.put _ (some 9) _) _
        simp only [Act.put, List.setIfInBounds_toArray, List.set_cons_zero, List.set_cons_succ]
        refine wpAnyH_ready (rs := [7]) (by kernel_rfl) (by simp) ?_
        refine AllReadyH.cons rfl (fun K hK => ?_) AllReadyH.nil
        go_simp
        go_at_call 43; refine (nFromB (O := Wd OO BX) (fun b hb => hb.elim (hOC4.ext (by (repeat (first | with_reducible exact Ext.refl _ | with_reducible assumption | refine Ext.trans ?_ (by with_reducible assumption) | refine Ext.alloc ?_ _ _ | refine Ext.drew ?_ | refine Ext.drewN ?_ _))) b) (fun q => by rw [q]; exact (show Blk _ BX 24 121 _ from b7.ext (by (repeat (first | with_reducible exact Ext.refl _ | with_reducible assumption | refine Ext.trans ?_ (by with_reducible assumption) | refine Ext.alloc ?_ _ _ | refine Ext.drew ?_ | refine Ext.drewN ?_ _)))).lt)) (b4.ext (by (repeat (first | with_reducible exact Ext.refl _ | with_reducible assumption | refine Ext.trans ?_ (by with_reducible assumption) | refine Ext.alloc ?_ _ _ | refine Ext.drew ?_ | refine Ext.drewN ?_ _)))) hcb hbl (by decide)).mono ?_; rintro e wb ⟨rb, rfl, hrb, he⟩
        refine hK.out _ _ ?_ (fun hHeld => ?_)
        · first | exact HH.out.trans hmY | exact HH.out.trans he | exact HH.out
        clear hK K HH
        have HH : Hid (Ext W0 _) := hHeld
        clear hHeld
        refine wpAnyH_ready (rs := [10]) (by kernel_rfl) (by simp) ?_
        refine AllReadyH.cons rfl (fun K hK => ?_) AllReadyH.nil
        go_simp
        go_at_call 36; refine (yBytesOfX (O := Wd OO BX) (fun b hb => hb.elim (hOC4.ext (by (repeat (first | with_reducible exact Ext.refl _ | with_reducible assumption | refine Ext.trans ?_ (by with_reducible assumption) | refine Ext.alloc ?_ _ _ | refine Ext.drew ?_ | refine Ext.drewN ?_ _))) b) (fun q => by rw [q]; exact (show Blk _ BX 24 121 _ from b7.ext (by (repeat (first | with_reducible exact Ext.refl _ | with_reducible assumption | refine Ext.trans ?_ (by with_reducible assumption) | refine Ext.alloc ?_ _ _ | refine Ext.drew ?_ | refine Ext.drewN ?_ _)))).lt)) (hcc.ext (by (repeat (first | with_reducible exact Ext.refl _ | with_reducible assumption | refine Ext.trans ?_ (by with_reducible assumption) | refine Ext.alloc ?_ _ _ | refine Ext.drew ?_ | refine Ext.drewN ?_ _)))) (by omega)).mono ?_; rintro e wd ⟨rc, rfl, hrc, he⟩
        refine hK.out _ _ ?_ (fun hHeld => ?_)
        · first | exact HH.out.trans hmY | exact HH.out.trans he | exact HH.out
        clear hK K HH
        have HH : Hid (Ext W0 _) := hHeld
        clear hHeld
        refine wpAnyH_take (i := 11) rfl (by kernel_rfl) (by kernel_rfl) (by kernel_rfl) (fun _ _ _ h => h) (yields_build (ps := [(0, .agg (av x.addr)), (1, rn), (2, rb), (3, rc)]) (by rfl) rfl (b108 ha hrn.one hrb.one hrc.one) (by simp [Act.eval])) HH.out ?_
        change wpAnyH _ _ _ _ _ _ _ (Act.put _ (some 51) _) _
        simp only [Act.put, List.setIfInBounds_toArray, List.set_cons_zero, List.set_cons_succ]
        refine wpAnyH_ready (rs := [13]) (by kernel_rfl) (by simp) ?_
        refine AllReadyH.cons rfl (fun K hK => ?_) AllReadyH.nil
        refine step_any rfl (op_storeRow rfl rt108n rfl rfl (acR_size ha _ _ _ _) (acR_one hrn.one hrb.one hrc.one rfl) (b7.ext (by (repeat (first | with_reducible exact Ext.refl _ | with_reducible assumption | refine Ext.trans ?_ (by with_reducible assumption) | refine Ext.alloc ?_ _ _ | refine Ext.drew ?_ | refine Ext.drewN ?_ _)))) (by decide) ?_)
        rintro W8 b8 m8
        refine hK.out _ _ ?_ (fun hHeld => ?_)
        · exact Ext.trans_mod HH.out m8 (fun q hq => by have hq2 : q = BX := hq; rw [hq2]; exact Nat.le_trans (Ext.size (by (repeat (first | with_reducible exact Ext.refl _ | with_reducible assumption | refine Ext.trans ?_ (by with_reducible assumption) | refine Ext.alloc ?_ _ _ | refine Ext.drew ?_ | refine Ext.drewN ?_ _)))) g7)
        clear hK K HH
        have HH : Hid (Ext W0 _) := hHeld
        clear hHeld
        change wpAnyH _ _ _ _ _ _ _ (Act.put _ none _) _
        simp only [Act.put, List.setIfInBounds_toArray, List.set_cons_zero, List.set_cons_succ]
        refine wpAnyH_done (by kernel_rfl) ?_ _
        (have hX1 : NV (Wd OO BX) W8 rn x.nonce := (by first | exact (NV.ext (O := Wd OO BX) hrn (by (repeat (first | with_reducible exact Ext.refl _ | with_reducible assumption | refine Ext.trans ?_ (by with_reducible assumption) | refine Ext.alloc ?_ _ _ | refine Ext.drew ?_ | refine Ext.drewN ?_ _)))).keep m8 (fun b hb q => hb (Or.inr q)) | exact ((hrn.widen (Nat.le_trans (Ext.size (by (repeat (first | with_reducible exact Ext.refl _ | with_reducible assumption | refine Ext.trans ?_ (by with_reducible assumption) | refine Ext.alloc ?_ _ _ | refine Ext.drew ?_ | refine Ext.drewN ?_ _)))) g7)).ext (by (repeat (first | with_reducible exact Ext.refl _ | with_reducible assumption | refine Ext.trans ?_ (by with_reducible assumption) | refine Ext.alloc ?_ _ _ | refine Ext.drew ?_ | refine Ext.drewN ?_ _)))).keep m8 (fun b hb q => hb (Or.inr q))); have hX2 : NV (Wd OO BX) W8 rb x.bal := (by first | exact (NV.ext (O := Wd OO BX) hrb (by (repeat (first | with_reducible exact Ext.refl _ | with_reducible assumption | refine Ext.trans ?_ (by with_reducible assumption) | refine Ext.alloc ?_ _ _ | refine Ext.drew ?_ | refine Ext.drewN ?_ _)))).keep m8 (fun b hb q => hb (Or.inr q)) | exact ((hrb.widen (Nat.le_trans (Ext.size (by (repeat (first | with_reducible exact Ext.refl _ | with_reducible assumption | refine Ext.trans ?_ (by with_reducible assumption) | refine Ext.alloc ?_ _ _ | refine Ext.drew ?_ | refine Ext.drewN ?_ _)))) g7)).ext (by (repeat (first | with_reducible exact Ext.refl _ | with_reducible assumption | refine Ext.trans ?_ (by with_reducible assumption) | refine Ext.alloc ?_ _ _ | refine Ext.drew ?_ | refine Ext.drewN ?_ _)))).keep m8 (fun b hb q => hb (Or.inr q))); have hX3 : NL (Wd OO BX) W8 rc x.code := (by first | exact (NL.ext (O := Wd OO BX) hrc (by (repeat (first | with_reducible exact Ext.refl _ | with_reducible assumption | refine Ext.trans ?_ (by with_reducible assumption) | refine Ext.alloc ?_ _ _ | refine Ext.drew ?_ | refine Ext.drewN ?_ _)))).keep m8 (fun b hb q => hb (Or.inr q)) | exact ((hrc.widen (Nat.le_trans (Ext.size (by (repeat (first | with_reducible exact Ext.refl _ | with_reducible assumption | refine Ext.trans ?_ (by with_reducible assumption) | refine Ext.alloc ?_ _ _ | refine Ext.drew ?_ | refine Ext.drewN ?_ _)))) g7)).ext (by (repeat (first | with_reducible exact Ext.refl _ | with_reducible assumption | refine Ext.trans ?_ (by with_reducible assumption) | refine Ext.alloc ?_ _ _ | refine Ext.drew ?_ | refine Ext.drewN ?_ _)))).keep m8 (fun b hb q => hb (Or.inr q))); exact key BX W8 rn rb rc ⟨HH.out, Nat.le_trans (Ext.size (by (repeat (first | with_reducible exact Ext.refl _ | with_reducible assumption | refine Ext.trans ?_ (by with_reducible assumption) | refine Ext.alloc ?_ _ _ | refine Ext.drew ?_ | refine Ext.drewN ?_ _)))) g7, b8, hX1, hX2, hX3⟩)
        refine step_any rfl (op_alloc rfl zero108n rfl ?_)
        rintro BX W7 e7 b7 g7
        refine hK.out _ _ ?_ (fun hHeld => ?_)
        · exact HH.out.trans e7
        clear hK K HH
        have HH : Hid (Ext W0 _) := hHeld
        clear hHeld
        change wpAnyH _ _ _ _ _ _ _ (Act.put _ (some 9) _) _
        simp only [Act.put, List.setIfInBounds_toArray, List.set_cons_zero, List.set_cons_succ]
        refine wpAnyH_ready (rs := [4]) (by kernel_rfl) (by simp) ?_
        refine AllReadyH.cons rfl (fun K hK => ?_) AllReadyH.nil
        go_simp
        go_at_call 42; refine (nNum (Wd OO BX) _ _ (fun b hb => hb.elim (hOC4.ext (by (repeat (first | with_reducible exact Ext.refl _ | with_reducible assumption | refine Ext.trans ?_ (by with_reducible assumption) | refine Ext.alloc ?_ _ _ | refine Ext.drew ?_ | refine Ext.drewN ?_ _))) b) (fun q => by rw [q]; exact (show Blk _ BX 24 121 _ from b7.ext (by (repeat (first | with_reducible exact Ext.refl _ | with_reducible assumption | refine Ext.trans ?_ (by with_reducible assumption) | refine Ext.alloc ?_ _ _ | refine Ext.drew ?_ | refine Ext.drewN ?_ _)))).lt)) hnl).mono ?_; rintro e wa ⟨rn, rfl, hrn, he⟩
        refine hK.out _ _ ?_ (fun hHeld => ?_)
        · first | exact HH.out.trans hmY | exact HH.out.trans he | exact HH.out
        clear hK K HH
        have HH : Hid (Ext W0 _) := hHeld
        clear hHeld
        refine wpAnyH_ready (rs := [7]) (by kernel_rfl) (by simp) ?_
        refine AllReadyH.cons rfl (fun K hK => ?_) AllReadyH.nil
        go_simp
        go_at_call 43; refine (nFromB (O := Wd OO BX) (fun b hb => hb.elim (hOC4.ext (by (repeat (first | with_reducible exact Ext.refl _ | with_reducible assumption | refine Ext.trans ?_ (by with_reducible assumption) | refine Ext.alloc ?_ _ _ | refine Ext.drew ?_ | refine Ext.drewN ?_ _))) b) (fun q => by rw [q]; exact (show Blk _ BX 24 121 _ from b7.ext (by (repeat (first | with_reducible exact Ext.refl _ | with_reducible assumption | refine Ext.trans ?_ (by with_reducible assumption) | refine Ext.alloc ?_ _ _ | refine Ext.drew ?_ | refine Ext.drewN ?_ _)))).lt)) (b4.ext (by (repeat (first | with_reducible exact Ext.refl _ | with_reducible assumption | refine Ext.trans ?_ (by with_reducible assumption) | refine Ext.alloc ?_ _ _ | refine Ext.drew ?_ | refine Ext.drewN ?_ _)))) hcb hbl (by decide)).mono ?_; rintro e wb ⟨rb, rfl, hrb, he⟩
        refine hK.out _ _ ?_ (fun hHeld => ?_)
        · first | exact HH.out.trans hmY | exact HH.out.trans he | exact HH.out
        clear hK K HH
        have HH : Hid (Ext W0 _) := hHeld
        clear hHeld
        refine wpAnyH_ready (rs := [10]) (by kernel_rfl) (by simp) ?_
        refine AllReadyH.cons rfl (fun K hK => ?_) AllReadyH.nil
        go_simp
        go_at_call 36; refine (yBytesOfX (O := Wd OO BX) (fun b hb => hb.elim (hOC4.ext (by (repeat (first | with_reducible exact Ext.refl _ | with_reducible assumption | refine Ext.trans ?_ (by with_reducible assumption) | refine Ext.alloc ?_ _ _ | refine Ext.drew ?_ | refine Ext.drewN ?_ _))) b) (fun q => by rw [q]; exact (show Blk _ BX 24 121 _ from b7.ext (by (repeat (first | with_reducible exact Ext.refl _ | with_reducible assumption | refine Ext.trans ?_ (by with_reducible assumption) | refine Ext.alloc ?_ _ _ | refine Ext.drew ?_ | refine Ext.drewN ?_ _)))).lt)) (hcc.ext (by (repeat (first | with_reducible exact Ext.refl _ | with_reducible assumption | refine Ext.trans ?_ (by with_reducible assumption) | refine Ext.alloc ?_ _ _ | refine Ext.drew ?_ | refine Ext.drewN ?_ _)))) (by omega)).mono ?_; rintro e wd ⟨rc, rfl, hrc, he⟩
        refine hK.out _ _ ?_ (fun hHeld => ?_)
        · first | exact HH.out.trans hmY | exact HH.out.trans he | exact HH.out
        clear hK K HH
        have HH : Hid (Ext W0 _) := hHeld
        clear hHeld
        refine wpAnyH_take (i := 11) rfl (by kernel_rfl) (by kernel_rfl) (by kernel_rfl) (fun _ _ _ h => h) (yields_build (ps := [(0, .agg (av x.addr)), (1, rn), (2, rb), (3, rc)]) (by rfl) rfl (b108 ha hrn.one hrb.one hrc.one) (by simp [Act.eval])) HH.out ?_
        change wpAnyH _ _ _ _ _ _ _ (Act.put _ (some 51) _) _
        simp only [Act.put, List.setIfInBounds_toArray, List.set_cons_zero, List.set_cons_succ]
        refine wpAnyH_ready (rs := [13]) (by kernel_rfl) (by simp) ?_
        refine AllReadyH.cons rfl (fun K hK => ?_) AllReadyH.nil
        refine step_any rfl (op_storeRow rfl rt108n rfl rfl (acR_size ha _ _ _ _) (acR_one hrn.one hrb.one hrc.one rfl) (b7.ext (by (repeat (first | with_reducible exact Ext.refl _ | with_reducible assumption | refine Ext.trans ?_ (by with_reducible assumption) | refine Ext.alloc ?_ _ _ | refine Ext.drew ?_ | refine Ext.drewN ?_ _)))) (by decide) ?_)
        rintro W8 b8 m8
        refine hK.out _ _ ?_ (fun hHeld => ?_)
        · exact Ext.trans_mod HH.out m8 (fun q hq => by have hq2 : q = BX := hq; rw [hq2]; exact Nat.le_trans (Ext.size (by (repeat (first | with_reducible exact Ext.refl _ | with_reducible assumption | refine Ext.trans ?_ (by with_reducible assumption) | refine Ext.alloc ?_ _ _ | refine Ext.drew ?_ | refine Ext.drewN ?_ _)))) g7)
        clear hK K HH
        have HH : Hid (Ext W0 _) := hHeld
        clear hHeld
        change wpAnyH _ _ _ _ _ _ _ (Act.put _ none _) _
        simp only [Act.put, List.setIfInBounds_toArray, List.set_cons_zero, List.set_cons_succ]
        refine wpAnyH_done (by kernel_rfl) ?_ _
        (have hX1 : NV (Wd OO BX) W8 rn x.nonce := (by first | exact (NV.ext (O := Wd OO BX) hrn (by (repeat (first | with_reducible exact Ext.refl _ | with_reducible assumption | refine Ext.trans ?_ (by with_reducible assumption) | refine Ext.alloc ?_ _ _ | refine Ext.drew ?_ | refine Ext.drewN ?_ _)))).keep m8 (fun b hb q => hb (Or.inr q)) | exact ((hrn.widen (Nat.le_trans (Ext.size (by (repeat (first | with_reducible exact Ext.refl _ | with_reducible assumption | refine Ext.trans ?_ (by with_reducible assumption) | refine Ext.alloc ?_ _ _ | refine Ext.drew ?_ | refine Ext.drewN ?_ _)))) g7)).ext (by (repeat (first | with_reducible exact Ext.refl _ | with_reducible assumption | refine Ext.trans ?_ (by with_reducible assumption) | refine Ext.alloc ?_ _ _ | refine Ext.drew ?_ | refine Ext.drewN ?_ _)))).keep m8 (fun b hb q => hb (Or.inr q))); have hX2 : NV (Wd OO BX) W8 rb x.bal := (by first | exact (NV.ext (O := Wd OO BX) hrb (by (repeat (first | with_reducible exact Ext.refl _ | with_reducible assumption | refine Ext.trans ?_ (by with_reducible assumption) | refine Ext.alloc ?_ _ _ | refine Ext.drew ?_ | refine Ext.drewN ?_ _)))).keep m8 (fun b hb q => hb (Or.inr q)) | exact ((hrb.widen (Nat.le_trans (Ext.size (by (repeat (first | with_reducible exact Ext.refl _ | with_reducible assumption | refine Ext.trans ?_ (by with_reducible assumption) | refine Ext.alloc ?_ _ _ | refine Ext.drew ?_ | refine Ext.drewN ?_ _)))) g7)).ext (by (repeat (first | with_reducible exact Ext.refl _ | with_reducible assumption | refine Ext.trans ?_ (by with_reducible assumption) | refine Ext.alloc ?_ _ _ | refine Ext.drew ?_ | refine Ext.drewN ?_ _)))).keep m8 (fun b hb q => hb (Or.inr q))); have hX3 : NL (Wd OO BX) W8 rc x.code := (by first | exact (NL.ext (O := Wd OO BX) hrc (by (repeat (first | with_reducible exact Ext.refl _ | with_reducible assumption | refine Ext.trans ?_ (by with_reducible assumption) | refine Ext.alloc ?_ _ _ | refine Ext.drew ?_ | refine Ext.drewN ?_ _)))).keep m8 (fun b hb q => hb (Or.inr q)) | exact ((hrc.widen (Nat.le_trans (Ext.size (by (repeat (first | with_reducible exact Ext.refl _ | with_reducible assumption | refine Ext.trans ?_ (by with_reducible assumption) | refine Ext.alloc ?_ _ _ | refine Ext.drew ?_ | refine Ext.drewN ?_ _)))) g7)).ext (by (repeat (first | with_reducible exact Ext.refl _ | with_reducible assumption | refine Ext.trans ?_ (by with_reducible assumption) | refine Ext.alloc ?_ _ _ | refine Ext.drew ?_ | refine Ext.drewN ?_ _)))).keep m8 (fun b hb q => hb (Or.inr q))); exact key BX W8 rn rb rc ⟨HH.out, Nat.le_trans (Ext.size (by (repeat (first | with_reducible exact Ext.refl _ | with_reducible assumption | refine Ext.trans ?_ (by with_reducible assumption) | refine Ext.alloc ?_ _ _ | refine Ext.drew ?_ | refine Ext.drewN ?_ _)))) g7, b8, hX1, hX2, hX3⟩)
        rintro BX W8 rn rb rc ⟨hE8, gX, bX, hrn, hrb, hrc⟩
        have eW8 : Ext W4 W8 := hW0.trans hE8
        have g4X : W4.heap.size ≤ BX := Nat.le_trans hW0.size gX
        replace bX := bX.same (c' := cf (acR x.addr rn rb rc (.slice none 0 0))) (fun j hj => acR_layn ha _ _ _ _ j hj)
        have b48 := b4.ext eW8
        obtain ⟨so, sc, hsv, hsc1, hsc2⟩ := hcs.slice
        have hE8w : Ext w W8 := hE4w.trans eW8
        have e48r : Ext wo W8 := hE4.trans eW8
        have hOCX : Small (Wd OO BX) W8 := fun b hb => hb.elim ((hOC4.ext eW8) b) (fun q => by rw [q]; exact bX.lt)
        have hXl : BX < W8.heap.size := bX.lt
        obtain ⟨OX, hOX⟩ : ∃ z, Hid (Wd OO BX = z) := ⟨_, rfl⟩
        have hOXX : OX BX := by rw [← hOX.out]; exact Or.inr rfl
        have hOXO : ∀ b, OO b → OX b := fun b hb => by rw [← hOX.out]; exact Or.inl hb
        rw [hOX.out] at hOCX hrn hrb hrc
        obtain ⟨sl, hsl9⟩ : ∃ z, Hid (x.slots = z) := ⟨_, rfl⟩
        rw [hsl9.out] at hcs hsv hsc1 hxs2
        rw [hsv] at hcs
        have h84 : c8 54 = .slice so sl.length sc := hsv
        have hB8l : B8 < W8.heap.size := b48.lt
        clear hE8 gX hW0 hOC4 b4 hca hcb hcc hcn hsv
        go_upto_block 2 with ((with_reducible (refine Veil.out ?_; apply wl_loadC onet112n)); (case hw => rfl); (case hx => rfl); (case hc => exact (b48.cell (i := 54) (by decide)).trans (congrArg some h84)))
        try simp only [Act.put]
        go_upto_region 11 with (fail)
        try simp only [Act.put]
        go_loopw [55] (fun iv wr => ∃ (j : Nat) (v' : Value), iv = .int .i64 (j : Nat) ∧ j ≤ sl.length ∧ Blk wr BX 24 121 (cf (acR x.addr rn rb rc v')) ∧ GRow 125 2 (SlC (OC OX v') wr) (fun b => W8.heap.size ≤ b) wr v' (sl.take j) ∧ Mod (· = BX) W8 wr) (fun iv _ => sl.length - (intOf iv).toNat)
        case atStart => exact ⟨0, .slice none 0 0, rfl, Nat.zero_le _, bX, Or.inl ⟨rfl, rfl⟩, Mod.refl _ _⟩
        case round =>
          obtain ⟨j, vj, rfl, hj, bXj, hGj, hmj⟩ := hrel
          rcases Nat.lt_or_ge j sl.length with hjlt | hjge
          · have zj : (j : Int) < sl.length := by omega
            rcases hcs with ⟨q, _⟩ | ⟨sb, soff, scap, ss, q1, q2, q3, q4, q5, q6, q7⟩
            · rw [q] at hjlt; exact absurd hjlt (Nat.not_lt_zero _)
            injection q1 with q1a q1b q1c
            clear q1b
            subst q1a
            subst q1c
            have hsj := q7 j hjlt
            obtain ⟨sx, hsx⟩ : ∃ z, Hid (sl[j] = z) := ⟨sl[j], rfl⟩
            have htks : sl.take (j + 1) = sl.take j ++ [sl[j]] := List.take_succ_eq_append_getElem hjlt
            rw [hsx.out] at hsj htks
            replace htks := (show Hid _ from htks)
            have eE : Ext W4 wr := Ext.trans_mod eW8 hmj (fun q hq => by have hq2 : q = BX := hq; rw [hq2]; exact g4X)
            have hRs : RowIn wr sb (soff + j * 64) (rowOf ss (j * 64) 64) := el_row (w := wr) (l := sl) (fun k hk => (eE.cell (p := ⟨sb, soff + k, none⟩) q5).trans (q6 k hk)) hjlt
            obtain ⟨rS, hrS⟩ : ∃ z, Hid (rowOf ss (j * 64) 64 = z) := ⟨_, rfl⟩
            have hrs : rS.size = 64 := by rw [← hrS.out]; exact rowOf_size _ _ _
            have hSc : ISlC (cf rS) 0 sx := hsj.cellsn (fun k hk => by rw [← hrS.out, Nat.zero_add, cf_rowOf _ _ _ hk])
            have hoS : Ones rS := isl_ones hrs hSc
            rw [hrS.out] at hRs
            have hk1 := hSc.kLt
            have hk2 := hSc.vLt
            obtain ⟨j2, hj2⟩ : ∃ z : Nat, Hid ((j + 1 : Nat) = z) := ⟨_, rfl⟩
            have jj1 : IntKind.i64.wrap ((j : Int) + 1) = (j2 : Int) := by rw [IntKind.wrap_i64, ← hj2.out]; omega
            have hOj : Small (OC OX vj) wr := OC.smalln (hOCX.mod hmj) hGj
            go_upto_region 13 with (first | ((with_reducible (refine Veil.out ?_; apply wl_loadR rt118x)); (case hn => exact hrs); (case hx => rfl); (case hr => exact hRs)) | ((with_reducible (refine Veil.out ?_; apply wl_allocB z118xq)); (case hn => rfl); rintro BS WS eS bS gS) | ((with_reducible (refine Veil.out ?_; apply wl_storeRow rt118x)); (case hx => rfl); (case hy => rfl); (case hr => exact hrs); (case h1 => exact hoS); (case hB => exact bS); (case hi => decide); rintro W5 b5 m5))
            have hE5' : Ext wr W5 := Ext.trans_mod eS m5 (fun q hq => by have hq2 : q = BS := hq; rw [hq2]; exact gS)
            replace b5 := b5.same (c' := cf rS) (fun k hk => by
              have := layv_in (cf z118x) 0 rS (j := k) (by rw [hrs]; exact hk)
              rw [Nat.zero_add] at this
              exact this.symm)
            obtain ⟨cS, hcS⟩ : ∃ z, Hid (cf rS = z) := ⟨_, rfl⟩
            rw [hcS.out] at b5 hSc
            have hB1 : BAt cS 0 sx.1 := hSc.key
            have hB2 : BAt cS 32 sx.2 := by have := hSc.val; rwa [Nat.zero_add] at this
            have bX5 := bXj.ext hE5'
            have m5' := hmj.trans_ext hE5'
            have hG5' : GRow 125 2 (SlC (OC OX vj) W5) (fun b => W8.heap.size ≤ b) W5 vj (sl.take j) := hGj.ext hE5' (fun _ _ _ k => k.ext hE5')
            have hO5 := hOj.ext hE5'
            have hTN : ∀ W', Ext W5 W' → ∀ b, W'.heap.size ≤ b → W8.heap.size ≤ b := fun W' hW b hb => Nat.le_trans (Nat.le_trans m5'.size hW.size) hb
            have hlen : (sl.take j).length ≤ 1048576 := by rw [List.length_take]; omega
            have k23 : cf (acR x.addr rn rb rc vj) 23 = vj := (acR_cfn ha _ _ _ _).2.2.2.2
            have K23 : ∀ W', Ext W5 W' → W'.cell? ⟨BX, 23, none⟩ = some vj := fun W' hW => by rw [(bX5.ext hW).cell (by decide), k23]
            obtain ⟨LS, hLS⟩ : ∃ z, Hid (sl.take j = z) := ⟨_, rfl⟩
            rw [hLS.out] at hG5' hlen
            obtain ⟨cX, hcX⟩ : ∃ z, Hid (cf (acR x.addr rn rb rc vj) = z) := ⟨_, rfl⟩
            rw [hcX.out] at bX5
            clear bS eS m5 hcS hSc hsj hRs hoS hrS bXj hGj hE5' hmj k23 hOj eE hrs
            refine w_ext ?_
            rintro W0 hW0
            refine' joinN5 (P := _) (Fc := fun W11 v9 B9 rk rv => Blk W11 BX 24 121 (updv cX 23 v9) ∧ GRow 125 2 (SlC (OC OX v9) W11) (fun b => W8.heap.size ≤ b) W11 v9 (LS ++ [sx]) ∧ Mod (· = BX) W8 W11) (fun key => _) _
            rotate_left
            refine wp_region_held_drew (S := fun w' => Mod (fun b => b = BX ∨ W8.heap.size ≤ b) W0 w') (by kernel_rfl) (Mod.refl _ _).drew (fun hHeld => ?_)
            have HH : Hid (Mod (fun b => b = BX ∨ W8.heap.size ≤ b) W0 _) := hHeld
            clear hHeld
            refine wpAnyH_take (i := 0) (v := ?_) rfl (by kernel_rfl) (by kernel_rfl) (by kernel_rfl) (fun _ _ _ h => h) (Or.inl ⟨by rfl, ?_⟩) HH.out ?_
            rotate_left
            · intro w hSw; go_simp; try with_reducible rfl
            change wpAnyH _ _ _ _ _ _ _ (Act.put _ (some 59) _) _
            simp only [Act.put, List.setIfInBounds_toArray, List.set_cons_zero, List.set_cons_succ]
            refine wpAnyH_take (i := 2) (v := ?_) rfl (by kernel_rfl) (by kernel_rfl) (by kernel_rfl) (fun _ _ _ h => h) (Or.inl ⟨by rfl, ?_⟩) HH.out ?_
            rotate_left
            · intro w hSw; go_simp; try with_reducible rfl
            change wpAnyH _ _ _ _ _ _ _ (Act.put _ (some 61) _) _
            simp only [Act.put, List.setIfInBounds_toArray, List.set_cons_zero, List.set_cons_succ]
            refine wpAnyH_take (i := 3) (v := ?_) rfl (by kernel_rfl) (by kernel_rfl) (by kernel_rfl) (fun _ _ _ h => h) (Or.inl ⟨by rfl, ?_⟩) HH.out ?_
            rotate_left
            · intro w hSw; go_simp; try with_reducible rfl
            change wpAnyH _ _ _ _ _ _ _ (Act.put _ (some 62) _) _
            simp only [Act.put, List.setIfInBounds_toArray, List.set_cons_zero, List.set_cons_succ]
            refine wpAnyH_take (i := 5) (v := ?_) rfl (by kernel_rfl) (by kernel_rfl) (by kernel_rfl) (fun _ _ _ h => h) (Or.inl ⟨by rfl, ?_⟩) HH.out ?_
            rotate_left
            · intro w hSw; go_simp; try with_reducible rfl
            change wpAnyH _ _ _ _ _ _ _ (Act.put _ (some 64) _) _
            simp only [Act.put, List.setIfInBounds_toArray, List.set_cons_zero, List.set_cons_succ]
            refine wpAnyH_take (i := 6) (v := ?_) rfl (by kernel_rfl) (by kernel_rfl) (by kernel_rfl) (fun _ _ _ h => h) (Or.inl ⟨by rfl, ?_⟩) HH.out ?_
            rotate_left
            · intro w hSw; go_simp; try with_reducible rfl
            change wpAnyH _ _ _ _ _ _ _ (Act.put _ (some 65) _) _
            simp only [Act.put, List.setIfInBounds_toArray, List.set_cons_zero, List.set_cons_succ]
            refine wpAnyH_ready (rs := [1, 4]) (by kernel_rfl) (by simp) ?_
            refine (AllReadyH.cons rfl (fun K hK => ?_) (AllReadyH.cons rfl (fun K hK => ?_) AllReadyH.nil))
            refine step_any rfl (op_loadK rfl onet106n rfl (K23 _ (by (repeat (first | with_reducible exact Ext.refl _ | with_reducible assumption | refine Ext.trans ?_ (by with_reducible assumption) | refine Ext.alloc ?_ _ _ | refine Ext.drew ?_ | refine Ext.drewN ?_ _)))) ?_)
            refine hK.out _ _ HH.out (fun hHeld => ?_)
            clear hK K HH
            have HH : Hid (Mod (fun b => b = BX ∨ W8.heap.size ≤ b) W0 _) := hHeld
            clear hHeld
            change wpAnyH _ _ _ _ _ _ _ (Act.put _ (some 60) _) _
            simp only [Act.put, List.setIfInBounds_toArray, List.set_cons_zero, List.set_cons_succ]
            refine wpAnyH_ready (rs := [4]) (by kernel_rfl) (by simp) ?_
            refine AllReadyH.cons rfl (fun K hK => ?_) AllReadyH.nil
            go_simp
            go_at_call 43; refine (nFromB (O := OC OX vj) (hO5.ext (by (repeat (first | with_reducible exact Ext.refl _ | with_reducible assumption | refine Ext.trans ?_ (by with_reducible assumption) | refine Ext.alloc ?_ _ _ | refine Ext.drew ?_ | refine Ext.drewN ?_ _)))) (b5.ext (by (repeat (first | with_reducible exact Ext.refl _ | with_reducible assumption | refine Ext.trans ?_ (by with_reducible assumption) | refine Ext.alloc ?_ _ _ | refine Ext.drew ?_ | refine Ext.drewN ?_ _)))) hB1 hk1 (by decide)).mono ?_; rintro e wa ⟨rk, rfl, hrk, he⟩
            refine hK.out _ _ ?_ (fun hHeld => ?_)
            · first | exact HH.out.trans hmY | exact HH.out.trans_ext he | exact HH.out
            clear hK K HH
            have HH : Hid (Mod (fun b => b = BX ∨ W8.heap.size ≤ b) W0 _) := hHeld
            clear hHeld
            refine wpAnyH_ready (rs := [7]) (by kernel_rfl) (by simp) ?_
            refine AllReadyH.cons rfl (fun K hK => ?_) AllReadyH.nil
            go_simp
            go_at_call 43; refine (nFromB (O := OC OX vj) (hO5.ext (by (repeat (first | with_reducible exact Ext.refl _ | with_reducible assumption | refine Ext.trans ?_ (by with_reducible assumption) | refine Ext.alloc ?_ _ _ | refine Ext.drew ?_ | refine Ext.drewN ?_ _)))) (b5.ext (by (repeat (first | with_reducible exact Ext.refl _ | with_reducible assumption | refine Ext.trans ?_ (by with_reducible assumption) | refine Ext.alloc ?_ _ _ | refine Ext.drew ?_ | refine Ext.drewN ?_ _)))) hB2 hk2 (by decide)).mono ?_; rintro e wb ⟨rv, rfl, hrv, he⟩
            refine hK.out _ _ ?_ (fun hHeld => ?_)
            · first | exact HH.out.trans hmY | exact HH.out.trans_ext he | exact HH.out
            clear hK K HH
            have HH : Hid (Mod (fun b => b = BX ∨ W8.heap.size ≤ b) W0 _) := hHeld
            clear hHeld
            refine wpAnyH_take (i := 8) rfl (by kernel_rfl) (by kernel_rfl) (by kernel_rfl) (fun _ _ _ h => h) (yields_build (ps := [(0, rk), (1, rv)]) (by rfl) rfl (b116 hrk.one hrv.one) (by simp [Act.eval])) HH.out ?_
            change wpAnyH _ _ _ _ _ _ _ (Act.put _ (some 67) _) _
            simp only [Act.put, List.setIfInBounds_toArray, List.set_cons_zero, List.set_cons_succ]
            refine wpAnyH_ready (rs := [9]) (by kernel_rfl) (by simp) ?_
            refine AllReadyH.cons rfl (fun K hK => ?_) AllReadyH.nil
            have ork := hrk.one
            have orv := hrv.one
            refine step_any rfl (op_build1 125 Hvah.t125 _ 2 rfl under106n info116n zero116v size116n rfl (by decide) (by decide) #[rk, rv] rfl rfl ?_)
            rintro B9 WB e9 r9 g9
            refine hK.out _ _ (HH.out.trans_ext e9) (fun hHeld => ?_)
            clear hK K HH
            have HH : Hid (Mod (fun b => b = BX ∨ W8.heap.size ≤ b) W0 _) := hHeld
            clear hHeld
            change wpAnyH _ _ _ _ _ _ _ (Act.put _ (some 68) _) _
            simp only [Act.put, List.setIfInBounds_toArray, List.set_cons_zero, List.set_cons_succ]
            refine wpAnyH_ready (rs := [10]) (by kernel_rfl) (by simp) ?_
            refine AllReadyH.cons rfl (fun K hK => ?_) AllReadyH.nil
            have hrkB : NV (OC OX vj) WB rk sx.1 := hrk.ext (by (repeat (first | with_reducible exact Ext.refl _ | with_reducible assumption | refine Ext.trans ?_ (by with_reducible assumption) | refine Ext.alloc ?_ _ _ | refine Ext.drew ?_ | refine Ext.drewN ?_ _)))
            have hrvB : NV (OC OX vj) WB rv sx.2 := hrv.ext (by (repeat (first | with_reducible exact Ext.refl _ | with_reducible assumption | refine Ext.trans ?_ (by with_reducible assumption) | refine Ext.alloc ?_ _ _ | refine Ext.drew ?_ | refine Ext.drewN ?_ _)))
            have eX : Ext W5 WB := by (repeat (first | with_reducible exact Ext.refl _ | with_reducible assumption | refine Ext.trans ?_ (by with_reducible assumption) | refine Ext.alloc ?_ _ _ | refine Ext.drew ?_ | refine Ext.drewN ?_ _))
            refine step_any rfl (op_pushN _ _ 119 rfl sl106 (R := SlC) OX vj LS (fun b => W8.heap.size ≤ b) (hTN _ eX) (hG5'.ext eX (fun _ _ _ k => k.ext eX)) hlen ⟨B9, 0, none⟩ #[rk, rv] rfl r9 (fun u hu => by simp at hu; rcases hu with rfl | rfl <;> assumption) rfl rfl sx (fun c o hc => ⟨by rw [show c o = rk from hc 0 rk rfl]; exact hrkB, by rw [show c (o + 1) = rv from hc 1 rv rfl]; exact hrvB⟩) (fun _ _ _ _ _ _ hc k => k.cellsn hc) (fun _ _ _ _ _ _ _ m hs k => k.keepn m hs) (fun _ _ _ _ _ _ hr k => k.reon hr) ?_)
            rintro v9 W10 hG10 m10 _
            refine hK.out _ _ (HH.out.trans (m10.sub (fun b hb => Or.inr hb))) (fun hHeld => ?_)
            clear hK K HH
            have HH : Hid (Mod (fun b => b = BX ∨ W8.heap.size ≤ b) W0 _) := hHeld
            clear hHeld
            change wpAnyH _ _ _ _ _ _ _ (Act.put _ (some 69) _) _
            simp only [Act.put, List.setIfInBounds_toArray, List.set_cons_zero, List.set_cons_succ]
            refine wpAnyH_take (i := 11) (v := ?_) rfl (by kernel_rfl) (by kernel_rfl) (by kernel_rfl) (fun _ _ _ h => h) (Or.inl ⟨by rfl, ?_⟩) HH.out ?_
            rotate_left
            · intro w hSw; go_simp; try with_reducible rfl
            change wpAnyH _ _ _ _ _ _ _ (Act.put _ (some 70) _) _
            simp only [Act.put, List.setIfInBounds_toArray, List.set_cons_zero, List.set_cons_succ]
            refine wpAnyH_ready (rs := [12]) (by kernel_rfl) (by simp) ?_
            refine AllReadyH.cons rfl (fun K hK => ?_) AllReadyH.nil
            have bX10 := (bX5.ext eX).mod m10 (fun q => by omega)
            refine step_any rfl (op_store1 rfl onet106n rfl rfl (grow_onen hG10) bX10 (by decide) ?_)
            rintro W11 b9 m11
            have hG9 : GRow 125 2 (SlC (OC OX v9) W11) (fun b => W8.heap.size ≤ b) W11 v9 (LS ++ [sx]) := hG10.mono (fun _ _ _ k => k.keepn m11 (fun b hb q => hb (Or.inl (by have q2 : b = BX := q; rw [q2]; exact hOXX)))) (fun b _ q => q) (fun b n t c k q => k.mod m11 (fun e => by have e2 : b = BX := e; omega))
            have m9' : Mod (· = BX) W8 W11 := ((m5'.trans_ext eX).trans' m10 (fun b q => Or.inr q)).trans m11
            refine hK.out _ _ (HH.out.trans (m11.sub (fun b hb => Or.inl hb))) (fun hHeld => ?_)
            clear hK K HH
            have HH : Hid (Mod (fun b => b = BX ∨ W8.heap.size ≤ b) W0 _) := hHeld
            clear hHeld
            change wpAnyH _ _ _ _ _ _ _ (Act.put _ none _) _
            simp only [Act.put, List.setIfInBounds_toArray, List.set_cons_zero, List.set_cons_succ]
            refine wpAnyH_done (by kernel_rfl) ?_ _
            exact key W11 v9 B9 rk rv ⟨b9, hG9, m9'⟩
            go_simp
            go_at_call 43; refine (nFromB (O := OC OX vj) (hO5.ext (by (repeat (first | with_reducible exact Ext.refl _ | with_reducible assumption | refine Ext.trans ?_ (by with_reducible assumption) | refine Ext.alloc ?_ _ _ | refine Ext.drew ?_ | refine Ext.drewN ?_ _)))) (b5.ext (by (repeat (first | with_reducible exact Ext.refl _ | with_reducible assumption | refine Ext.trans ?_ (by with_reducible assumption) | refine Ext.alloc ?_ _ _ | refine Ext.drew ?_ | refine Ext.drewN ?_ _)))) hB1 hk1 (by decide)).mono ?_; rintro e wa ⟨rk, rfl, hrk, he⟩
            refine hK.out _ _ ?_ (fun hHeld => ?_)
            · first | exact HH.out.trans hmY | exact HH.out.trans_ext he | exact HH.out
            clear hK K HH
            have HH : Hid (Mod (fun b => b = BX ∨ W8.heap.size ≤ b) W0 _) := hHeld
            clear hHeld
            refine wpAnyH_ready (rs := [1, 7]) (by kernel_rfl) (by simp) ?_
            refine (AllReadyH.cons rfl (fun K hK => ?_) (AllReadyH.cons rfl (fun K hK => ?_) AllReadyH.nil))
            refine step_any rfl (op_loadK rfl onet106n rfl (K23 _ (by (repeat (first | with_reducible exact Ext.refl _ | with_reducible assumption | refine Ext.trans ?_ (by with_reducible assumption) | refine Ext.alloc ?_ _ _ | refine Ext.drew ?_ | refine Ext.drewN ?_ _)))) ?_)
            refine hK.out _ _ HH.out (fun hHeld => ?_)
            clear hK K HH
            have HH : Hid (Mod (fun b => b = BX ∨ W8.heap.size ≤ b) W0 _) := hHeld
            clear hHeld
            change wpAnyH _ _ _ _ _ _ _ (Act.put _ (some 60) _) _
            simp only [Act.put, List.setIfInBounds_toArray, List.set_cons_zero, List.set_cons_succ]
            refine wpAnyH_ready (rs := [7]) (by kernel_rfl) (by simp) ?_
            refine AllReadyH.cons rfl (fun K hK => ?_) AllReadyH.nil
            go_simp
            go_at_call 43; refine (nFromB (O := OC OX vj) (hO5.ext (by (repeat (first | with_reducible exact Ext.refl _ | with_reducible assumption | refine Ext.trans ?_ (by with_reducible assumption) | refine Ext.alloc ?_ _ _ | refine Ext.drew ?_ | refine Ext.drewN ?_ _)))) (b5.ext (by (repeat (first | with_reducible exact Ext.refl _ | with_reducible assumption | refine Ext.trans ?_ (by with_reducible assumption) | refine Ext.alloc ?_ _ _ | refine Ext.drew ?_ | refine Ext.drewN ?_ _)))) hB2 hk2 (by decide)).mono ?_; rintro e wb ⟨rv, rfl, hrv, he⟩
            refine hK.out _ _ ?_ (fun hHeld => ?_)
            · first | exact HH.out.trans hmY | exact HH.out.trans_ext he | exact HH.out
            clear hK K HH
            have HH : Hid (Mod (fun b => b = BX ∨ W8.heap.size ≤ b) W0 _) := hHeld
            clear hHeld
            refine wpAnyH_take (i := 8) rfl (by kernel_rfl) (by kernel_rfl) (by kernel_rfl) (fun _ _ _ h => h) (yields_build (ps := [(0, rk), (1, rv)]) (by rfl) rfl (b116 hrk.one hrv.one) (by simp [Act.eval])) HH.out ?_
            change wpAnyH _ _ _ _ _ _ _ (Act.put _ (some 67) _) _
            simp only [Act.put, List.setIfInBounds_toArray, List.set_cons_zero, List.set_cons_succ]
            refine wpAnyH_ready (rs := [9]) (by kernel_rfl) (by simp) ?_
            refine AllReadyH.cons rfl (fun K hK => ?_) AllReadyH.nil
            have ork := hrk.one
            have orv := hrv.one
            refine step_any rfl (op_build1 125 Hvah.t125 _ 2 rfl under106n info116n zero116v size116n rfl (by decide) (by decide) #[rk, rv] rfl rfl ?_)
            rintro B9 WB e9 r9 g9
            refine hK.out _ _ (HH.out.trans_ext e9) (fun hHeld => ?_)
            clear hK K HH
            have HH : Hid (Mod (fun b => b = BX ∨ W8.heap.size ≤ b) W0 _) := hHeld
            clear hHeld
            change wpAnyH _ _ _ _ _ _ _ (Act.put _ (some 68) _) _
            simp only [Act.put, List.setIfInBounds_toArray, List.set_cons_zero, List.set_cons_succ]
            refine wpAnyH_ready (rs := [10]) (by kernel_rfl) (by simp) ?_
            refine AllReadyH.cons rfl (fun K hK => ?_) AllReadyH.nil
            have hrkB : NV (OC OX vj) WB rk sx.1 := hrk.ext (by (repeat (first | with_reducible exact Ext.refl _ | with_reducible assumption | refine Ext.trans ?_ (by with_reducible assumption) | refine Ext.alloc ?_ _ _ | refine Ext.drew ?_ | refine Ext.drewN ?_ _)))
            have hrvB : NV (OC OX vj) WB rv sx.2 := hrv.ext (by (repeat (first | with_reducible exact Ext.refl _ | with_reducible assumption | refine Ext.trans ?_ (by with_reducible assumption) | refine Ext.alloc ?_ _ _ | refine Ext.drew ?_ | refine Ext.drewN ?_ _)))
            have eX : Ext W5 WB := by (repeat (first | with_reducible exact Ext.refl _ | with_reducible assumption | refine Ext.trans ?_ (by with_reducible assumption) | refine Ext.alloc ?_ _ _ | refine Ext.drew ?_ | refine Ext.drewN ?_ _))
            refine step_any rfl (op_pushN _ _ 119 rfl sl106 (R := SlC) OX vj LS (fun b => W8.heap.size ≤ b) (hTN _ eX) (hG5'.ext eX (fun _ _ _ k => k.ext eX)) hlen ⟨B9, 0, none⟩ #[rk, rv] rfl r9 (fun u hu => by simp at hu; rcases hu with rfl | rfl <;> assumption) rfl rfl sx (fun c o hc => ⟨by rw [show c o = rk from hc 0 rk rfl]; exact hrkB, by rw [show c (o + 1) = rv from hc 1 rv rfl]; exact hrvB⟩) (fun _ _ _ _ _ _ hc k => k.cellsn hc) (fun _ _ _ _ _ _ _ m hs k => k.keepn m hs) (fun _ _ _ _ _ _ hr k => k.reon hr) ?_)
            rintro v9 W10 hG10 m10 _
            refine hK.out _ _ (HH.out.trans (m10.sub (fun b hb => Or.inr hb))) (fun hHeld => ?_)
            clear hK K HH
            have HH : Hid (Mod (fun b => b = BX ∨ W8.heap.size ≤ b) W0 _) := hHeld
            clear hHeld
            change wpAnyH _ _ _ _ _ _ _ (Act.put _ (some 69) _) _
            simp only [Act.put, List.setIfInBounds_toArray, List.set_cons_zero, List.set_cons_succ]
            refine wpAnyH_take (i := 11) (v := ?_) rfl (by kernel_rfl) (by kernel_rfl) (by kernel_rfl) (fun _ _ _ h => h) (Or.inl ⟨by rfl, ?_⟩) HH.out ?_
            rotate_left
            · intro w hSw; go_simp; try with_reducible rfl
            change wpAnyH _ _ _ _ _ _ _ (Act.put _ (some 70) _) _
            simp only [Act.put, List.setIfInBounds_toArray, List.set_cons_zero, List.set_cons_succ]
            refine wpAnyH_ready (rs := [12]) (by kernel_rfl) (by simp) ?_
            refine AllReadyH.cons rfl (fun K hK => ?_) AllReadyH.nil
            have bX10 := (bX5.ext eX).mod m10 (fun q => by omega)
            refine step_any rfl (op_store1 rfl onet106n rfl rfl (grow_onen hG10) bX10 (by decide) ?_)
            rintro W11 b9 m11
            have hG9 : GRow 125 2 (SlC (OC OX v9) W11) (fun b => W8.heap.size ≤ b) W11 v9 (LS ++ [sx]) := hG10.mono (fun _ _ _ k => k.keepn m11 (fun b hb q => hb (Or.inl (by have q2 : b = BX := q; rw [q2]; exact hOXX)))) (fun b _ q => q) (fun b n t c k q => k.mod m11 (fun e => by have e2 : b = BX := e; omega))
            have m9' : Mod (· = BX) W8 W11 := ((m5'.trans_ext eX).trans' m10 (fun b q => Or.inr q)).trans m11
            refine hK.out _ _ (HH.out.trans (m11.sub (fun b hb => Or.inl hb))) (fun hHeld => ?_)
            clear hK K HH
            have HH : Hid (Mod (fun b => b = BX ∨ W8.heap.size ≤ b) W0 _) := hHeld
            clear hHeld
            change wpAnyH _ _ _ _ _ _ _ (Act.put _ none _) _
            simp only [Act.put, List.setIfInBounds_toArray, List.set_cons_zero, List.set_cons_succ]
            refine wpAnyH_done (by kernel_rfl) ?_ _
            exact key W11 v9 B9 rk rv ⟨b9, hG9, m9'⟩
            go_simp
            go_at_call 43; refine (nFromB (O := OC OX vj) (hO5.ext (by (repeat (first | with_reducible exact Ext.refl _ | with_reducible assumption | refine Ext.trans ?_ (by with_reducible assumption) | refine Ext.alloc ?_ _ _ | refine Ext.drew ?_ | refine Ext.drewN ?_ _)))) (b5.ext (by (repeat (first | with_reducible exact Ext.refl _ | with_reducible assumption | refine Ext.trans ?_ (by with_reducible assumption) | refine Ext.alloc ?_ _ _ | refine Ext.drew ?_ | refine Ext.drewN ?_ _)))) hB2 hk2 (by decide)).mono ?_; rintro e wb ⟨rv, rfl, hrv, he⟩
            refine hK.out _ _ ?_ (fun hHeld => ?_)
            · first | exact HH.out.trans hmY | exact HH.out.trans_ext he | exact HH.out
            clear hK K HH
            have HH : Hid (Mod (fun b => b = BX ∨ W8.heap.size ≤ b) W0 _) := hHeld
            clear hHeld
            refine wpAnyH_take (i := 8) rfl (by kernel_rfl) (by kernel_rfl) (by kernel_rfl) (fun _ _ _ h => h) (yields_build (ps := [(0, rk), (1, rv)]) (by rfl) rfl (b116 hrk.one hrv.one) (by simp [Act.eval])) HH.out ?_
            change wpAnyH _ _ _ _ _ _ _ (Act.put _ (some 67) _) _
            simp only [Act.put, List.setIfInBounds_toArray, List.set_cons_zero, List.set_cons_succ]
            refine wpAnyH_ready (rs := [1, 9]) (by kernel_rfl) (by simp) ?_
            refine (AllReadyH.cons rfl (fun K hK => ?_) (AllReadyH.cons rfl (fun K hK => ?_) AllReadyH.nil))
            refine step_any rfl (op_loadK rfl onet106n rfl (K23 _ (by (repeat (first | with_reducible exact Ext.refl _ | with_reducible assumption | refine Ext.trans ?_ (by with_reducible assumption) | refine Ext.alloc ?_ _ _ | refine Ext.drew ?_ | refine Ext.drewN ?_ _)))) ?_)
            refine hK.out _ _ HH.out (fun hHeld => ?_)
            clear hK K HH
            have HH : Hid (Mod (fun b => b = BX ∨ W8.heap.size ≤ b) W0 _) := hHeld
            clear hHeld
            change wpAnyH _ _ _ _ _ _ _ (Act.put _ (some 60) _) _
            simp only [Act.put, List.setIfInBounds_toArray, List.set_cons_zero, List.set_cons_succ]
            refine wpAnyH_ready (rs := [9]) (by kernel_rfl) (by simp) ?_
            refine AllReadyH.cons rfl (fun K hK => ?_) AllReadyH.nil
            have ork := hrk.one
            have orv := hrv.one
            refine step_any rfl (op_build1 125 Hvah.t125 _ 2 rfl under106n info116n zero116v size116n rfl (by decide) (by decide) #[rk, rv] rfl rfl ?_)
            rintro B9 WB e9 r9 g9
            refine hK.out _ _ (HH.out.trans_ext e9) (fun hHeld => ?_)
            clear hK K HH
            have HH : Hid (Mod (fun b => b = BX ∨ W8.heap.size ≤ b) W0 _) := hHeld
            clear hHeld
            change wpAnyH _ _ _ _ _ _ _ (Act.put _ (some 68) _) _
            simp only [Act.put, List.setIfInBounds_toArray, List.set_cons_zero, List.set_cons_succ]
            refine wpAnyH_ready (rs := [10]) (by kernel_rfl) (by simp) ?_
            refine AllReadyH.cons rfl (fun K hK => ?_) AllReadyH.nil
            have hrkB : NV (OC OX vj) WB rk sx.1 := hrk.ext (by (repeat (first | with_reducible exact Ext.refl _ | with_reducible assumption | refine Ext.trans ?_ (by with_reducible assumption) | refine Ext.alloc ?_ _ _ | refine Ext.drew ?_ | refine Ext.drewN ?_ _)))
            have hrvB : NV (OC OX vj) WB rv sx.2 := hrv.ext (by (repeat (first | with_reducible exact Ext.refl _ | with_reducible assumption | refine Ext.trans ?_ (by with_reducible assumption) | refine Ext.alloc ?_ _ _ | refine Ext.drew ?_ | refine Ext.drewN ?_ _)))
            have eX : Ext W5 WB := by (repeat (first | with_reducible exact Ext.refl _ | with_reducible assumption | refine Ext.trans ?_ (by with_reducible assumption) | refine Ext.alloc ?_ _ _ | refine Ext.drew ?_ | refine Ext.drewN ?_ _))
            refine step_any rfl (op_pushN _ _ 119 rfl sl106 (R := SlC) OX vj LS (fun b => W8.heap.size ≤ b) (hTN _ eX) (hG5'.ext eX (fun _ _ _ k => k.ext eX)) hlen ⟨B9, 0, none⟩ #[rk, rv] rfl r9 (fun u hu => by simp at hu; rcases hu with rfl | rfl <;> assumption) rfl rfl sx (fun c o hc => ⟨by rw [show c o = rk from hc 0 rk rfl]; exact hrkB, by rw [show c (o + 1) = rv from hc 1 rv rfl]; exact hrvB⟩) (fun _ _ _ _ _ _ hc k => k.cellsn hc) (fun _ _ _ _ _ _ _ m hs k => k.keepn m hs) (fun _ _ _ _ _ _ hr k => k.reon hr) ?_)
            rintro v9 W10 hG10 m10 _
            refine hK.out _ _ (HH.out.trans (m10.sub (fun b hb => Or.inr hb))) (fun hHeld => ?_)
            clear hK K HH
            have HH : Hid (Mod (fun b => b = BX ∨ W8.heap.size ≤ b) W0 _) := hHeld
            clear hHeld
            change wpAnyH _ _ _ _ _ _ _ (Act.put _ (some 69) _) _
            simp only [Act.put, List.setIfInBounds_toArray, List.set_cons_zero, List.set_cons_succ]
            refine wpAnyH_take (i := 11) (v := ?_) rfl (by kernel_rfl) (by kernel_rfl) (by kernel_rfl) (fun _ _ _ h => h) (Or.inl ⟨by rfl, ?_⟩) HH.out ?_
            rotate_left
            · intro w hSw; go_simp; try with_reducible rfl
            change wpAnyH _ _ _ _ _ _ _ (Act.put _ (some 70) _) _
            simp only [Act.put, List.setIfInBounds_toArray, List.set_cons_zero, List.set_cons_succ]
            refine wpAnyH_ready (rs := [12]) (by kernel_rfl) (by simp) ?_
            refine AllReadyH.cons rfl (fun K hK => ?_) AllReadyH.nil
            have bX10 := (bX5.ext eX).mod m10 (fun q => by omega)
            refine step_any rfl (op_store1 rfl onet106n rfl rfl (grow_onen hG10) bX10 (by decide) ?_)
            rintro W11 b9 m11
            have hG9 : GRow 125 2 (SlC (OC OX v9) W11) (fun b => W8.heap.size ≤ b) W11 v9 (LS ++ [sx]) := hG10.mono (fun _ _ _ k => k.keepn m11 (fun b hb q => hb (Or.inl (by have q2 : b = BX := q; rw [q2]; exact hOXX)))) (fun b _ q => q) (fun b n t c k q => k.mod m11 (fun e => by have e2 : b = BX := e; omega))
            have m9' : Mod (· = BX) W8 W11 := ((m5'.trans_ext eX).trans' m10 (fun b q => Or.inr q)).trans m11
            refine hK.out _ _ (HH.out.trans (m11.sub (fun b hb => Or.inl hb))) (fun hHeld => ?_)
            clear hK K HH
            have HH : Hid (Mod (fun b => b = BX ∨ W8.heap.size ≤ b) W0 _) := hHeld
            clear hHeld
            change wpAnyH _ _ _ _ _ _ _ (Act.put _ none _) _
            simp only [Act.put, List.setIfInBounds_toArray, List.set_cons_zero, List.set_cons_succ]
            refine wpAnyH_done (by kernel_rfl) ?_ _
            exact key W11 v9 B9 rk rv ⟨b9, hG9, m9'⟩
            have ork := hrk.one
            have orv := hrv.one
            refine step_any rfl (op_build1 125 Hvah.t125 _ 2 rfl under106n info116n zero116v size116n rfl (by decide) (by decide) #[rk, rv] rfl rfl ?_)
            rintro B9 WB e9 r9 g9
            refine hK.out _ _ (HH.out.trans_ext e9) (fun hHeld => ?_)
            clear hK K HH
            have HH : Hid (Mod (fun b => b = BX ∨ W8.heap.size ≤ b) W0 _) := hHeld
            clear hHeld
            change wpAnyH _ _ _ _ _ _ _ (Act.put _ (some 68) _) _
            simp only [Act.put, List.setIfInBounds_toArray, List.set_cons_zero, List.set_cons_succ]
            refine wpAnyH_ready (rs := [1]) (by kernel_rfl) (by simp) ?_
            refine AllReadyH.cons rfl (fun K hK => ?_) AllReadyH.nil
            refine step_any rfl (op_loadK rfl onet106n rfl (K23 _ (by (repeat (first | with_reducible exact Ext.refl _ | with_reducible assumption | refine Ext.trans ?_ (by with_reducible assumption) | refine Ext.alloc ?_ _ _ | refine Ext.drew ?_ | refine Ext.drewN ?_ _)))) ?_)
            refine hK.out _ _ HH.out (fun hHeld => ?_)
            clear hK K HH
            have HH : Hid (Mod (fun b => b = BX ∨ W8.heap.size ≤ b) W0 _) := hHeld
            clear hHeld
            change wpAnyH _ _ _ _ _ _ _ (Act.put _ (some 60) _) _
            simp only [Act.put, List.setIfInBounds_toArray, List.set_cons_zero, List.set_cons_succ]
            refine wpAnyH_ready (rs := [10]) (by kernel_rfl) (by simp) ?_
            refine AllReadyH.cons rfl (fun K hK => ?_) AllReadyH.nil
            have hrkB : NV (OC OX vj) WB rk sx.1 := hrk.ext (by (repeat (first | with_reducible exact Ext.refl _ | with_reducible assumption | refine Ext.trans ?_ (by with_reducible assumption) | refine Ext.alloc ?_ _ _ | refine Ext.drew ?_ | refine Ext.drewN ?_ _)))
            have hrvB : NV (OC OX vj) WB rv sx.2 := hrv.ext (by (repeat (first | with_reducible exact Ext.refl _ | with_reducible assumption | refine Ext.trans ?_ (by with_reducible assumption) | refine Ext.alloc ?_ _ _ | refine Ext.drew ?_ | refine Ext.drewN ?_ _)))
            have eX : Ext W5 WB := by (repeat (first | with_reducible exact Ext.refl _ | with_reducible assumption | refine Ext.trans ?_ (by with_reducible assumption) | refine Ext.alloc ?_ _ _ | refine Ext.drew ?_ | refine Ext.drewN ?_ _))
            refine step_any rfl (op_pushN _ _ 119 rfl sl106 (R := SlC) OX vj LS (fun b => W8.heap.size ≤ b) (hTN _ eX) (hG5'.ext eX (fun _ _ _ k => k.ext eX)) hlen ⟨B9, 0, none⟩ #[rk, rv] rfl r9 (fun u hu => by simp at hu; rcases hu with rfl | rfl <;> assumption) rfl rfl sx (fun c o hc => ⟨by rw [show c o = rk from hc 0 rk rfl]; exact hrkB, by rw [show c (o + 1) = rv from hc 1 rv rfl]; exact hrvB⟩) (fun _ _ _ _ _ _ hc k => k.cellsn hc) (fun _ _ _ _ _ _ _ m hs k => k.keepn m hs) (fun _ _ _ _ _ _ hr k => k.reon hr) ?_)
            rintro v9 W10 hG10 m10 _
            refine hK.out _ _ (HH.out.trans (m10.sub (fun b hb => Or.inr hb))) (fun hHeld => ?_)
            clear hK K HH
            have HH : Hid (Mod (fun b => b = BX ∨ W8.heap.size ≤ b) W0 _) := hHeld
            clear hHeld
            change wpAnyH _ _ _ _ _ _ _ (Act.put _ (some 69) _) _
            simp only [Act.put, List.setIfInBounds_toArray, List.set_cons_zero, List.set_cons_succ]
            refine wpAnyH_take (i := 11) (v := ?_) rfl (by kernel_rfl) (by kernel_rfl) (by kernel_rfl) (fun _ _ _ h => h) (Or.inl ⟨by rfl, ?_⟩) HH.out ?_
            rotate_left
            · intro w hSw; go_simp; try with_reducible rfl
            change wpAnyH _ _ _ _ _ _ _ (Act.put _ (some 70) _) _
            simp only [Act.put, List.setIfInBounds_toArray, List.set_cons_zero, List.set_cons_succ]
            refine wpAnyH_ready (rs := [12]) (by kernel_rfl) (by simp) ?_
            refine AllReadyH.cons rfl (fun K hK => ?_) AllReadyH.nil
            have bX10 := (bX5.ext eX).mod m10 (fun q => by omega)
            refine step_any rfl (op_store1 rfl onet106n rfl rfl (grow_onen hG10) bX10 (by decide) ?_)
            rintro W11 b9 m11
            have hG9 : GRow 125 2 (SlC (OC OX v9) W11) (fun b => W8.heap.size ≤ b) W11 v9 (LS ++ [sx]) := hG10.mono (fun _ _ _ k => k.keepn m11 (fun b hb q => hb (Or.inl (by have q2 : b = BX := q; rw [q2]; exact hOXX)))) (fun b _ q => q) (fun b n t c k q => k.mod m11 (fun e => by have e2 : b = BX := e; omega))
            have m9' : Mod (· = BX) W8 W11 := ((m5'.trans_ext eX).trans' m10 (fun b q => Or.inr q)).trans m11
            refine hK.out _ _ (HH.out.trans (m11.sub (fun b hb => Or.inl hb))) (fun hHeld => ?_)
            clear hK K HH
            have HH : Hid (Mod (fun b => b = BX ∨ W8.heap.size ≤ b) W0 _) := hHeld
            clear hHeld
            change wpAnyH _ _ _ _ _ _ _ (Act.put _ none _) _
            simp only [Act.put, List.setIfInBounds_toArray, List.set_cons_zero, List.set_cons_succ]
            refine wpAnyH_done (by kernel_rfl) ?_ _
            exact key W11 v9 B9 rk rv ⟨b9, hG9, m9'⟩
            rintro W11 v9 B9 rk rv ⟨b9, hG9, m9'⟩
            go_wp2
            go_roundw
            case rel =>
              have h9 := hj2.out
              refine ⟨j2, v9, rfl, by rw [← h9]; exact hjlt, ?_, ?_, m9'⟩
              · rw [← hcX.out] at b9; exact b9.same (fun q hq => acR_updn ha _ _ _ _ _ q hq)
              · rw [← h9, htks.out, hLS.out]; exact hG9
            case measure => exact meas_ltn hj2.out hjlt
          · have zj : ¬ (j : Int) < sl.length := by omega
            obtain rfl : j = sl.length := by omega
            rw [List.take_length] at hGj
            have gwX : wo.heap.size ≤ BX := Nat.le_trans hE4.size g4X
            have eE : Ext wo wr := Ext.trans_mod e48r hmj (fun q hq => by have hq2 : q = BX := hq; rw [hq2]; exact gwX)
            have eEw : Ext w wr := hEr.trans eE
            have hOOs : ∀ b, OO b → b < wo.heap.size := hOO9.out
            have hnOO : ∀ b, W8.heap.size ≤ b → ¬ OO b := fun b hb q => by have := hOOs b q; have := e48r.size; omega
            have hAcP : AcP OO wr x.ya rn rb rc vj := ⟨ha, (hrn.keep hmj (fun b hb q => hb (by have q2 : b = BX := q; rw [q2]; exact hOXX))).reo (fun b _ q => hOXO b q), (hrb.keep hmj (fun b hb q => hb (by have q2 : b = BX := q; rw [q2]; exact hOXX))).reo (fun b _ q => hOXO b q), (hrc.keep hmj (fun b hb q => hb (by have q2 : b = BX := q; rw [q2]; exact hOXX))).reo (fun b _ q => hOXO b q), by
              show SloL OO wr vj x.slots
              rw [hsl9.out]
              exact GRow.mono hGj (fun _ _ _ k => k.reon (fun b _ q => Or.inl (hOXO b q))) (fun b _ q => hnOO b q) (fun _ _ _ _ k _ => k)⟩
            obtain ⟨rX, hrX⟩ : ∃ z, Hid (acR x.addr rn rb rc vj = z) := ⟨_, rfl⟩
            have hsX : rX.size = 24 := by rw [← hrX.out]; exact acR_size ha _ _ _ _
            have honX : Ones rX := by rw [← hrX.out]; exact acR_one hrn.one hrb.one hrc.one (grow_onen hGj)
            have hRX : ∀ W', Ext wr W' → ∀ c o, (∀ j u, rX[j]? = some u → c (o + j) = u) → YAC OO W' c o x.ya := fun W' hW c o h => acR_rown (x := x.ya) (hAcP.ext hW) c o (fun j z hz => h j z (by rw [← hrX.out]; exact hz))
            have hrX21 : cf rX 21 = rb := by rw [← hrX.out]; exact (acR_cfn ha _ _ _ _).2.2.1
            rw [hrX.out] at bXj
            have hrbE : NV OO wr rb x.bal := hAcP.bal
            have bYE := bYr.ext eE
            have hGE : GRow 121 24 (YAC OO wr) (fun b => W9.heap.size ≤ b) wr va ((l.take i).map IAcct.ya) := by rw [← hOO.out]; exact hGr.ext eE (fun _ _ _ k => k.ext eE)
            have hNtE : NV OO wr vt (sumI (l.take i)) := by rw [← hOO.out]; exact hNt.ext eE
            have hMrE := hMr.trans_ext eE
            have hCb : ∀ b, CurB va b → W9.heap.size ≤ b ∧ b < wo.heap.size := fun b hb => OC.above hGr hb
            have hYX : ¬ BX = Y := fun q => by have := bYr.lt; omega
            have hCX : ¬ CurB va BX := fun q => by have := (hCb _ q).2; omega
            have hCY : ¬ CurB va Y := fun q => by have := (hCb _ q).1; omega
            have hlX : ((l.take i).map IAcct.ya).length ≤ 1048576 := by rw [List.length_map, List.length_take]; omega
            obtain ⟨LX, hLX⟩ : ∃ z, Hid ((l.take i).map IAcct.ya = z) := ⟨_, rfl⟩
            rw [hLX.out] at hGE hlX
            obtain ⟨SX, hSX⟩ : ∃ z, Hid (sumI (l.take i) = z) := ⟨_, rfl⟩
            rw [hSX.out] at hNtE
            obtain ⟨ox, hox⟩ : ∃ z, Hid (x.ya = z) := ⟨_, rfl⟩
            rw [hox.out] at hRX
            have KY0 : ∀ W', Ext wr W' → W'.cell? ⟨Y, 0, none⟩ = some va := fun W' hW => by rw [(bYE.ext hW).cell (by decide), hva]
            have hbX : x.bal < P256 := hbl
            rw [← hOO.out] at hGE hNtE hrbE hRX
            replace hva := (show Hid _ from hva)
            replace hvt := (show Hid _ from hvt)
            replace hCb := (show Hid _ from hCb)
            clear hGj hmj hAcP hrn hrb hrc bX b48 hrX hcs hsl9 hOX hOXX hOXO hOCX hOOC hOOY hOOs hnOO hGr hNt bYr e48r eW8 hE4 hE4w hE8w hMr h84 hOO9
            go_upto_region 15 with (fail)
            refine w_ext ?_
            rintro W0 hW0
            have bXRow : ∀ W', Mod (fun b => b = Y ∨ CurB va b) wr W' → RowIn W' BX 0 rX := fun W' hW => row_of_blkn (bXj.mod hW (fun q => q.elim hYX hCX)) hsX
            refine' joinN3 (P := _) (Fc := fun W11 v9 B9 => Blk W11 Y 179 118 (updv cY 0 v9) ∧ GRow 121 24 (YAC (OC (OY O Y) v9) W11) (fun b => W9.heap.size ≤ b) W11 v9 (LX ++ [ox]) ∧ NV (OC (OY O Y) v9) W11 vt SX ∧ NV (OC (OY O Y) v9) W11 rb x.bal ∧ Blk W11 BX 24 121 (cf rX) ∧ Mod (fun b => b = Y ∨ CurB va b) wr W11) (fun key => _) _
            rotate_left
            refine wp_region_held_drew (S := fun w' => Mod (fun b => b = Y ∨ CurB va b) W0 w') (by kernel_rfl) (Mod.refl _ _).drew (fun hHeld => ?_)
            have HH : Hid (Mod (fun b => b = Y ∨ CurB va b) W0 _) := hHeld
            clear hHeld
            refine wpAnyH_take (i := 0) (v := ?_) rfl (by kernel_rfl) (by kernel_rfl) (by kernel_rfl) (fun _ _ _ h => h) (Or.inl ⟨by rfl, ?_⟩) HH.out ?_
            rotate_left
            · intro w hSw; go_simp; try with_reducible rfl
            change wpAnyH _ _ _ _ _ _ _ (Act.put _ (some 72) _) _
            simp only [Act.put, List.setIfInBounds_toArray, List.set_cons_zero, List.set_cons_succ]
            refine wpAnyH_take (i := 1) (v := ?_) rfl (by kernel_rfl) (by kernel_rfl) (by kernel_rfl) (fun _ _ _ h => h) (Or.inl ⟨by rfl, ?_⟩) HH.out ?_
            rotate_left
            · intro w hSw; go_simp; try with_reducible rfl
            change wpAnyH _ _ _ _ _ _ _ (Act.put _ (some 73) _) _
            simp only [Act.put, List.setIfInBounds_toArray, List.set_cons_zero, List.set_cons_succ]
            refine wpAnyH_take (i := 2) (v := ?_) rfl (by kernel_rfl) (by kernel_rfl) (by kernel_rfl) (fun _ _ _ h => h) (Or.inl ⟨by rfl, ?_⟩) HH.out ?_
            rotate_left
            · intro w hSw; go_simp; try with_reducible rfl
            change wpAnyH _ _ _ _ _ _ _ (Act.put _ (some 74) _) _
            simp only [Act.put, List.setIfInBounds_toArray, List.set_cons_zero, List.set_cons_succ]
            refine wpAnyH_take (i := 3) (v := ?_) rfl (by kernel_rfl) (by kernel_rfl) (by kernel_rfl) (fun _ _ _ h => h) (Or.inl ⟨by rfl, ?_⟩) HH.out ?_
            rotate_left
            · intro w hSw; go_simp; try with_reducible rfl
            change wpAnyH _ _ _ _ _ _ _ (Act.put _ (some 75) _) _
            simp only [Act.put, List.setIfInBounds_toArray, List.set_cons_zero, List.set_cons_succ]
            refine wpAnyH_take (i := 4) (v := ?_) rfl (by kernel_rfl) (by kernel_rfl) (by kernel_rfl) (fun _ _ _ h => h) (Or.inl ⟨by rfl, ?_⟩) HH.out ?_
            rotate_left
            · intro w hSw; go_simp; try with_reducible rfl
            change wpAnyH _ _ _ _ _ _ _ (Act.put _ (some 76) _) _
            simp only [Act.put, List.setIfInBounds_toArray, List.set_cons_zero, List.set_cons_succ]
            refine wpAnyH_take (i := 5) (v := ?_) rfl (by kernel_rfl) (by kernel_rfl) (by kernel_rfl) (fun _ _ _ h => h) (Or.inl ⟨by rfl, ?_⟩) HH.out ?_
            rotate_left
            · intro w hSw; go_simp; try with_reducible rfl
            change wpAnyH _ _ _ _ _ _ _ (Act.put _ (some 77) _) _
            simp only [Act.put, List.setIfInBounds_toArray, List.set_cons_zero, List.set_cons_succ]
            refine wpAnyH_take (i := 7) rfl (by kernel_rfl) (by kernel_rfl) (by kernel_rfl) (fun _ _ _ h => h) (yields_Re rt108n (by rfl) rfl rfl (fun w hSw => bXRow w ((hW0.mod _).trans hSw)) hsX) HH.out ?_
            change wpAnyH _ _ _ _ _ _ _ (Act.put _ (some 79) _) _
            simp only [Act.put, List.setIfInBounds_toArray, List.set_cons_zero, List.set_cons_succ]
            refine wpAnyH_ready (rs := [6, 8]) (by kernel_rfl) (by simp) ?_
            refine (AllReadyH.cons rfl (fun K hK => ?_) (AllReadyH.cons rfl (fun K hK => ?_) AllReadyH.nil))
            refine step_any rfl (op_loadK rfl onet93n rfl (KY0 _ (by (repeat (first | with_reducible exact Ext.refl _ | with_reducible assumption | refine Ext.trans ?_ (by with_reducible assumption) | refine Ext.alloc ?_ _ _ | refine Ext.drew ?_ | refine Ext.drewN ?_ _)))) ?_)
            refine hK.out _ _ HH.out (fun hHeld => ?_)
            clear hK K HH
            have HH : Hid (Mod (fun b => b = Y ∨ CurB va b) W0 _) := hHeld
            clear hHeld
            change wpAnyH _ _ _ _ _ _ _ (Act.put _ (some 78) _) _
            simp only [Act.put, List.setIfInBounds_toArray, List.set_cons_zero, List.set_cons_succ]
            refine wpAnyH_ready (rs := [8]) (by kernel_rfl) (by simp) ?_
            refine AllReadyH.cons rfl (fun K hK => ?_) AllReadyH.nil
            refine step_any rfl (op_build1 121 Hvah.t121 _ 24 rfl under93n info108n zero108w size108n rfl (by decide) (by decide) rX hsX rfl ?_)
            rintro B9 WB e9 r9 g9
            refine hK.out _ _ (HH.out.trans_ext e9) (fun hHeld => ?_)
            clear hK K HH
            have HH : Hid (Mod (fun b => b = Y ∨ CurB va b) W0 _) := hHeld
            clear hHeld
            change wpAnyH _ _ _ _ _ _ _ (Act.put _ (some 80) _) _
            simp only [Act.put, List.setIfInBounds_toArray, List.set_cons_zero, List.set_cons_succ]
            refine wpAnyH_ready (rs := [9]) (by kernel_rfl) (by simp) ?_
            refine AllReadyH.cons rfl (fun K hK => ?_) AllReadyH.nil
            have eX : Ext wr WB := by (repeat (first | with_reducible exact Ext.refl _ | with_reducible assumption | refine Ext.trans ?_ (by with_reducible assumption) | refine Ext.alloc ?_ _ _ | refine Ext.drew ?_ | refine Ext.drewN ?_ _))
            refine step_any rfl (op_pushN _ _ 106 rfl sl93 (R := YAC) (OY O Y) va LX (fun b => CurB va b ∨ WB.heap.size ≤ b) (fun b hb => Or.inr hb) ((hGE.ext eX (fun _ _ _ k => k.ext eX)).curT (fun b hb _ => Or.inl hb)) hlX ⟨B9, 0, none⟩ rX hsX r9 honX rfl rfl ox (hRX _ eX) (fun _ _ _ _ _ _ hc k => k.cellsn hc) (fun _ _ _ _ _ _ _ m hs k => k.keepn m hs) (fun _ _ _ _ _ _ hr k => k.reon hr) ?_)
            rintro v9 W10 hG10 m10 hv9
            have hN10 := (hNtE.ext eX).pushN m10 hv9
            have hR10 := (hrbE.ext eX).pushN m10 hv9
            have m10' : Mod (fun b => b = Y ∨ CurB va b) W0 W10 := HH.out.trans' m10 (fun b hb => hb.elim (fun q => Or.inl (Or.inr q)) (fun q => Or.inr (Nat.le_trans HH.out.size q)))
            refine hK.out _ _ m10' (fun hHeld => ?_)
            clear hK K HH
            have HH : Hid (Mod (fun b => b = Y ∨ CurB va b) W0 _) := hHeld
            clear hHeld
            change wpAnyH _ _ _ _ _ _ _ (Act.put _ (some 81) _) _
            simp only [Act.put, List.setIfInBounds_toArray, List.set_cons_zero, List.set_cons_succ]
            refine wpAnyH_take (i := 10) (v := ?_) rfl (by kernel_rfl) (by kernel_rfl) (by kernel_rfl) (fun _ _ _ h => h) (Or.inl ⟨by rfl, ?_⟩) HH.out ?_
            rotate_left
            · intro w hSw; go_simp; try with_reducible rfl
            change wpAnyH _ _ _ _ _ _ _ (Act.put _ (some 82) _) _
            simp only [Act.put, List.setIfInBounds_toArray, List.set_cons_zero, List.set_cons_succ]
            refine wpAnyH_take (i := 11) (v := ?_) rfl (by kernel_rfl) (by kernel_rfl) (by kernel_rfl) (fun _ _ _ h => h) (Or.inl ⟨by rfl, ?_⟩) HH.out ?_
            rotate_left
            · intro w hSw; go_simp; try with_reducible rfl
            change wpAnyH _ _ _ _ _ _ _ (Act.put _ (some 83) _) _
            simp only [Act.put, List.setIfInBounds_toArray, List.set_cons_zero, List.set_cons_succ]
            refine wpAnyH_take (i := 12) (v := ?_) rfl (by kernel_rfl) (by kernel_rfl) (by kernel_rfl) (fun _ _ _ h => h) (Or.inl ⟨by rfl, ?_⟩) HH.out ?_
            rotate_left
            · intro w hSw; go_simp; try with_reducible rfl
            change wpAnyH _ _ _ _ _ _ _ (Act.put _ (some 84) _) _
            simp only [Act.put, List.setIfInBounds_toArray, List.set_cons_zero, List.set_cons_succ]
            refine wpAnyH_take (i := 13) (v := ?_) rfl (by kernel_rfl) (by kernel_rfl) (by kernel_rfl) (fun _ _ _ h => h) (Or.inl ⟨by rfl, ?_⟩) HH.out ?_
            rotate_left
            · intro w hSw; go_simp; try with_reducible rfl
            change wpAnyH _ _ _ _ _ _ _ (Act.put _ (some 85) _) _
            simp only [Act.put, List.setIfInBounds_toArray, List.set_cons_zero, List.set_cons_succ]
            refine wpAnyH_ready (rs := [14]) (by kernel_rfl) (by simp) ?_
            refine AllReadyH.cons rfl (fun K hK => ?_) AllReadyH.nil
            have bY10 := (bYE.ext eX).mod m10 (fun q => q.elim hCY (fun q => by have := (bYE.ext eX).lt; omega))
            have bX10 := (bXj.ext eX).mod m10 (fun q => q.elim hCX (fun q => by have := (bXj.ext eX).lt; omega))
            refine step_any rfl (op_store1 rfl onet93n rfl rfl (grow_onen hG10) bY10 (by decide) ?_)
            rintro W11 b11 m11
            have hG11 : GRow 121 24 (YAC (OC (OY O Y) v9) W11) (fun b => W9.heap.size ≤ b) W11 v9 (LX ++ [ox]) := hG10.mono (fun _ _ _ k => k.keepn m11 (fun b hb q => hb (Or.inl (Or.inl q)))) (fun b _ q => q.elim (fun q => (hCb.out b q).1) (fun q => Nat.le_trans (Nat.le_trans hMrE.size eX.size) q)) (fun b n t c k q => k.mod m11 (fun e => by have e2 : b = Y := e; rw [e2] at q; exact q.elim hCY (fun q => by have := (bYE.ext eX).lt; omega)))
            have hN11 := hN10.keep m11 (fun b hb q => hb (Or.inl (Or.inl q)))
            have hR11 := hR10.keep m11 (fun b hb q => hb (Or.inl (Or.inl q)))
            have m11' : Mod (fun b => b = Y ∨ CurB va b) W0 W11 := m10'.trans (m11.sub (fun b hb => Or.inl hb))
            refine hK.out _ _ m11' (fun hHeld => ?_)
            clear hK K HH
            have HH : Hid (Mod (fun b => b = Y ∨ CurB va b) W0 _) := hHeld
            clear hHeld
            change wpAnyH _ _ _ _ _ _ _ (Act.put _ none _) _
            simp only [Act.put, List.setIfInBounds_toArray, List.set_cons_zero, List.set_cons_succ]
            refine wpAnyH_done (by kernel_rfl) ?_ _
            exact key W11 v9 B9 ⟨b11, hG11, hN11, hR11, bX10.mod m11 hYX, (hW0.mod _).trans m11'⟩
            refine step_any rfl (op_build1 121 Hvah.t121 _ 24 rfl under93n info108n zero108w size108n rfl (by decide) (by decide) rX hsX rfl ?_)
            rintro B9 WB e9 r9 g9
            refine hK.out _ _ (HH.out.trans_ext e9) (fun hHeld => ?_)
            clear hK K HH
            have HH : Hid (Mod (fun b => b = Y ∨ CurB va b) W0 _) := hHeld
            clear hHeld
            change wpAnyH _ _ _ _ _ _ _ (Act.put _ (some 80) _) _
            simp only [Act.put, List.setIfInBounds_toArray, List.set_cons_zero, List.set_cons_succ]
            refine wpAnyH_ready (rs := [6]) (by kernel_rfl) (by simp) ?_
            refine AllReadyH.cons rfl (fun K hK => ?_) AllReadyH.nil
            refine step_any rfl (op_loadK rfl onet93n rfl (KY0 _ (by (repeat (first | with_reducible exact Ext.refl _ | with_reducible assumption | refine Ext.trans ?_ (by with_reducible assumption) | refine Ext.alloc ?_ _ _ | refine Ext.drew ?_ | refine Ext.drewN ?_ _)))) ?_)
            refine hK.out _ _ HH.out (fun hHeld => ?_)
            clear hK K HH
            have HH : Hid (Mod (fun b => b = Y ∨ CurB va b) W0 _) := hHeld
            clear hHeld
            change wpAnyH _ _ _ _ _ _ _ (Act.put _ (some 78) _) _
            simp only [Act.put, List.setIfInBounds_toArray, List.set_cons_zero, List.set_cons_succ]
            refine wpAnyH_ready (rs := [9]) (by kernel_rfl) (by simp) ?_
            refine AllReadyH.cons rfl (fun K hK => ?_) AllReadyH.nil
            have eX : Ext wr WB := by (repeat (first | with_reducible exact Ext.refl _ | with_reducible assumption | refine Ext.trans ?_ (by with_reducible assumption) | refine Ext.alloc ?_ _ _ | refine Ext.drew ?_ | refine Ext.drewN ?_ _))
            refine step_any rfl (op_pushN _ _ 106 rfl sl93 (R := YAC) (OY O Y) va LX (fun b => CurB va b ∨ WB.heap.size ≤ b) (fun b hb => Or.inr hb) ((hGE.ext eX (fun _ _ _ k => k.ext eX)).curT (fun b hb _ => Or.inl hb)) hlX ⟨B9, 0, none⟩ rX hsX r9 honX rfl rfl ox (hRX _ eX) (fun _ _ _ _ _ _ hc k => k.cellsn hc) (fun _ _ _ _ _ _ _ m hs k => k.keepn m hs) (fun _ _ _ _ _ _ hr k => k.reon hr) ?_)
            rintro v9 W10 hG10 m10 hv9
            have hN10 := (hNtE.ext eX).pushN m10 hv9
            have hR10 := (hrbE.ext eX).pushN m10 hv9
            have m10' : Mod (fun b => b = Y ∨ CurB va b) W0 W10 := HH.out.trans' m10 (fun b hb => hb.elim (fun q => Or.inl (Or.inr q)) (fun q => Or.inr (Nat.le_trans HH.out.size q)))
            refine hK.out _ _ m10' (fun hHeld => ?_)
            clear hK K HH
            have HH : Hid (Mod (fun b => b = Y ∨ CurB va b) W0 _) := hHeld
            clear hHeld
            change wpAnyH _ _ _ _ _ _ _ (Act.put _ (some 81) _) _
            simp only [Act.put, List.setIfInBounds_toArray, List.set_cons_zero, List.set_cons_succ]
            refine wpAnyH_take (i := 10) (v := ?_) rfl (by kernel_rfl) (by kernel_rfl) (by kernel_rfl) (fun _ _ _ h => h) (Or.inl ⟨by rfl, ?_⟩) HH.out ?_
            rotate_left
            · intro w hSw; go_simp; try with_reducible rfl
            change wpAnyH _ _ _ _ _ _ _ (Act.put _ (some 82) _) _
            simp only [Act.put, List.setIfInBounds_toArray, List.set_cons_zero, List.set_cons_succ]
            refine wpAnyH_take (i := 11) (v := ?_) rfl (by kernel_rfl) (by kernel_rfl) (by kernel_rfl) (fun _ _ _ h => h) (Or.inl ⟨by rfl, ?_⟩) HH.out ?_
            rotate_left
            · intro w hSw; go_simp; try with_reducible rfl
            change wpAnyH _ _ _ _ _ _ _ (Act.put _ (some 83) _) _
            simp only [Act.put, List.setIfInBounds_toArray, List.set_cons_zero, List.set_cons_succ]
            refine wpAnyH_take (i := 12) (v := ?_) rfl (by kernel_rfl) (by kernel_rfl) (by kernel_rfl) (fun _ _ _ h => h) (Or.inl ⟨by rfl, ?_⟩) HH.out ?_
            rotate_left
            · intro w hSw; go_simp; try with_reducible rfl
            change wpAnyH _ _ _ _ _ _ _ (Act.put _ (some 84) _) _
            simp only [Act.put, List.setIfInBounds_toArray, List.set_cons_zero, List.set_cons_succ]
            refine wpAnyH_take (i := 13) (v := ?_) rfl (by kernel_rfl) (by kernel_rfl) (by kernel_rfl) (fun _ _ _ h => h) (Or.inl ⟨by rfl, ?_⟩) HH.out ?_
            rotate_left
            · intro w hSw; go_simp; try with_reducible rfl
            change wpAnyH _ _ _ _ _ _ _ (Act.put _ (some 85) _) _
            simp only [Act.put, List.setIfInBounds_toArray, List.set_cons_zero, List.set_cons_succ]
            refine wpAnyH_ready (rs := [14]) (by kernel_rfl) (by simp) ?_
            refine AllReadyH.cons rfl (fun K hK => ?_) AllReadyH.nil
            have bY10 := (bYE.ext eX).mod m10 (fun q => q.elim hCY (fun q => by have := (bYE.ext eX).lt; omega))
            have bX10 := (bXj.ext eX).mod m10 (fun q => q.elim hCX (fun q => by have := (bXj.ext eX).lt; omega))
            refine step_any rfl (op_store1 rfl onet93n rfl rfl (grow_onen hG10) bY10 (by decide) ?_)
            rintro W11 b11 m11
            have hG11 : GRow 121 24 (YAC (OC (OY O Y) v9) W11) (fun b => W9.heap.size ≤ b) W11 v9 (LX ++ [ox]) := hG10.mono (fun _ _ _ k => k.keepn m11 (fun b hb q => hb (Or.inl (Or.inl q)))) (fun b _ q => q.elim (fun q => (hCb.out b q).1) (fun q => Nat.le_trans (Nat.le_trans hMrE.size eX.size) q)) (fun b n t c k q => k.mod m11 (fun e => by have e2 : b = Y := e; rw [e2] at q; exact q.elim hCY (fun q => by have := (bYE.ext eX).lt; omega)))
            have hN11 := hN10.keep m11 (fun b hb q => hb (Or.inl (Or.inl q)))
            have hR11 := hR10.keep m11 (fun b hb q => hb (Or.inl (Or.inl q)))
            have m11' : Mod (fun b => b = Y ∨ CurB va b) W0 W11 := m10'.trans (m11.sub (fun b hb => Or.inl hb))
            refine hK.out _ _ m11' (fun hHeld => ?_)
            clear hK K HH
            have HH : Hid (Mod (fun b => b = Y ∨ CurB va b) W0 _) := hHeld
            clear hHeld
            change wpAnyH _ _ _ _ _ _ _ (Act.put _ none _) _
            simp only [Act.put, List.setIfInBounds_toArray, List.set_cons_zero, List.set_cons_succ]
            refine wpAnyH_done (by kernel_rfl) ?_ _
            exact key W11 v9 B9 ⟨b11, hG11, hN11, hR11, bX10.mod m11 hYX, (hW0.mod _).trans m11'⟩
            rintro W11 v9 B9 ⟨b11, hG11, hN11, hB11, bX11, hM11⟩
            go_upto_region 16 with (fail)
            refine w_ext ?_
            rintro W0 hW0
            have KY18 : ∀ W', Ext W11 W' → W'.cell? ⟨Y, 18, none⟩ = some vt := fun W' hW => by rw [(b11.ext hW).cell (by decide), updv_ne _ _ (by decide), hvt.out]
            have hO11 : Small (OC (OY O Y) v9) W11 := OC.smalln (fun b hb => hb.elim (fun hb2 => by rw [hb2]; exact b11.lt) (fun hb2 => Nat.lt_of_lt_of_le (hOs b hb2) (Nat.le_trans eEw.size hM11.size))) hG11
            have hSXl : SX < P256 := by rw [← hSX.out]; omega
            refine' joinN4 (P := _) (Fc := fun W12 vn => Blk W12 Y 179 118 (updv (updv cY 0 v9) 18 vn) ∧ GRow 121 24 (YAC (OC (OY O Y) v9) W12) (fun b => W9.heap.size ≤ b) W12 v9 (LX ++ [ox]) ∧ NV (OC (OY O Y) v9) W12 vn (SX + x.bal) ∧ Mod (fun b => b = Y) W11 W12) (fun key => _) _
            rotate_left
            refine wp_region_held_drew (S := fun w' => Mod (fun b => b = Y) W0 w') (by kernel_rfl) (Mod.refl _ _).drew (fun hHeld => ?_)
            have HH : Hid (Mod (fun b => b = Y) W0 _) := hHeld
            clear hHeld
            refine wpAnyH_take (i := 0) (v := ?_) rfl (by kernel_rfl) (by kernel_rfl) (by kernel_rfl) (fun _ _ _ h => h) (Or.inl ⟨by rfl, ?_⟩) HH.out ?_
            rotate_left
            · intro w hSw; go_simp; try with_reducible rfl
            change wpAnyH _ _ _ _ _ _ _ (Act.put _ (some 86) _) _
            simp only [Act.put, List.setIfInBounds_toArray, List.set_cons_zero, List.set_cons_succ]
            refine wpAnyH_take (i := 1) (v := ?_) rfl (by kernel_rfl) (by kernel_rfl) (by kernel_rfl) (fun _ _ _ h => h) (Or.inl ⟨by rfl, ?_⟩) HH.out ?_
            rotate_left
            · intro w hSw; go_simp; try with_reducible rfl
            change wpAnyH _ _ _ _ _ _ _ (Act.put _ (some 87) _) _
            simp only [Act.put, List.setIfInBounds_toArray, List.set_cons_zero, List.set_cons_succ]
            refine wpAnyH_take (i := 2) (v := ?_) rfl (by kernel_rfl) (by kernel_rfl) (by kernel_rfl) (fun _ _ _ h => h) (Or.inl ⟨by rfl, ?_⟩) HH.out ?_
            rotate_left
            · intro w hSw; go_simp; try with_reducible rfl
            change wpAnyH _ _ _ _ _ _ _ (Act.put _ (some 88) _) _
            simp only [Act.put, List.setIfInBounds_toArray, List.set_cons_zero, List.set_cons_succ]
            refine wpAnyH_take (i := 3) (v := ?_) rfl (by kernel_rfl) (by kernel_rfl) (by kernel_rfl) (fun _ _ _ h => h) (Or.inl ⟨by rfl, ?_⟩) HH.out ?_
            rotate_left
            · intro w hSw; go_simp; try with_reducible rfl
            change wpAnyH _ _ _ _ _ _ _ (Act.put _ (some 89) _) _
            simp only [Act.put, List.setIfInBounds_toArray, List.set_cons_zero, List.set_cons_succ]
            refine wpAnyH_take (i := 4) (v := ?_) rfl (by kernel_rfl) (by kernel_rfl) (by kernel_rfl) (fun _ _ _ h => h) (Or.inl ⟨by rfl, ?_⟩) HH.out ?_
            rotate_left
            · intro w hSw; go_simp; try with_reducible rfl
            change wpAnyH _ _ _ _ _ _ _ (Act.put _ (some 90) _) _
            simp only [Act.put, List.setIfInBounds_toArray, List.set_cons_zero, List.set_cons_succ]
            refine wpAnyH_take (i := 6) (v := ?_) rfl (by kernel_rfl) (by kernel_rfl) (by kernel_rfl) (fun _ _ _ h => h) (Or.inl ⟨by rfl, ?_⟩) HH.out ?_
            rotate_left
            · intro w hSw; go_simp; try with_reducible rfl
            change wpAnyH _ _ _ _ _ _ _ (Act.put _ (some 92) _) _
            simp only [Act.put, List.setIfInBounds_toArray, List.set_cons_zero, List.set_cons_succ]
            refine wpAnyH_take (i := 7) rfl (by kernel_rfl) (by kernel_rfl) (by kernel_rfl) (fun _ _ _ h => h) (yieldsIf_load1 (by rfl) _ _ rfl _ _ rfl onet96n _ (fun w hSw => ((bX11.mod ((hW0.mod _).trans hSw) hYX).cell (by decide)).trans (congrArg some hrX21))) HH.out ?_
            change wpAnyH _ _ _ _ _ _ _ (Act.put _ (some 93) _) _
            simp only [Act.put, List.setIfInBounds_toArray, List.set_cons_zero, List.set_cons_succ]
            refine wpAnyH_ready (rs := [5]) (by kernel_rfl) (by simp) ?_
            refine AllReadyH.cons rfl (fun K hK => ?_) AllReadyH.nil
            refine step_any rfl (op_loadK rfl onet96n rfl (KY18 _ (by (repeat (first | with_reducible exact Ext.refl _ | with_reducible assumption | refine Ext.trans ?_ (by with_reducible assumption) | refine Ext.alloc ?_ _ _ | refine Ext.drew ?_ | refine Ext.drewN ?_ _)))) ?_)
            refine hK.out _ _ HH.out (fun hHeld => ?_)
            clear hK K HH
            have HH : Hid (Mod (fun b => b = Y) W0 _) := hHeld
            clear hHeld
            change wpAnyH _ _ _ _ _ _ _ (Act.put _ (some 91) _) _
            simp only [Act.put, List.setIfInBounds_toArray, List.set_cons_zero, List.set_cons_succ]
            refine wpAnyH_ready (rs := [8]) (by kernel_rfl) (by simp) ?_
            refine AllReadyH.cons rfl (fun K hK => ?_) AllReadyH.nil
            go_simp
            go_at_call 44; refine (nAdd (OC (OY O Y) v9) _ _ _ _ _ (hO11.ext (by (repeat (first | with_reducible exact Ext.refl _ | with_reducible assumption | refine Ext.trans ?_ (by with_reducible assumption) | refine Ext.alloc ?_ _ _ | refine Ext.drew ?_ | refine Ext.drewN ?_ _)))) (hN11.ext (by (repeat (first | with_reducible exact Ext.refl _ | with_reducible assumption | refine Ext.trans ?_ (by with_reducible assumption) | refine Ext.alloc ?_ _ _ | refine Ext.drew ?_ | refine Ext.drewN ?_ _)))) (hB11.ext (by (repeat (first | with_reducible exact Ext.refl _ | with_reducible assumption | refine Ext.trans ?_ (by with_reducible assumption) | refine Ext.alloc ?_ _ _ | refine Ext.drew ?_ | refine Ext.drewN ?_ _)))) (Nat.le_trans (dl_P256' hSXl) (by decide)) (Nat.le_trans (dl_P256' hbX) (by decide))).mono ?_; rintro e wa ⟨vn, rfl, hvn, he⟩
            refine hK.out _ _ ?_ (fun hHeld => ?_)
            · first | exact HH.out.trans hmY | exact HH.out.trans_ext he | exact HH.out
            clear hK K HH
            have HH : Hid (Mod (fun b => b = Y) W0 _) := hHeld
            clear hHeld
            refine wpAnyH_take (i := 9) (v := ?_) rfl (by kernel_rfl) (by kernel_rfl) (by kernel_rfl) (fun _ _ _ h => h) (Or.inl ⟨by rfl, ?_⟩) HH.out ?_
            rotate_left
            · intro w hSw; go_simp; try with_reducible rfl
            change wpAnyH _ _ _ _ _ _ _ (Act.put _ (some 95) _) _
            simp only [Act.put, List.setIfInBounds_toArray, List.set_cons_zero, List.set_cons_succ]
            refine wpAnyH_take (i := 10) (v := ?_) rfl (by kernel_rfl) (by kernel_rfl) (by kernel_rfl) (fun _ _ _ h => h) (Or.inl ⟨by rfl, ?_⟩) HH.out ?_
            rotate_left
            · intro w hSw; go_simp; try with_reducible rfl
            change wpAnyH _ _ _ _ _ _ _ (Act.put _ (some 96) _) _
            simp only [Act.put, List.setIfInBounds_toArray, List.set_cons_zero, List.set_cons_succ]
            refine wpAnyH_take (i := 11) (v := ?_) rfl (by kernel_rfl) (by kernel_rfl) (by kernel_rfl) (fun _ _ _ h => h) (Or.inl ⟨by rfl, ?_⟩) HH.out ?_
            rotate_left
            · intro w hSw; go_simp; try with_reducible rfl
            change wpAnyH _ _ _ _ _ _ _ (Act.put _ (some 97) _) _
            simp only [Act.put, List.setIfInBounds_toArray, List.set_cons_zero, List.set_cons_succ]
            refine wpAnyH_ready (rs := [12]) (by kernel_rfl) (by simp) ?_
            refine AllReadyH.cons rfl (fun K hK => ?_) AllReadyH.nil
            refine step_any rfl (op_store1 rfl onet96n rfl rfl hvn.one (b11.ext (by (repeat (first | with_reducible exact Ext.refl _ | with_reducible assumption | refine Ext.trans ?_ (by with_reducible assumption) | refine Ext.alloc ?_ _ _ | refine Ext.drew ?_ | refine Ext.drewN ?_ _)))) (by decide) ?_)
            rintro W12 b12 m12
            have eX2 : Ext W11 wa := by (repeat (first | with_reducible exact Ext.refl _ | with_reducible assumption | refine Ext.trans ?_ (by with_reducible assumption) | refine Ext.alloc ?_ _ _ | refine Ext.drew ?_ | refine Ext.drewN ?_ _))
            have hG12 : GRow 121 24 (YAC (OC (OY O Y) v9) W12) (fun b => W9.heap.size ≤ b) W12 v9 (LX ++ [ox]) := (hG11.ext eX2 (fun _ _ _ k => k.ext eX2)).mono (fun _ _ _ k => k.keepn m12 (fun b hb q => hb (Or.inl (Or.inl q)))) (fun b _ q => q) (fun b n t c k q => k.mod m12 (fun e => by have e2 : b = Y := e; omega))
            have hN12 := hvn.keep m12 (fun b hb q => hb (Or.inl (Or.inl q)))
            refine hK.out _ _ (HH.out.trans m12) (fun hHeld => ?_)
            clear hK K HH
            have HH : Hid (Mod (fun b => b = Y) W0 _) := hHeld
            clear hHeld
            change wpAnyH _ _ _ _ _ _ _ (Act.put _ none _) _
            simp only [Act.put, List.setIfInBounds_toArray, List.set_cons_zero, List.set_cons_succ]
            refine wpAnyH_done (by kernel_rfl) ?_ _
            exact key W12 vn ⟨b12, hG12, hN12, (Ext.mod (by (repeat (first | with_reducible exact Ext.refl _ | with_reducible assumption | refine Ext.trans ?_ (by with_reducible assumption) | refine Ext.alloc ?_ _ _ | refine Ext.drew ?_ | refine Ext.drewN ?_ _))) _).trans m12⟩
            rintro W12 vn ⟨b12, hG12, hN12, hM12⟩
            go_wp2
            go_roundw
            case rel =>
              have h9 := hi1.out
              refine ⟨i1, v9, vn, _, rfl, by rw [← h9]; exact hlt, b12, ?_, ?_, ?_, ?_, ?_, ?_, ?_⟩
              · rw [updv_ne _ _ (by decide), updv_same]
              · rw [updv_same]
              · show ∀ k, k ≠ 0 → k ≠ 18 → _
                intro k h0 h18
                rw [updv_ne _ _ h18, updv_ne _ _ h0]
                exact hcY.out k h0 h18
              · rw [← h9, htk.out, hLX.out, hox.out]; exact hG12
              · rw [← h9, hsm, hSX.out]; exact hN12
              · exact Ext.trans_mod (Ext.trans_mod eEw hM11 (fun q hq => hq.elim (fun k => by rw [k]; exact gY) (fun k => Nat.le_trans hE9.size (hCb.out q k).1))) hM12 (fun q hq => by have hq2 : q = Y := hq; rw [hq2]; exact gY)
              · exact (hMrE.trans' hM11 (fun q hq => hq.elim Or.inl (fun k => Or.inr (hCb.out q k).1))).trans hM12
            case measure => exact meas_ltn hi1.out hlt
      · have z1 : ¬ (i : Int) < n := by omega
        obtain rfl : i = n := by omega
        rw [← hn.out, List.take_length] at hGr hNt
        go_wp2
        go_meet
        case rel => exact ⟨va, vt, cY, bYr, hva, hvt, hcY, hGr, hNt, hEr, hMr⟩
  case rest =>
  obtain ⟨va, vt, cY, bYf, hva, hvt, hcY, hGf, hNf, hEf, hMf⟩ := hcut
  obtain ⟨wf, ewf⟩ : ∃ X, X = wc := ⟨_, rfl⟩
  subst ewf
  replace hva := (show Hid _ from hva)
  replace hvt := (show Hid _ from hvt)
  go_wp2
  go_ret2
  refine ⟨Y, cY, rfl, ?_, (hcY.out 10 (by decide) (by decide)).trans ((hlow.out 10 (by decide)).trans hzl), gY, hEf⟩
  intro st k1 k2 k3 k4 k5
  have hc : ∀ i, i ≠ 0 → i ≠ 18 → i < 59 → cY i = cf z i := fun i h0 h1 h2 => (hcY.out i h0 h1).trans (hlow.out i h2)
  have hnilA : ∀ {sz : Nat} {ty : TypeId} {α : Type} {R : (Nat → Value) → Nat → α → Prop} {T : Nat → Prop}, GRow ty sz R T wf (.slice none 0 0) [] := Or.inl ⟨rfl, rfl⟩
  refine ⟨bYf, ⟨?_, ?_, ?_, ?_, ?_, ?_, ?_⟩, hlim, hwf, ?_, ?_, k1, ?_, ?_, ?_, ?_, k5, Or.inl rfl, ?_, rfl⟩
  · rw [hva.out]
    exact GRow.mono hGf (fun _ _ _ k => k.reon (fun b _ q => Or.inl q)) (fun b _ q k => k.elim (fun k2 => by omega) (fun k2 => by have := hOs b k2; have := hE9.size; omega)) (fun _ _ _ _ k _ => k)
  · rw [hc 1 (by decide) (by decide) (by decide), hza]; exact hnilA
  · rw [hc 2 (by decide) (by decide) (by decide), hzb]; exact hnilA
  · rw [hc 3 (by decide) (by decide) (by decide), hzc]; exact ⟨[], NL.nil, rfl⟩
  · rw [hc 5 (by decide) (by decide) (by decide), hze]; exact hnilA
  · rw [hc 6 (by decide) (by decide) (by decide), hzf]; exact hnilA
  · rw [hc 7 (by decide) (by decide) (by decide), hzg]; exact hnilA
  · exact fun b hb => hb.elim (fun hb2 => by rw [hb2]; exact bYf.lt) (fun hb2 => Nat.lt_of_lt_of_le (hOs b hb2) hEf.size)
  · rw [hc 11 (by decide) (by decide) (by decide), hzh, k1]; rfl
  · rw [hc 12 (by decide) (by decide) (by decide), hzi, k2]; rfl
  · rw [hc 13 (by decide) (by decide) (by decide), hzj, k3]; rfl
  · rw [hvt.out]; exact hNf.reo (fun b _ q => Or.inl q)
  · rw [k4]; exact henv.out cY wf (fun i hi => hcY.out i (by omega) (by omega)) hMf
  · rw [hc 4 (by decide) (by decide) (by decide), hzd]
end
end Go.Proofs.YgvahwGreat
